/- The proof that the law's row holds, part 4: the kit's words, the printed walks and the plain law. No conditions beyond the card's own. -/
import Derived.Lib.SlBytesConst
import Derived.Test.YtdffgeoegdkiaaaGreatDoorM0
import Derived.Test.YtdffgeoegdkiaaaGreatDoorM1
import Derived.Test.YtdffgeoegdkiaaaGreatDoorM2
import Derived.Test.YtdffgeoegdkiaaaGreatDoorM3
set_option linter.unusedVariables false
set_option linter.unusedSimpArgs false
namespace Go.Proofs.YtdffgeoegdkiaaaGreatDoor.F
open Go.Proofs.YtdffgeoegdkiaaaGreatDoor
open Go.RowKit Go.Proofs.YtdffgeoegdkiaaaGreatDoorW.PrintWords Go.Proofs.YtdffgeoegdkiaaaGreatDoorW.PrintLast Go.Proofs.YtdffgeoegdkiaaaGreatDoorW.PrintMore
attribute [local go_sem] max2_int min2_int max_two min_two max_three min_three max_four min_four
def spec_mcCells.l0 : Nat → List Int → Int → List Int → Int → Int → Int → Int → List Int → Option (Bool)
 | 0, _, _, _, _, _, _, _, _ => none
 | k + 1, x1, x2, x13, x14, x15, x102000, x102001, x102002 => if x15 < x14 then (if 0 ≤ x15 then (if x15 < (x13.length : Int) then ((spec_l1In.f (rd x13 x15) 0 (wrap64 ((x102002.length : Int) - 1))).bind fun t104 => (if t104 = true then (if x15 ≤ (x1.length : Int) then ((spec_l1Has.f k (x1.take (x15 : Int).toNat) (rd x13 x15)).bind fun t106 => (if t106 = true then (some false) else (if 0 ≤ (rd x13 x15) then (if (rd x13 x15) < (x102002.length : Int) then (if (rd x102002 (rd x13 x15)) = 35 then (some false) else (if x2 = 0 then (spec_mcCells.l0 k x1 x2 x13 x14 (wrap64 (x15 + 1)) x102000 x102001 x102002) else (if (rd x102002 (rd x13 x15)) = x2 then (spec_mcCells.l0 k x1 x2 x13 x14 (wrap64 (x15 + 1)) x102000 x102001 x102002) else (some false)))) else (none)) else (none)))) else (none)) else (some false))) else (none)) else (none)) else (some true)
def spec_mcCells.f (k : Nat) (a0_0 : Int) (a0_1 : Int) (l0_2 : List Int) (l1 : List Int) (a2 : Int) : Option (Bool) := (spec_l1In.f (l1.length : Int) 1 3).bind fun t102 => (if t102 = true then (spec_mcCells.l0 k l1 a2 l1 (l1.length : Int) 0 a0_0 a0_1 l0_2) else (some false))
theorem mcCells_len {P : Program} {f : FuncId} {A : Option Addr} {n m c : Nat} {x : Value} {w : World} {Q : Ending → World → Prop} (e : n = m) (h : Calls P f #[.slice A n c, x] w Q) : Calls P f #[.slice A m c, x] w Q := e ▸ h
theorem spec_mcCells.mono_l : ∀ k, (∀ y0 y1 y2 y3 y4 y5 y6 y7, LeO (spec_mcCells.l0 k y0 y1 y2 y3 y4 y5 y6 y7) (spec_mcCells.l0 (k + 1) y0 y1 y2 y3 y4 y5 y6 y7))
 | 0 => fun _ _ _ _ _ _ _ _ r h => by simp [spec_mcCells.l0] at h
 | k + 1 => by
  have ih0 := spec_mcCells.mono_l k
  ·intro y0 y1 y2 y3 y4 y5 y6 y7
   unfold spec_mcCells.l0
   have im0 := @spec_l1Has.mono; exact mo
theorem spec_mcCells.mono : ∀ a0 a1 a2 a3 a4 k, LeO (spec_mcCells.f k a0 a1 a2 a3 a4) (spec_mcCells.f (k + 1) a0 a1 a2 a3 a4) := by
 intro a0 a1 a2 a3 a4 k
 have ih0 := spec_mcCells.mono_l k
 unfold spec_mcCells.f
 have im0 := @spec_l1Has.mono; exact mo
set_option maxHeartbeats 8000000 in
set_option maxRecDepth 100000 in
theorem spec_mcCells.calls (k : Nat) (a0_0 : Int) (a0_1 : Int) (A0_2 : Option Addr) (c0_2 : Nat) (l0_2 : List Int) (A1 : Option Addr) (c1 : Nat) (l1 : List Int) (a2 : Int) (r : Bool) (w : World) (hr0_2 : Kd.C (Kd.int .u8) w A0_2 l0_2.length l0_2) (hc0_2 : l0_2.length ≤ c0_2) (hr1 : Kd.C (Kd.int .i64) w A1 l1.length l1) (hc1 : l1.length ≤ c1) (h : spec_mcCells.f k a0_0 a0_1 l0_2 l1 a2 = some r) :
  Calls Tryz.prog 113 #[.agg #[.int .i64 a0_0, .int .i64 a0_1, .slice A0_2 l0_2.length c0_2], .slice A1 l1.length c1, .int .u8 a2] w fun e w' => e = .returned (.bool r) ∧ Below w.heap.size w w' := by
 have hu62 := Tryz.underlying62
 have HR0_2 := am hr0_2
 have HC0_2 := am hc0_2
 clear hr0_2 hc0_2
 have HR1 := am hr1
 have HC1 := am hc1
 clear hr1 hc1
 have HB := am (Below.refl w.heap.size w)
 have H : ((spec_l1In.f (l1.length : Int) 1 3).bind fun t102 => (if t102 = true then (spec_mcCells.l0 k l1 a2 l1 (l1.length : Int) 0 a0_0 a0_1 l0_2) else (some false))) = some r := h
 clear h
 obtain ⟨t102, A40, H⟩ := Option.bind_eq_some_iff.mp H
 have A4 := am A40
 clear A40
 by_cases c5 : t102 = true
 ·subst c5
  rw [if_pos rfl] at H
  have H' := am H
  clear H
  go_enter Tryz.func113, Tryz.ntmps113
  go_wp2_with (first | ((with_reducible refine gate_dst (N := 3) rfl ?_); refine box_event ?hg (N := 3) ?hd (cs := #[.int .i64 a0_0, .int .i64 a0_1, .slice A0_2 l0_2.length c0_2]) (t := 62) ?hr ?_; (case hd => rfl); (case hg => rfl); (case hr => exact aq16); intro gb101 hg w6 hbox hb; have n0_ := am (below_step aq1 hb); have n1_ := am (hbox); have n2_ := am ((by rw [hg]; exact (below_size aq1) : w.heap.size ≤ gb101)); have n3_ := am ((by rw [hg]; exact (below_size aq1) : w.heap.size ≤ gb101)); clear HB; have HB := n0_; have BK101 := n1_; have GW101 := n2_; have GE101 := n3_; clear n0_ n1_ n2_ n3_; clear hb hbox hg) | ((with_reducible refine gate_callee (f := 52) rfl ?_); refine goesL_ (some 11) rfl rfl Tryz.func52 (by kernel_rfl) rfl #[.int .i64 (l1.length : Int), .int .i64 1, .int .i64 3] rfl aq5 ?_; (with_reducible refine (spec_l1In.calls (l1.length : Int) 1 3 true _ A4.out).mono ?_); rintro e w' ⟨rfl, ⟨nd, rfl⟩⟩; refine ⟨_, rfl, ?_⟩))
  go_loopg [15] k (fun kq v15 w' => ∃ (x15_1 : Int), v15 = .int .i64 x15_1 ∧ Aside0 (spec_mcCells.l0 kq l1 a2 l1 (l1.length : Int) x15_1 a0_0 a0_1 l0_2 = some r) ∧ Aside0 (kq ≤ k) ∧ Aside0 (w'.heap[gb101]? = some (.cells #[.int .i64 a0_0, .int .i64 a0_1, (.slice A0_2 l0_2.length c0_2)] 62 (0, 0))) ∧ Aside0 (Below w.heap.size w w'))
  case atStart => exact ⟨(0), aq7, H', ⟨Nat.le_refl _⟩, ⟨aq2⟩, ⟨aq0⟩⟩
  case round =>
   clear H'
   try clear c1
   try clear p2
   try clear c5
   obtain ⟨x15_1, rfl, HA, HK1, BK101, HB⟩ := hrel
   cases gk with
   | zero => exact absurd HA.out (by simp [spec_mcCells.l0])
   | succ k1 =>
    have H := HA.out
    clear HA
    simp only [spec_mcCells.l0] at H
    by_cases c7 : x15_1 < (l1.length : Int)
    ·rw [if_pos c7] at H
     have c7b0 := decide_eq_true c7
     clear c7
     by_cases c8 : 0 ≤ x15_1
     ·rw [if_pos c8] at H
      have c8b0 := decide_eq_true c8
      clear c8
      by_cases c9 : x15_1 < (l1.length : Int)
      ·rw [if_pos c9] at H
       have c9b0 := decide_eq_true c9
       clear c9
       obtain ⟨t104, A100, H⟩ := Option.bind_eq_some_iff.mp H
       have A10 := am A100
       clear A100
       by_cases c11 : t104 = true
       ·subst c11
        rw [if_pos rfl] at H
        have c12b0 := eq_true (of_decide_eq_true aq4 : 0 ≤ x15_1)
        by_cases c13 : x15_1 ≤ (l1.length : Int)
        ·rw [if_pos c13] at H
         have c13b0 := eq_true c13
         have c13b1 := decide_eq_true c13
         clear c13
         obtain ⟨t106, A140, H⟩ := Option.bind_eq_some_iff.mp H
         have A14 := am A140
         clear A140
         by_cases c15 : t106 = true
         ·subst c15
          rw [if_pos rfl] at H
          obtain rfl := Option.some.inj H
          have p103 : 0 ≤ (x15_1 : Int) := of_decide_eq_true aq4
          have q103 : x15_1 < (l1.length : Int) := of_decide_eq_true aq4
          obtain ⟨ad103, e103, hx103_0⟩ := Kd.at_int HR1.out x15_1 p103 q103
          cases e103
          try replace hx103_0 := (HB.out.cell (World.block_lt_of_cell? w _ hx103_0)).trans hx103_0
          replace p103 := eq_true p103
          replace q103 := eq_true q103
          obtain ⟨hcz16_0, hcz16_1, hcz16_2, hfz16_0, hfz16_1, hfz16_2⟩ := blk3_ BK101.out
          go_wp2_with (first | ((with_reducible refine gate_callee (f := 52) rfl ?_); refine goesL_ (some 25) rfl rfl Tryz.func52 (by kernel_rfl) rfl #[.int .i64 (rd l1 x15_1), .int .i64 0, .int .i64 (wrap64 ((l0_2.length : Int) - 1))] rfl aq5 ?_; (with_reducible refine (spec_l1In.calls (rd l1 x15_1) 0 (wrap64 ((l0_2.length : Int) - 1)) true _ A10.out).mono ?_); rintro e w' ⟨rfl, ⟨nd, rfl⟩⟩; refine ⟨_, rfl, ?_⟩; obtain ⟨i017, hi017, _, hsz17, _⟩ := info_parts info3; obtain ⟨hcut17, hA17, hC17⟩ := print_take_of (P := Tryz.prog) (Value.int .i64) 0 28 3 .i64 Tryz.underlying28 hi017 hsz17 (some ad103) c1 l1 x15_1 (of_decide_eq_true aq4) (of_decide_eq_true aq4) HC1.out; have HR105 := am (Kd.C_of_reads (h1 := fun _ => rfl) (hA17 _ (Kd.reads_of_C HR1.out))); have HC105 := am hC17; clear hA17 hC17 hi017 hsz17) | (go_at_call 79; refine mcCells_len (n := (l1.take (x15_1 : Int).toNat).length) (by rw [List.length_take]; have h_ : (x15_1 : Int) ≤ (l1.length : Int) := of_decide_eq_true aq4; omega) ?_; (with_reducible refine (spec_l1Has.calls k1 _ _ (l1.take (x15_1 : Int).toNat) (rd l1 x15_1) true _ ?side1 ?side2 A14.out).mono ?_); (case side1 => exact aq43); (case side2 => exact HC105.out); rintro e w' ⟨rfl, ⟨nd, rfl⟩⟩))
          go_ret
          exact ⟨aq8, aq0⟩
         ·replace c15 := Bool.eq_false_iff.mpr c15
          subst c15
          rw [if_neg Bool.false_ne_true] at H
          by_cases c18 : 0 ≤ (rd l1 x15_1)
          ·rw [if_pos c18] at H
           have c18b0 := decide_eq_true c18
           clear c18
           by_cases c19 : (rd l1 x15_1) < (l0_2.length : Int)
           ·rw [if_pos c19] at H
            have c19b0 := decide_eq_true c19
            clear c19
            by_cases c20 : (rd l0_2 (rd l1 x15_1)) = 35
            ·rw [if_pos c20] at H
             have c20b0 := beq_iff_eq.mpr c20
             have c20b1 := bne_eq_false_iff_eq.mpr c20
             clear c20
             obtain rfl := Option.some.inj H
             have p103 : 0 ≤ (x15_1 : Int) := of_decide_eq_true aq4
             have q103 : x15_1 < (l1.length : Int) := of_decide_eq_true aq4
             obtain ⟨ad103, e103, hx103_0⟩ := Kd.at_int HR1.out x15_1 p103 q103
             cases e103
             try replace hx103_0 := (HB.out.cell (World.block_lt_of_cell? w _ hx103_0)).trans hx103_0
             replace p103 := eq_true p103
             replace q103 := eq_true q103
             obtain ⟨hcz21_0, hcz21_1, hcz21_2, hfz21_0, hfz21_1, hfz21_2⟩ := blk3_ BK101.out
             go_wp2_with (first | ((with_reducible refine gate_callee (f := 52) rfl ?_); refine goesL_ (some 25) rfl rfl Tryz.func52 (by kernel_rfl) rfl #[.int .i64 (rd l1 x15_1), .int .i64 0, .int .i64 (wrap64 ((l0_2.length : Int) - 1))] rfl aq5 ?_; (with_reducible refine (spec_l1In.calls (rd l1 x15_1) 0 (wrap64 ((l0_2.length : Int) - 1)) true _ A10.out).mono ?_); rintro e w' ⟨rfl, ⟨nd, rfl⟩⟩; refine ⟨_, rfl, ?_⟩; obtain ⟨i022, hi022, _, hsz22, _⟩ := info_parts info3; obtain ⟨hcut22, hA22, hC22⟩ := print_take_of (P := Tryz.prog) (Value.int .i64) 0 28 3 .i64 Tryz.underlying28 hi022 hsz22 (some ad103) c1 l1 x15_1 (of_decide_eq_true aq4) (of_decide_eq_true aq4) HC1.out; have HR105 := am (Kd.C_of_reads (h1 := fun _ => rfl) (hA22 _ (Kd.reads_of_C HR1.out))); have HC105 := am hC22; clear hA22 hC22 hi022 hsz22) | (go_at_call 79; refine mcCells_len (n := (l1.take (x15_1 : Int).toNat).length) (by rw [List.length_take]; have h_ : (x15_1 : Int) ≤ (l1.length : Int) := of_decide_eq_true aq4; omega) ?_; (with_reducible refine (spec_l1Has.calls k1 _ _ (l1.take (x15_1 : Int).toNat) (rd l1 x15_1) false _ ?side1 ?side2 A14.out).mono ?_); (case side1 => exact aq43); (case side2 => exact HC105.out); rintro e w' ⟨rfl, ⟨nd, rfl⟩⟩; have p107 : 0 ≤ ((rd l1 x15_1) : Int) := of_decide_eq_true aq4; have q107 : (rd l1 x15_1) < (l0_2.length : Int) := of_decide_eq_true aq4; obtain ⟨ad107, e107, hx107_0⟩ := Kd.at_int HR0_2.out (rd l1 x15_1) p107 q107; cases e107; replace hx107_0 := (HB.out.cell (World.block_lt_of_cell? w _ hx107_0)).trans hx107_0; replace p107 := eq_true p107; replace q107 := eq_true q107))
             go_ret
             exact ⟨aq8, aq0⟩
            ·rw [if_neg c20] at H
             have c20b0 := beq_eq_false_iff_ne.mpr c20
             have c20b1 := bne_iff_ne.mpr c20
             by_cases c23 : a2 = 0
             ·rw [if_pos c23] at H
              have c23b0 := beq_iff_eq.mpr c23
              have c23b1 := bne_eq_false_iff_eq.mpr c23
              clear c23
              have H' := am H
              clear H
              have p103 : 0 ≤ (x15_1 : Int) := of_decide_eq_true aq4
              have q103 : x15_1 < (l1.length : Int) := of_decide_eq_true aq4
              obtain ⟨ad103, e103, hx103_0⟩ := Kd.at_int HR1.out x15_1 p103 q103
              cases e103
              try replace hx103_0 := (HB.out.cell (World.block_lt_of_cell? w _ hx103_0)).trans hx103_0
              replace p103 := eq_true p103
              replace q103 := eq_true q103
              obtain ⟨hcz24_0, hcz24_1, hcz24_2, hfz24_0, hfz24_1, hfz24_2⟩ := blk3_ BK101.out
              go_wp2_with (first | ((with_reducible refine gate_callee (f := 52) rfl ?_); refine goesL_ (some 25) rfl rfl Tryz.func52 (by kernel_rfl) rfl #[.int .i64 (rd l1 x15_1), .int .i64 0, .int .i64 (wrap64 ((l0_2.length : Int) - 1))] rfl aq5 ?_; (with_reducible refine (spec_l1In.calls (rd l1 x15_1) 0 (wrap64 ((l0_2.length : Int) - 1)) true _ A10.out).mono ?_); rintro e w' ⟨rfl, ⟨nd, rfl⟩⟩; refine ⟨_, rfl, ?_⟩; obtain ⟨i025, hi025, _, hsz25, _⟩ := info_parts info3; obtain ⟨hcut25, hA25, hC25⟩ := print_take_of (P := Tryz.prog) (Value.int .i64) 0 28 3 .i64 Tryz.underlying28 hi025 hsz25 (some ad103) c1 l1 x15_1 (of_decide_eq_true aq4) (of_decide_eq_true aq4) HC1.out; have HR105 := am (Kd.C_of_reads (h1 := fun _ => rfl) (hA25 _ (Kd.reads_of_C HR1.out))); have HC105 := am hC25; clear hA25 hC25 hi025 hsz25) | (go_at_call 79; refine mcCells_len (n := (l1.take (x15_1 : Int).toNat).length) (by rw [List.length_take]; have h_ : (x15_1 : Int) ≤ (l1.length : Int) := of_decide_eq_true aq4; omega) ?_; (with_reducible refine (spec_l1Has.calls k1 _ _ (l1.take (x15_1 : Int).toNat) (rd l1 x15_1) false _ ?side1 ?side2 A14.out).mono ?_); (case side1 => exact aq43); (case side2 => exact HC105.out); rintro e w' ⟨rfl, ⟨nd, rfl⟩⟩; have p107 : 0 ≤ ((rd l1 x15_1) : Int) := of_decide_eq_true aq4; have q107 : (rd l1 x15_1) < (l0_2.length : Int) := of_decide_eq_true aq4; obtain ⟨ad107, e107, hx107_0⟩ := Kd.at_int HR0_2.out (rd l1 x15_1) p107 q107; cases e107; replace hx107_0 := (HB.out.cell (World.block_lt_of_cell? w _ hx107_0)).trans hx107_0; replace p107 := eq_true p107; replace q107 := eq_true q107))
              go_roundg k1
              case measure => have := HK1.out; omega
              case rel => exact ⟨(wrap64 (x15_1 + 1)), aq7, H', ⟨aq73⟩, ⟨aq2⟩, ⟨aq0⟩⟩
             ·rw [if_neg c23] at H
              have c23b0 := beq_eq_false_iff_ne.mpr c23
              have c23b1 := bne_iff_ne.mpr c23
              by_cases c26 : (rd l0_2 (rd l1 x15_1)) = a2
              ·rw [if_pos c26] at H
               have c26b0 := beq_iff_eq.mpr c26
               have c26b1 := bne_eq_false_iff_eq.mpr c26
               clear c26
               have H' := am H
               clear H
               have p103 : 0 ≤ (x15_1 : Int) := of_decide_eq_true aq4
               have q103 : x15_1 < (l1.length : Int) := of_decide_eq_true aq4
               obtain ⟨ad103, e103, hx103_0⟩ := Kd.at_int HR1.out x15_1 p103 q103
               cases e103
               try replace hx103_0 := (HB.out.cell (World.block_lt_of_cell? w _ hx103_0)).trans hx103_0
               replace p103 := eq_true p103
               replace q103 := eq_true q103
               obtain ⟨hcz27_0, hcz27_1, hcz27_2, hfz27_0, hfz27_1, hfz27_2⟩ := blk3_ BK101.out
               go_wp2_with (first | ((with_reducible refine gate_callee (f := 52) rfl ?_); refine goesL_ (some 25) rfl rfl Tryz.func52 (by kernel_rfl) rfl #[.int .i64 (rd l1 x15_1), .int .i64 0, .int .i64 (wrap64 ((l0_2.length : Int) - 1))] rfl aq5 ?_; (with_reducible refine (spec_l1In.calls (rd l1 x15_1) 0 (wrap64 ((l0_2.length : Int) - 1)) true _ A10.out).mono ?_); rintro e w' ⟨rfl, ⟨nd, rfl⟩⟩; refine ⟨_, rfl, ?_⟩; obtain ⟨i028, hi028, _, hsz28, _⟩ := info_parts info3; obtain ⟨hcut28, hA28, hC28⟩ := print_take_of (P := Tryz.prog) (Value.int .i64) 0 28 3 .i64 Tryz.underlying28 hi028 hsz28 (some ad103) c1 l1 x15_1 (of_decide_eq_true aq4) (of_decide_eq_true aq4) HC1.out; have HR105 := am (Kd.C_of_reads (h1 := fun _ => rfl) (hA28 _ (Kd.reads_of_C HR1.out))); have HC105 := am hC28; clear hA28 hC28 hi028 hsz28) | (go_at_call 79; refine mcCells_len (n := (l1.take (x15_1 : Int).toNat).length) (by rw [List.length_take]; have h_ : (x15_1 : Int) ≤ (l1.length : Int) := of_decide_eq_true aq4; omega) ?_; (with_reducible refine (spec_l1Has.calls k1 _ _ (l1.take (x15_1 : Int).toNat) (rd l1 x15_1) false _ ?side1 ?side2 A14.out).mono ?_); (case side1 => exact aq43); (case side2 => exact HC105.out); rintro e w' ⟨rfl, ⟨nd, rfl⟩⟩; have p107 : 0 ≤ ((rd l1 x15_1) : Int) := of_decide_eq_true aq4; have q107 : (rd l1 x15_1) < (l0_2.length : Int) := of_decide_eq_true aq4; obtain ⟨ad107, e107, hx107_0⟩ := Kd.at_int HR0_2.out (rd l1 x15_1) p107 q107; cases e107; replace hx107_0 := (HB.out.cell (World.block_lt_of_cell? w _ hx107_0)).trans hx107_0; replace p107 := eq_true p107; replace q107 := eq_true q107; have p108 : 0 ≤ ((rd l1 x15_1) : Int) := of_decide_eq_true aq4; have q108 : (rd l1 x15_1) < (l0_2.length : Int) := of_decide_eq_true aq4; obtain ⟨ad108, e108, hx108_0⟩ := Kd.at_int HR0_2.out (rd l1 x15_1) p108 q108; obtain rfl : ad107 = ad108 := (by injection e108); replace hx108_0 := (HB.out.cell (World.block_lt_of_cell? w _ hx108_0)).trans hx108_0; replace p108 := eq_true p108; replace q108 := eq_true q108))
               go_roundg k1
               case measure => have := HK1.out; omega
               case rel => exact ⟨(wrap64 (x15_1 + 1)), aq7, H', ⟨aq73⟩, ⟨aq2⟩, ⟨aq0⟩⟩
              ·rw [if_neg c26] at H
               have c26b0 := beq_eq_false_iff_ne.mpr c26
               have c26b1 := bne_iff_ne.mpr c26
               obtain rfl := Option.some.inj H
               have p103 : 0 ≤ (x15_1 : Int) := of_decide_eq_true aq4
               have q103 : x15_1 < (l1.length : Int) := of_decide_eq_true aq4
               obtain ⟨ad103, e103, hx103_0⟩ := Kd.at_int HR1.out x15_1 p103 q103
               cases e103
               try replace hx103_0 := (HB.out.cell (World.block_lt_of_cell? w _ hx103_0)).trans hx103_0
               replace p103 := eq_true p103
               replace q103 := eq_true q103
               obtain ⟨hcz29_0, hcz29_1, hcz29_2, hfz29_0, hfz29_1, hfz29_2⟩ := blk3_ BK101.out
               go_wp2_with (first | ((with_reducible refine gate_callee (f := 52) rfl ?_); refine goesL_ (some 25) rfl rfl Tryz.func52 (by kernel_rfl) rfl #[.int .i64 (rd l1 x15_1), .int .i64 0, .int .i64 (wrap64 ((l0_2.length : Int) - 1))] rfl aq5 ?_; (with_reducible refine (spec_l1In.calls (rd l1 x15_1) 0 (wrap64 ((l0_2.length : Int) - 1)) true _ A10.out).mono ?_); rintro e w' ⟨rfl, ⟨nd, rfl⟩⟩; refine ⟨_, rfl, ?_⟩; obtain ⟨i030, hi030, _, hsz30, _⟩ := info_parts info3; obtain ⟨hcut30, hA30, hC30⟩ := print_take_of (P := Tryz.prog) (Value.int .i64) 0 28 3 .i64 Tryz.underlying28 hi030 hsz30 (some ad103) c1 l1 x15_1 (of_decide_eq_true aq4) (of_decide_eq_true aq4) HC1.out; have HR105 := am (Kd.C_of_reads (h1 := fun _ => rfl) (hA30 _ (Kd.reads_of_C HR1.out))); have HC105 := am hC30; clear hA30 hC30 hi030 hsz30) | (go_at_call 79; refine mcCells_len (n := (l1.take (x15_1 : Int).toNat).length) (by rw [List.length_take]; have h_ : (x15_1 : Int) ≤ (l1.length : Int) := of_decide_eq_true aq4; omega) ?_; (with_reducible refine (spec_l1Has.calls k1 _ _ (l1.take (x15_1 : Int).toNat) (rd l1 x15_1) false _ ?side1 ?side2 A14.out).mono ?_); (case side1 => exact aq43); (case side2 => exact HC105.out); rintro e w' ⟨rfl, ⟨nd, rfl⟩⟩; have p107 : 0 ≤ ((rd l1 x15_1) : Int) := of_decide_eq_true aq4; have q107 : (rd l1 x15_1) < (l0_2.length : Int) := of_decide_eq_true aq4; obtain ⟨ad107, e107, hx107_0⟩ := Kd.at_int HR0_2.out (rd l1 x15_1) p107 q107; cases e107; replace hx107_0 := (HB.out.cell (World.block_lt_of_cell? w _ hx107_0)).trans hx107_0; replace p107 := eq_true p107; replace q107 := eq_true q107; have p108 : 0 ≤ ((rd l1 x15_1) : Int) := of_decide_eq_true aq4; have q108 : (rd l1 x15_1) < (l0_2.length : Int) := of_decide_eq_true aq4; obtain ⟨ad108, e108, hx108_0⟩ := Kd.at_int HR0_2.out (rd l1 x15_1) p108 q108; obtain rfl : ad107 = ad108 := (by injection e108); replace hx108_0 := (HB.out.cell (World.block_lt_of_cell? w _ hx108_0)).trans hx108_0; replace p108 := eq_true p108; replace q108 := eq_true q108))
               go_ret
               exact ⟨aq8, aq0⟩
           ·rw [if_neg c19] at H
            exact absurd H (by simp)
          ·rw [if_neg c18] at H
           exact absurd H (by simp)
        ·rw [if_neg c13] at H
         exact absurd H (by simp)
       ·replace c11 := Bool.eq_false_iff.mpr c11
        subst c11
        rw [if_neg Bool.false_ne_true] at H
        obtain rfl := Option.some.inj H
        have p103 : 0 ≤ (x15_1 : Int) := of_decide_eq_true aq4
        have q103 : x15_1 < (l1.length : Int) := of_decide_eq_true aq4
        obtain ⟨ad103, e103, hx103_0⟩ := Kd.at_int HR1.out x15_1 p103 q103
        cases e103
        try replace hx103_0 := (HB.out.cell (World.block_lt_of_cell? w _ hx103_0)).trans hx103_0
        replace p103 := eq_true p103
        replace q103 := eq_true q103
        obtain ⟨hcz31_0, hcz31_1, hcz31_2, hfz31_0, hfz31_1, hfz31_2⟩ := blk3_ BK101.out
        go_wp2_with (first | ((with_reducible refine gate_callee (f := 52) rfl ?_); refine goesL_ (some 25) rfl rfl Tryz.func52 (by kernel_rfl) rfl #[.int .i64 (rd l1 x15_1), .int .i64 0, .int .i64 (wrap64 ((l0_2.length : Int) - 1))] rfl aq5 ?_; (with_reducible refine (spec_l1In.calls (rd l1 x15_1) 0 (wrap64 ((l0_2.length : Int) - 1)) false _ A10.out).mono ?_); rintro e w' ⟨rfl, ⟨nd, rfl⟩⟩; refine ⟨_, rfl, ?_⟩))
        go_ret
        exact ⟨aq8, aq0⟩
      ·rw [if_neg c9] at H
       exact absurd H (by simp)
     ·rw [if_neg c8] at H
      exact absurd H (by simp)
    ·rw [if_neg c7] at H
     have c7b0 := decide_eq_false c7
     clear c7
     obtain rfl := Option.some.inj H
     go_wp2
     go_ret
     exact ⟨aq8, aq0⟩
 ·replace c5 := Bool.eq_false_iff.mpr c5
  subst c5
  rw [if_neg Bool.false_ne_true] at H
  obtain rfl := Option.some.inj H
  go_enter Tryz.func113, Tryz.ntmps113
  go_wp2_with (first | ((with_reducible refine gate_dst (N := 3) rfl ?_); refine box_event ?hg (N := 3) ?hd (cs := #[.int .i64 a0_0, .int .i64 a0_1, .slice A0_2 l0_2.length c0_2]) (t := 62) ?hr ?_; (case hd => rfl); (case hg => rfl); (case hr => exact aq16); intro gb101 hg w32 hbox hb; have n0_ := am (below_step aq1 hb); have n1_ := am (hbox); have n2_ := am ((by rw [hg]; exact (below_size aq1) : w.heap.size ≤ gb101)); have n3_ := am ((by rw [hg]; exact (below_size aq1) : w.heap.size ≤ gb101)); clear HB; have HB := n0_; have BK101 := n1_; have GW101 := n2_; have GE101 := n3_; clear n0_ n1_ n2_ n3_; clear hb hbox hg) | ((with_reducible refine gate_callee (f := 52) rfl ?_); refine goesL_ (some 11) rfl rfl Tryz.func52 (by kernel_rfl) rfl #[.int .i64 (l1.length : Int), .int .i64 1, .int .i64 3] rfl aq5 ?_; (with_reducible refine (spec_l1In.calls (l1.length : Int) 1 3 false _ A4.out).mono ?_); rintro e w' ⟨rfl, ⟨nd, rfl⟩⟩; refine ⟨_, rfl, ?_⟩))
  go_ret
  exact ⟨aq8, aq0⟩
def spec_mcGate.f (k : Nat) (a0 : ByteArray) (l1 : List Int) (l2 : List Int) (a3 : ByteArray) : Option (Int × Int × List Int × Bool) := (spec_mcRead.f k a0 a3).bind fun bt102 => (if bt102.2.2.2 = true then ((spec_mcCells.f k bt102.1 bt102.2.1 bt102.2.2.1 l1 46).bind fun t109 => (if t109 = true then ((spec_mcCells.f k bt102.1 bt102.2.1 bt102.2.2.1 l2 0).bind fun t110 => (some (bt102.1, bt102.2.1, bt102.2.2.1, t110))) else (some (bt102.1, bt102.2.1, bt102.2.2.1, false)))) else (some (bt102.1, bt102.2.1, bt102.2.2.1, false)))
theorem spec_mcGate.mono : ∀ a0 a1 a2 a3 k, LeO (spec_mcGate.f k a0 a1 a2 a3) (spec_mcGate.f (k + 1) a0 a1 a2 a3) := by
 intro a0 a1 a2 a3 k
 unfold spec_mcGate.f
 have im0 := @spec_mcCells.mono; have im1 := @spec_mcRead.mono; exact mo
def spec_mcGate.T2 : Bool × List (List Nat × List Nat) := (true, [([], []), ([], []), ([1], [1]), ([2], [2]), ([2], [2]), ([3, 4, 2, 2], [2, 3, 4]), ([2, 5], [2, 5]), ([6, 5], [6]), ([7], [7]), ([7], [7]), ([8, 9, 7, 7], [7, 8, 9]), ([7, 10], [7, 10]), ([0, 10, 0], [0]), ([11, 12, 0, 1, 2, 3, 4, 5, 6, 7, 8, 9, 10, 11, 12], [11])])
def spec_mcGate.B2 : List Nat := [0, 0, 2, 6, 6, 30, 62, 126, 254, 254, 1022, 2046, 2047, 8191]
theorem spec_mcGate.tab2 : rtab .any (opsOf Tryz.f62 2) = spec_mcGate.T2 := by kernel_rfl
theorem spec_mcGate.bits2 : waitsOk spec_mcGate.T2.2 spec_mcGate.B2 = true := by kernel_rfl
set_option maxHeartbeats 8000000 in
set_option maxRecDepth 100000 in
theorem spec_mcGate.calls (k : Nat) (a0 : ByteArray) (A1 : Option Addr) (c1 : Nat) (l1 : List Int) (A2 : Option Addr) (c2 : Nat) (l2 : List Int) (a3 : ByteArray) (r1 : Int) (r2 : Int) (r3 : List Int) (r4 : Bool) (w : World) (hr1 : Kd.C (Kd.int .i64) w A1 l1.length l1) (hc1 : l1.length ≤ c1) (hr2 : Kd.C (Kd.int .i64) w A2 l2.length l2) (hc2 : l2.length ≤ c2) (h : spec_mcGate.f k a0 l1 l2 a3 = some (r1, r2, r3, r4)) :
  Calls Tryz.prog 62 #[.string a0, .slice A1 l1.length c1, .slice A2 l2.length c2, .string a3] w fun e w' => ∃ v2_ : Value, e = .returned (.tuple #[.agg #[.int .i64 r1, .int .i64 r2, v2_], .bool r4]) ∧ Kd.R (Kd.int .u8) 5 w' w.heap.size (fun _ => True) v2_ r3 ∧ Below w.heap.size w w' := by
 have hu62 := Tryz.underlying62
 have HR1 := am hr1
 have HC1 := am hc1
 clear hr1 hc1
 have HR2 := am hr2
 have HC2 := am hc2
 clear hr2 hc2
 have HB := am (Below.refl w.heap.size w)
 have H : ((spec_mcRead.f k a0 a3).bind fun bt102 => (if bt102.2.2.2 = true then ((spec_mcCells.f k bt102.1 bt102.2.1 bt102.2.2.1 l1 46).bind fun t109 => (if t109 = true then ((spec_mcCells.f k bt102.1 bt102.2.1 bt102.2.2.1 l2 0).bind fun t110 => (some (bt102.1, bt102.2.1, bt102.2.2.1, t110))) else (some (bt102.1, bt102.2.1, bt102.2.2.1, false)))) else (some (bt102.1, bt102.2.1, bt102.2.2.1, false)))) = some (r1, r2, r3, r4) := h
 clear h
 replace H := Option.bind_eq_some_iff.mp H
 obtain ⟨⟨t102, t103, t104, t107⟩, A50, H⟩ := H
 replace H : (if t107 = true then ((spec_mcCells.f k t102 t103 t104 l1 46).bind fun t109 => (if t109 = true then ((spec_mcCells.f k t102 t103 t104 l2 0).bind fun t110 => (some (t102, t103, t104, t110))) else (some (t102, t103, t104, false)))) else (some (t102, t103, t104, false))) = some (r1, r2, r3, r4) := H
 have A5 := am A50
 clear A50
 by_cases c6 : t107 = true
 ·subst c6
  rw [if_pos rfl] at H
  obtain ⟨t109, A70, H⟩ := Option.bind_eq_some_iff.mp H
  have A7 := am A70
  clear A70
  by_cases c8 : t109 = true
  ·subst c8
   rw [if_pos rfl] at H
   obtain ⟨t110, A90, H⟩ := Option.bind_eq_some_iff.mp H
   have A9 := am A90
   clear A90
   simp only [Option.some.injEq, Prod.mk.injEq] at H
   obtain ⟨rfl, rfl, rfl, rfl⟩ := H
   go_enter Tryz.func62, Tryz.ntmps62
   try go_wp2_with (first | ((with_reducible refine gate_dst (N := 8) rfl ?_); refine box_event ?hg (N := 8) ?hd (cs := #[.int .i64 0, .int .i64 0, .slice none 0 0]) (t := 62) ?hr ?_; (case hd => rfl); (case hg => rfl); (case hr => exact aq16); intro gb101 hg w10 hbox hb; have n0_ := am (below_step aq1 hb); have n1_ := am (hbox); have n2_ := am ((by rw [hg]; exact (below_size aq1) : w.heap.size ≤ gb101)); have n3_ := am ((by rw [hg]; exact (below_size aq1) : w.heap.size ≤ gb101)); clear HB; have HB := n0_; have BK101 := n1_; have GW101 := n2_; have GE101 := n3_; clear n0_ n1_ n2_ n3_; clear hb hbox hg) | ((with_reducible refine gate_callee (f := 112) rfl ?_); refine goesL_ (some 15) rfl rfl Tryz.func112 (by kernel_rfl) rfl #[.string a0, .string a3] rfl aq5 ?_; (with_reducible refine (spec_mcRead.calls k a0 a3 t102 t103 t104 true _ A5.out).mono ?_); rintro e w11 ⟨v105, rfl, ho0, hb⟩; refine ⟨_, rfl, ?_⟩; have n0_ := am (Kd.R_lower ho0 (below_size aq0)); have n1_ := am (blk_below (g := gb101) (o := .cells #[.int .i64 0, .int .i64 0, .slice none 0 0] 62 (0, 0)) aq2 hb); have n2_ := am (below_step aq0 hb); clear BK101; clear HB; have HO106 := n0_; have BK101 := n1_; have HB := n2_; clear n0_ n1_ n2_; (try clear hb); (try clear hb2); (try clear hk); (try clear hi); (try clear ho0)) | ((with_reducible refine gate_dst (N := 10) rfl ?_); refine box_event ?hg (N := 10) ?hd (cs := #[.int .i64 0, .int .i64 0, .slice none 0 0]) (t := 62) ?hr ?_; (case hd => rfl); (case hg => rfl); (case hr => exact aq16); intro gb108 hg w12 hbox hb; have n0_ := am (Kd.R_below aq29 hb); have n1_ := am (blk_below (g := gb101) (o := .cells #[.int .i64 0, .int .i64 0, .slice none 0 0] 62 (0, 0)) aq2 hb); have n2_ := am (below_step aq0 hb); have n3_ := am (hbox); have n4_ := am ((by rw [hg]; exact (below_size aq0) : w.heap.size ≤ gb108)); have n5_ := am ((by rw [hg]; exact (below_size aq0) : w.heap.size ≤ gb108)); have n6_ := am ((by rw [hg]; exact Nat.ne_of_lt (blk_lt (g := gb101) (o := .cells #[.int .i64 0, .int .i64 0, .slice none 0 0] 62 (0, 0)) aq2) : gb101 ≠ gb108)); have n7_ := am ((by rw [hg]; exact Nat.ne_of_gt (blk_lt (g := gb101) (o := .cells #[.int .i64 0, .int .i64 0, .slice none 0 0] 62 (0, 0)) aq2) : gb108 ≠ gb101)); clear HO106; clear BK101; clear HB; have HO106 := n0_; have BK101 := n1_; have HB := n2_; have BK108 := n3_; have GW108 := n4_; have GE108 := n5_; have NB101_108 := n6_; have NB108_101 := n7_; clear n0_ n1_ n2_ n3_ n4_ n5_ n6_ n7_; clear hb hbox hg; have hnb13 := NB108_101.out; have hnc13 := NB101_108.out; obtain ⟨hcz14_0, hcz14_1, hcz14_2, hfz14_0, hfz14_1, hfz14_2⟩ := blk3_ BK108.out; obtain ⟨Ao15, co15, eo15⟩ := Kd.R_slice HO106.out; subst eo15))
   have n0_ : Aside0 (Kd.R (Kd.int .u8) 5 (((w12.setCell ⟨gb108, 0, none⟩ (.int .i64 t102)).setCell ⟨gb108, 1, none⟩ (.int .i64 t103)).setCell ⟨gb108, 2, none⟩ (.slice Ao15 t104.length co15)) w.heap.size (fun _ => True) (.slice Ao15 t104.length co15) t104) := ⟨by (with_reducible repeat (first | apply Kd.R_alloc | apply Kd.R_drewN | apply Kd.R_drew)); exact Kd.R_mono (Kd.R_far (p := ⟨gb108, 2, none⟩) (Kd.R_far (p := ⟨gb108, 1, none⟩) (Kd.R_far (p := ⟨gb108, 0, none⟩) (Kd.R_types HO106.out BK108.out (by decide)) (fun _ hk => hk.2) (.int .i64 t102)) (fun _ hk => hk.2) (.int .i64 t103)) (fun _ hk => hk.2) (.slice Ao15 t104.length co15)) (fun _ hk => trivial)⟩
   have n1_ : Aside0 ((((w12.setCell ⟨gb108, 0, none⟩ (.int .i64 t102)).setCell ⟨gb108, 1, none⟩ (.int .i64 t103)).setCell ⟨gb108, 2, none⟩ (.slice Ao15 t104.length co15)).heap[gb101]? = some (.cells #[.int .i64 0, .int .i64 0, .slice none 0 0] 62 (0, 0))) := ⟨aq33⟩
   have n2_ : Aside0 ((((w12.setCell ⟨gb108, 0, none⟩ (.int .i64 t102)).setCell ⟨gb108, 1, none⟩ (.int .i64 t103)).setCell ⟨gb108, 2, none⟩ (.slice Ao15 t104.length co15)).heap[gb108]? = some (.cells #[.int .i64 t102, .int .i64 t103, .slice Ao15 t104.length co15] 62 (0, 0))) := ⟨aq12⟩
   have n3_ : Aside0 (Below w.heap.size w (((w12.setCell ⟨gb108, 0, none⟩ (.int .i64 t102)).setCell ⟨gb108, 1, none⟩ (.int .i64 t103)).setCell ⟨gb108, 2, none⟩ (.slice Ao15 t104.length co15))) := ⟨aq14⟩
   (try clear HO106)
   (try clear BK101)
   (try clear BK108)
   (try clear HB)
   generalize (((w12.setCell ⟨gb108, 0, none⟩ (.int .i64 t102)).setCell ⟨gb108, 1, none⟩ (.int .i64 t103)).setCell ⟨gb108, 2, none⟩ (.slice Ao15 t104.length co15)) = w16 at n0_ n1_ n2_ n3_ ⊢
   have HO106 := n0_
   have BK101 := n1_
   have BK108 := n2_
   have HB := n3_
   clear n0_ n1_ n2_ n3_
   have n0_ := am (Kd.R_drew HO106.out)
   have n1_ := am (blk_drew BK101.out)
   have n2_ := am (blk_drew BK108.out)
   have n3_ := am (below_drew1 HB.out)
   clear HO106
   clear BK101
   clear BK108
   clear HB
   have HO106 := n0_
   have BK101 := n1_
   have BK108 := n2_
   have HB := n3_
   clear n0_ n1_ n2_ n3_
   refine start_ (n := 14) (S := fun w' => w'.cell? ⟨gb108, 0, none⟩ = some (.int .i64 t102) ∧ w'.cell? ⟨gb108, 1, none⟩ = some (.int .i64 t103) ∧ w'.cell? ⟨gb108, 2, none⟩ = some (.slice Ao15 t104.length co15)) (ds := []) #[false, false, false, false, false, false, false, false, false, false, false, false, false, false] (by kernel_rfl) rfl rfl ⟨(blk_cell BK108.out 0).trans rfl, (blk_cell BK108.out 1).trans rfl, (blk_cell BK108.out 2).trans rfl⟩ (fun hHeld => ?_); refine with_tabW spec_mcGate.tab2 spec_mcGate.bits2 (fun HT_ HW_ => ?_)
   generalize w16.drew = w17 at HO106 BK101 BK108 HB hHeld ⊢
   refine pure_ (i := 1) (N := some 19) (v := ?_) (a' := ?_) (bm 14 2) rfl rfl (any_of HT_.out (by kernel_rfl)) (fun _ _ _ h => h) (Or.inl ⟨by rfl, ?_⟩) ?_ ?_
   rotate_left
   ·intro w'
    go_simp
    with_reducible rfl
   rotate_left
   ·simp only [Act.put, ac_]
    rfl
   refine pure_ (i := 2) (N := some 20) (v := ?_) (a' := ?_) (bm 14 6) rfl rfl (any_of HT_.out (by kernel_rfl)) (fun _ _ _ h => h) (Or.inl ⟨by rfl, ?_⟩) ?_ ?_
   rotate_left
   ·intro w'
    go_simp
    with_reducible rfl
   rotate_left
   ·simp only [Act.put, ac_]
    rfl
   refine pure_ (i := 4) (N := some 22) (v := ?_) (a' := ?_) (bm 14 22) rfl rfl (any_of HT_.out (by kernel_rfl)) (fun _ _ _ h => h) (Or.inl ⟨by rfl, ?_⟩) ?_ ?_
   rotate_left
   ·intro w'
    go_simp
    with_reducible rfl
   rotate_left
   ·simp only [Act.put, ac_]
    rfl
   refine take_ (i := 0) (N := some 18) (v := ?_) (a' := ?_) (bm 14 23) rfl rfl (take_ofW HT_.out HW_.out (by kernel_rfl)) (fun _ _ _ h => h) (Or.inl ⟨by rfl, ?_⟩) hHeld ?_ ?_
   rotate_left
   ·rintro w' ⟨s0, s1, s2⟩
    go_simp
    with_reducible rfl
   rotate_left
   ·simp only [Act.put, ac_]
    rfl
   refine take_ (i := 3) (N := some 21) (v := ?_) (a' := ?_) (bm 14 31) rfl rfl (take_ofW HT_.out HW_.out (by kernel_rfl)) (fun _ _ _ h => h) (Or.inl ⟨by rfl, ?_⟩) hHeld ?_ ?_
   rotate_left
   ·rintro w' ⟨s0, s1, s2⟩
    go_simp
    with_reducible rfl
   rotate_left
   ·simp only [Act.put, ac_]
    rfl
   refine one_ (i := 5) (N := some 23) (bm 14 63) rfl rfl (one_of HT_.out (by kernel_rfl)) (by decide) (fun K hK => ?_)
   refine goes_ Tryz.func113 (by kernel_rfl) rfl #[.agg #[.int .i64 t102, .int .i64 t103, .slice Ao15 t104.length co15], .slice A1 l1.length c1, .int .u8 46] (by rfl) rfl rfl aq5 ?_
   with_reducible refine (spec_mcCells.calls k t102 t103 _ _ t104 _ _ l1 46 true _ ?side1 ?side2 ?side3 ?side4 A7.out).mono ?_
   (case side1 => exact aq66)
   (case side2 => exact (Kd.R_reads' HO106.out).2.1)
   (case side3 => exact aq15)
   (case side4 => exact HC1.out)
   rintro e w18 ⟨rfl, hb⟩
   refine ⟨_, rfl, ?_⟩
   have n0_ := am (Kd.R_below aq29 hb)
   have n1_ := am (blk_below (g := gb101) (o := .cells #[.int .i64 0, .int .i64 0, .slice none 0 0] 62 (0, 0)) aq2 hb)
   have n2_ := am (blk_below (g := gb108) (o := .cells #[.int .i64 t102, .int .i64 t103, .slice Ao15 t104.length co15] 62 (0, 0)) aq76 hb)
   have n3_ := am (below_step aq14 hb)
   clear HO106
   clear BK101
   clear BK108
   clear HB
   have HO106 := n0_
   have BK101 := n1_
   have BK108 := n2_
   have HB := n3_
   clear n0_ n1_ n2_ n3_
   (try clear hb)
   (try clear hb2)
   (try clear hk)
   (try clear hi)
   refine hK.out _ _ ⟨(blk_cell BK108.out 0).trans rfl, (blk_cell BK108.out 1).trans rfl, (blk_cell BK108.out 2).trans rfl⟩ (fun hHeld => ?_)
   clear hK K
   refine norm_ (a' := ?_) ?_ ?_
   rotate_left
   ·show Act.put _ (some 23) _ = _
    simp only [Act.put, ac_]
    rfl
   refine pure_ (i := 6) (N := some 24) (v := ?_) (a' := ?_) (bm 14 127) rfl rfl (any_of HT_.out (by kernel_rfl)) (fun _ _ _ h => h) (Or.inl ⟨by rfl, ?_⟩) ?_ ?_
   rotate_left
   ·intro w'
    go_simp
    with_reducible rfl
   rotate_left
   ·simp only [Act.put, ac_]
    rfl
   refine pure_ (i := 7) (N := some 25) (v := ?_) (a' := ?_) (bm 14 255) rfl rfl (any_of HT_.out (by kernel_rfl)) (fun _ _ _ h => h) (Or.inl ⟨by rfl, ?_⟩) ?_ ?_
   rotate_left
   ·intro w'
    go_simp
    with_reducible rfl
   rotate_left
   ·simp only [Act.put, ac_]
    rfl
   refine pure_ (i := 9) (N := some 27) (v := ?_) (a' := ?_) (bm 14 767) rfl rfl (any_of HT_.out (by kernel_rfl)) (fun _ _ _ h => h) (Or.inl ⟨by rfl, ?_⟩) ?_ ?_
   rotate_left
   ·intro w'
    go_simp
    with_reducible rfl
   rotate_left
   ·simp only [Act.put, ac_]
    rfl
   refine take_ (i := 8) (N := some 26) (v := ?_) (a' := ?_) (bm 14 1023) rfl rfl (take_ofW HT_.out HW_.out (by kernel_rfl)) (fun _ _ _ h => h) (Or.inl ⟨by rfl, ?_⟩) hHeld ?_ ?_
   rotate_left
   ·rintro w' ⟨s0, s1, s2⟩
    go_simp
    with_reducible rfl
   rotate_left
   ·simp only [Act.put, ac_]
    rfl
   refine one_ (i := 10) (N := some 28) (bm 14 2047) rfl rfl (one_of HT_.out (by kernel_rfl)) (by decide) (fun K hK => ?_)
   refine goes_ Tryz.func113 (by kernel_rfl) rfl #[.agg #[.int .i64 t102, .int .i64 t103, .slice Ao15 t104.length co15], .slice A2 l2.length c2, .int .u8 0] (by rfl) rfl rfl aq5 ?_
   with_reducible refine (spec_mcCells.calls k t102 t103 _ _ t104 _ _ l2 0 t110 _ ?side1 ?side2 ?side3 ?side4 A9.out).mono ?_
   (case side1 => exact aq66)
   (case side2 => exact (Kd.R_reads' HO106.out).2.1)
   (case side3 => exact aq92)
   (case side4 => exact HC2.out)
   rintro e w19 ⟨rfl, hb⟩
   refine ⟨_, rfl, ?_⟩
   have n0_ := am (Kd.R_below aq29 hb)
   have n1_ := am (blk_below (g := gb101) (o := .cells #[.int .i64 0, .int .i64 0, .slice none 0 0] 62 (0, 0)) aq2 hb)
   have n2_ := am (blk_below (g := gb108) (o := .cells #[.int .i64 t102, .int .i64 t103, .slice Ao15 t104.length co15] 62 (0, 0)) aq76 hb)
   have n3_ := am (below_step aq14 hb)
   clear HO106
   clear BK101
   clear BK108
   clear HB
   have HO106 := n0_
   have BK101 := n1_
   have BK108 := n2_
   have HB := n3_
   clear n0_ n1_ n2_ n3_
   (try clear hb)
   (try clear hb2)
   (try clear hk)
   (try clear hi)
   refine hK.out _ _ ⟨(blk_cell BK108.out 0).trans rfl, (blk_cell BK108.out 1).trans rfl, (blk_cell BK108.out 2).trans rfl⟩ (fun hHeld => ?_)
   clear hK K
   refine norm_ (a' := ?_) ?_ ?_
   rotate_left
   ·show Act.put _ (some 28) _ = _
    simp only [Act.put, ac_]
    rfl
   refine pure_ (i := 11) (N := some 29) (v := ?_) (a' := ?_) (bm 14 4095) rfl rfl (any_of HT_.out (by kernel_rfl)) (fun _ _ _ h => h) (Or.inl ⟨by rfl, ?_⟩) ?_ ?_
   rotate_left
   ·intro w'
    go_simp
    with_reducible rfl
   rotate_left
   ·simp only [Act.put, ac_]
    rfl
   refine one_ (i := 12) (N := none) (bm 14 8191) rfl rfl (one_of HT_.out (by kernel_rfl)) (by decide) (fun K hK => ?_)
   have hs20 : w19.cell? ⟨gb101, 0, none⟩ = some (.int .i64 0) := (blk_cell BK101.out 0).trans rfl
   have hfs20 := blk_frozen BK101.out 0
   have hns20_1 := NB108_101.out
   have hms20_1 := NB101_108.out
   have hs21 : w19.cell? ⟨gb101, 1, none⟩ = some (.int .i64 0) := (blk_cell BK101.out 1).trans rfl
   have hfs21 := blk_frozen BK101.out 1
   have hns21_1 := NB108_101.out
   have hms21_1 := NB101_108.out
   have hs22 : w19.cell? ⟨gb101, 2, none⟩ = some (.slice none 0 0) := (blk_cell BK101.out 2).trans rfl
   have hfs22 := blk_frozen BK101.out 2
   have hns22_1 := NB108_101.out
   have hms22_1 := NB101_108.out
   refine skip_ (w1 := ?_) (by rfl) rfl ?_ ?_
   rotate_left
   ·go_simp
    rfl
   refine hK.out _ _ ⟨((cell_far (p := ⟨gb101, _, none⟩) NB108_101.out _).trans (((cell_far (p := ⟨gb101, _, none⟩) NB108_101.out _).trans (((cell_far (p := ⟨gb101, _, none⟩) NB108_101.out _).trans (hHeld.1)))))), ((cell_far (p := ⟨gb101, _, none⟩) NB108_101.out _).trans (((cell_far (p := ⟨gb101, _, none⟩) NB108_101.out _).trans (((cell_far (p := ⟨gb101, _, none⟩) NB108_101.out _).trans (hHeld.2.1)))))), ((cell_far (p := ⟨gb101, _, none⟩) NB108_101.out _).trans (((cell_far (p := ⟨gb101, _, none⟩) NB108_101.out _).trans (((cell_far (p := ⟨gb101, _, none⟩) NB108_101.out _).trans (hHeld.2.2))))))⟩ (fun hHeld => ?_)
   clear hK K
   refine pure_ (i := 13) (N := some 9) (v := ?_) (a' := ?_) (bm 14 16383) rfl rfl (any_of HT_.out (by kernel_rfl)) (fun _ _ _ h => h) (Or.inl ⟨by rfl, ?_⟩) ?_ ?_
   rotate_left
   ·intro w'
    go_simp
    with_reducible rfl
   rotate_left
   ·simp only [Act.put, ac_]
    rfl
   refine done_ (done_of HT_.out (by kernel_rfl)) ?_
   try go_wp2
   refine bodyPost_ret (results_ct rfl _ _ gb101 62 #[.int .i64 t102, .int .i64 t103, .slice Ao15 t104.length co15] (0, 0) _ rfl aq32 Tryz.underlying62 rfl (by kernel_rfl)) rfl ?_
   exact ⟨_, aq8, by (with_reducible repeat (first | apply Kd.R_alloc | apply Kd.R_drewN | apply Kd.R_drew)); exact Kd.R_mono (Kd.R_far (p := ⟨gb101, 2, none⟩) (Kd.R_far (p := ⟨gb101, 1, none⟩) (Kd.R_far (p := ⟨gb101, 0, none⟩) (Kd.R_types HO106.out BK101.out (by decide)) (fun _ hk => hk.2) (.int .i64 t102)) (fun _ hk => hk.2) (.int .i64 t103)) (fun _ hk => hk.2) (.slice Ao15 t104.length co15)) (fun _ hk => trivial), aq14⟩
  ·replace c8 := Bool.eq_false_iff.mpr c8
   subst c8
   rw [if_neg Bool.false_ne_true] at H
   simp only [Option.some.injEq, Prod.mk.injEq] at H
   obtain ⟨rfl, rfl, rfl, rfl⟩ := H
   go_enter Tryz.func62, Tryz.ntmps62
   try go_wp2_with (first | ((with_reducible refine gate_dst (N := 8) rfl ?_); refine box_event ?hg (N := 8) ?hd (cs := #[.int .i64 0, .int .i64 0, .slice none 0 0]) (t := 62) ?hr ?_; (case hd => rfl); (case hg => rfl); (case hr => exact aq16); intro gb101 hg w23 hbox hb; have n0_ := am (below_step aq1 hb); have n1_ := am (hbox); have n2_ := am ((by rw [hg]; exact (below_size aq1) : w.heap.size ≤ gb101)); have n3_ := am ((by rw [hg]; exact (below_size aq1) : w.heap.size ≤ gb101)); clear HB; have HB := n0_; have BK101 := n1_; have GW101 := n2_; have GE101 := n3_; clear n0_ n1_ n2_ n3_; clear hb hbox hg) | ((with_reducible refine gate_callee (f := 112) rfl ?_); refine goesL_ (some 15) rfl rfl Tryz.func112 (by kernel_rfl) rfl #[.string a0, .string a3] rfl aq5 ?_; (with_reducible refine (spec_mcRead.calls k a0 a3 t102 t103 t104 true _ A5.out).mono ?_); rintro e w24 ⟨v105, rfl, ho0, hb⟩; refine ⟨_, rfl, ?_⟩; have n0_ := am (Kd.R_lower ho0 (below_size aq0)); have n1_ := am (blk_below (g := gb101) (o := .cells #[.int .i64 0, .int .i64 0, .slice none 0 0] 62 (0, 0)) aq2 hb); have n2_ := am (below_step aq0 hb); clear BK101; clear HB; have HO106 := n0_; have BK101 := n1_; have HB := n2_; clear n0_ n1_ n2_; (try clear hb); (try clear hb2); (try clear hk); (try clear hi); (try clear ho0)) | ((with_reducible refine gate_dst (N := 10) rfl ?_); refine box_event ?hg (N := 10) ?hd (cs := #[.int .i64 0, .int .i64 0, .slice none 0 0]) (t := 62) ?hr ?_; (case hd => rfl); (case hg => rfl); (case hr => exact aq16); intro gb108 hg w25 hbox hb; have n0_ := am (Kd.R_below aq29 hb); have n1_ := am (blk_below (g := gb101) (o := .cells #[.int .i64 0, .int .i64 0, .slice none 0 0] 62 (0, 0)) aq2 hb); have n2_ := am (below_step aq0 hb); have n3_ := am (hbox); have n4_ := am ((by rw [hg]; exact (below_size aq0) : w.heap.size ≤ gb108)); have n5_ := am ((by rw [hg]; exact (below_size aq0) : w.heap.size ≤ gb108)); have n6_ := am ((by rw [hg]; exact Nat.ne_of_lt (blk_lt (g := gb101) (o := .cells #[.int .i64 0, .int .i64 0, .slice none 0 0] 62 (0, 0)) aq2) : gb101 ≠ gb108)); have n7_ := am ((by rw [hg]; exact Nat.ne_of_gt (blk_lt (g := gb101) (o := .cells #[.int .i64 0, .int .i64 0, .slice none 0 0] 62 (0, 0)) aq2) : gb108 ≠ gb101)); clear HO106; clear BK101; clear HB; have HO106 := n0_; have BK101 := n1_; have HB := n2_; have BK108 := n3_; have GW108 := n4_; have GE108 := n5_; have NB101_108 := n6_; have NB108_101 := n7_; clear n0_ n1_ n2_ n3_ n4_ n5_ n6_ n7_; clear hb hbox hg; have hnb26 := NB108_101.out; have hnc26 := NB101_108.out; obtain ⟨hcz27_0, hcz27_1, hcz27_2, hfz27_0, hfz27_1, hfz27_2⟩ := blk3_ BK108.out; obtain ⟨Ao28, co28, eo28⟩ := Kd.R_slice HO106.out; subst eo28))
   have n0_ : Aside0 (Kd.R (Kd.int .u8) 5 (((w25.setCell ⟨gb108, 0, none⟩ (.int .i64 t102)).setCell ⟨gb108, 1, none⟩ (.int .i64 t103)).setCell ⟨gb108, 2, none⟩ (.slice Ao28 t104.length co28)) w.heap.size (fun _ => True) (.slice Ao28 t104.length co28) t104) := ⟨by (with_reducible repeat (first | apply Kd.R_alloc | apply Kd.R_drewN | apply Kd.R_drew)); exact Kd.R_mono (Kd.R_far (p := ⟨gb108, 2, none⟩) (Kd.R_far (p := ⟨gb108, 1, none⟩) (Kd.R_far (p := ⟨gb108, 0, none⟩) (Kd.R_types HO106.out BK108.out (by decide)) (fun _ hk => hk.2) (.int .i64 t102)) (fun _ hk => hk.2) (.int .i64 t103)) (fun _ hk => hk.2) (.slice Ao28 t104.length co28)) (fun _ hk => trivial)⟩
   have n1_ : Aside0 ((((w25.setCell ⟨gb108, 0, none⟩ (.int .i64 t102)).setCell ⟨gb108, 1, none⟩ (.int .i64 t103)).setCell ⟨gb108, 2, none⟩ (.slice Ao28 t104.length co28)).heap[gb101]? = some (.cells #[.int .i64 0, .int .i64 0, .slice none 0 0] 62 (0, 0))) := ⟨aq33⟩
   have n2_ : Aside0 ((((w25.setCell ⟨gb108, 0, none⟩ (.int .i64 t102)).setCell ⟨gb108, 1, none⟩ (.int .i64 t103)).setCell ⟨gb108, 2, none⟩ (.slice Ao28 t104.length co28)).heap[gb108]? = some (.cells #[.int .i64 t102, .int .i64 t103, .slice Ao28 t104.length co28] 62 (0, 0))) := ⟨aq12⟩
   have n3_ : Aside0 (Below w.heap.size w (((w25.setCell ⟨gb108, 0, none⟩ (.int .i64 t102)).setCell ⟨gb108, 1, none⟩ (.int .i64 t103)).setCell ⟨gb108, 2, none⟩ (.slice Ao28 t104.length co28))) := ⟨aq14⟩
   (try clear HO106)
   (try clear BK101)
   (try clear BK108)
   (try clear HB)
   generalize (((w25.setCell ⟨gb108, 0, none⟩ (.int .i64 t102)).setCell ⟨gb108, 1, none⟩ (.int .i64 t103)).setCell ⟨gb108, 2, none⟩ (.slice Ao28 t104.length co28)) = w29 at n0_ n1_ n2_ n3_ ⊢
   have HO106 := n0_
   have BK101 := n1_
   have BK108 := n2_
   have HB := n3_
   clear n0_ n1_ n2_ n3_
   have n0_ := am (Kd.R_drew HO106.out)
   have n1_ := am (blk_drew BK101.out)
   have n2_ := am (blk_drew BK108.out)
   have n3_ := am (below_drew1 HB.out)
   clear HO106
   clear BK101
   clear BK108
   clear HB
   have HO106 := n0_
   have BK101 := n1_
   have BK108 := n2_
   have HB := n3_
   clear n0_ n1_ n2_ n3_
   refine start_ (n := 14) (S := fun w' => w'.cell? ⟨gb108, 0, none⟩ = some (.int .i64 t102) ∧ w'.cell? ⟨gb108, 1, none⟩ = some (.int .i64 t103) ∧ w'.cell? ⟨gb108, 2, none⟩ = some (.slice Ao28 t104.length co28)) (ds := []) #[false, false, false, false, false, false, false, false, false, false, false, false, false, false] (by kernel_rfl) rfl rfl ⟨(blk_cell BK108.out 0).trans rfl, (blk_cell BK108.out 1).trans rfl, (blk_cell BK108.out 2).trans rfl⟩ (fun hHeld => ?_); refine with_tabW spec_mcGate.tab2 spec_mcGate.bits2 (fun HT_ HW_ => ?_)
   generalize w29.drew = w30 at HO106 BK101 BK108 HB hHeld ⊢
   refine pure_ (i := 1) (N := some 19) (v := ?_) (a' := ?_) (bm 14 2) rfl rfl (any_of HT_.out (by kernel_rfl)) (fun _ _ _ h => h) (Or.inl ⟨by rfl, ?_⟩) ?_ ?_
   rotate_left
   ·intro w'
    go_simp
    with_reducible rfl
   rotate_left
   ·simp only [Act.put, ac_]
    rfl
   refine pure_ (i := 2) (N := some 20) (v := ?_) (a' := ?_) (bm 14 6) rfl rfl (any_of HT_.out (by kernel_rfl)) (fun _ _ _ h => h) (Or.inl ⟨by rfl, ?_⟩) ?_ ?_
   rotate_left
   ·intro w'
    go_simp
    with_reducible rfl
   rotate_left
   ·simp only [Act.put, ac_]
    rfl
   refine pure_ (i := 4) (N := some 22) (v := ?_) (a' := ?_) (bm 14 22) rfl rfl (any_of HT_.out (by kernel_rfl)) (fun _ _ _ h => h) (Or.inl ⟨by rfl, ?_⟩) ?_ ?_
   rotate_left
   ·intro w'
    go_simp
    with_reducible rfl
   rotate_left
   ·simp only [Act.put, ac_]
    rfl
   refine take_ (i := 0) (N := some 18) (v := ?_) (a' := ?_) (bm 14 23) rfl rfl (take_ofW HT_.out HW_.out (by kernel_rfl)) (fun _ _ _ h => h) (Or.inl ⟨by rfl, ?_⟩) hHeld ?_ ?_
   rotate_left
   ·rintro w' ⟨s0, s1, s2⟩
    go_simp
    with_reducible rfl
   rotate_left
   ·simp only [Act.put, ac_]
    rfl
   refine take_ (i := 3) (N := some 21) (v := ?_) (a' := ?_) (bm 14 31) rfl rfl (take_ofW HT_.out HW_.out (by kernel_rfl)) (fun _ _ _ h => h) (Or.inl ⟨by rfl, ?_⟩) hHeld ?_ ?_
   rotate_left
   ·rintro w' ⟨s0, s1, s2⟩
    go_simp
    with_reducible rfl
   rotate_left
   ·simp only [Act.put, ac_]
    rfl
   refine one_ (i := 5) (N := some 23) (bm 14 63) rfl rfl (one_of HT_.out (by kernel_rfl)) (by decide) (fun K hK => ?_)
   refine goes_ Tryz.func113 (by kernel_rfl) rfl #[.agg #[.int .i64 t102, .int .i64 t103, .slice Ao28 t104.length co28], .slice A1 l1.length c1, .int .u8 46] (by rfl) rfl rfl aq5 ?_
   with_reducible refine (spec_mcCells.calls k t102 t103 _ _ t104 _ _ l1 46 false _ ?side1 ?side2 ?side3 ?side4 A7.out).mono ?_
   (case side1 => exact aq66)
   (case side2 => exact (Kd.R_reads' HO106.out).2.1)
   (case side3 => exact aq15)
   (case side4 => exact HC1.out)
   rintro e w31 ⟨rfl, hb⟩
   refine ⟨_, rfl, ?_⟩
   have n0_ := am (Kd.R_below aq29 hb)
   have n1_ := am (blk_below (g := gb101) (o := .cells #[.int .i64 0, .int .i64 0, .slice none 0 0] 62 (0, 0)) aq2 hb)
   have n2_ := am (blk_below (g := gb108) (o := .cells #[.int .i64 t102, .int .i64 t103, .slice Ao28 t104.length co28] 62 (0, 0)) aq76 hb)
   have n3_ := am (below_step aq14 hb)
   clear HO106
   clear BK101
   clear BK108
   clear HB
   have HO106 := n0_
   have BK101 := n1_
   have BK108 := n2_
   have HB := n3_
   clear n0_ n1_ n2_ n3_
   (try clear hb)
   (try clear hb2)
   (try clear hk)
   (try clear hi)
   refine hK.out _ _ ⟨(blk_cell BK108.out 0).trans rfl, (blk_cell BK108.out 1).trans rfl, (blk_cell BK108.out 2).trans rfl⟩ (fun hHeld => ?_)
   clear hK K
   refine norm_ (a' := ?_) ?_ ?_
   rotate_left
   ·show Act.put _ (some 23) _ = _
    simp only [Act.put, ac_]
    rfl
   refine pure_ (i := 6) (N := some 24) (v := ?_) (a' := ?_) (bm 14 127) rfl rfl (any_of HT_.out (by kernel_rfl)) (fun _ _ _ h => h) (Or.inl ⟨by rfl, ?_⟩) ?_ ?_
   rotate_left
   ·intro w'
    go_simp
    with_reducible rfl
   rotate_left
   ·simp only [Act.put, ac_]
    rfl
   refine pure_ (i := 7) (N := some 25) (v := ?_) (a' := ?_) (bm 14 255) rfl rfl (any_of HT_.out (by kernel_rfl)) (fun _ _ _ h => h) (Or.inl ⟨by rfl, ?_⟩) ?_ ?_
   rotate_left
   ·intro w'
    go_simp
    with_reducible rfl
   rotate_left
   ·simp only [Act.put, ac_]
    rfl
   refine pure_ (i := 8) (N := some 26) (v := undef) (a' := ?_) (bm 14 511) rfl rfl (any_of HT_.out (by kernel_rfl)) (fun _ _ _ h => h) (Or.inr ⟨by rfl, rfl⟩) ?_ ?_
   rotate_left
   ·simp only [Act.put, ac_]
    rfl
   refine pure_ (i := 9) (N := some 27) (v := undef) (a' := ?_) (bm 14 1023) rfl rfl (any_of HT_.out (by kernel_rfl)) (fun _ _ _ h => h) (Or.inr ⟨by rfl, rfl⟩) ?_ ?_
   rotate_left
   ·simp only [Act.put, ac_]
    rfl
   refine pure_ (i := 10) (N := some 28) (v := undef) (a' := ?_) (bm 14 2047) rfl rfl (any_of HT_.out (by kernel_rfl)) (fun _ _ _ h => h) (Or.inr ⟨by rfl, rfl⟩) ?_ ?_
   rotate_left
   ·simp only [Act.put, ac_]
    rfl
   refine pure_ (i := 11) (N := some 29) (v := ?_) (a' := ?_) (bm 14 4095) rfl rfl (any_of HT_.out (by kernel_rfl)) (fun _ _ _ h => h) (Or.inl ⟨by rfl, ?_⟩) ?_ ?_
   rotate_left
   ·intro w'
    go_simp
    with_reducible rfl
   rotate_left
   ·simp only [Act.put, ac_]
    rfl
   refine one_ (i := 12) (N := none) (bm 14 8191) rfl rfl (one_of HT_.out (by kernel_rfl)) (by decide) (fun K hK => ?_)
   have hs32 : w31.cell? ⟨gb101, 0, none⟩ = some (.int .i64 0) := (blk_cell BK101.out 0).trans rfl
   have hfs32 := blk_frozen BK101.out 0
   have hns32_1 := NB108_101.out
   have hms32_1 := NB101_108.out
   have hs33 : w31.cell? ⟨gb101, 1, none⟩ = some (.int .i64 0) := (blk_cell BK101.out 1).trans rfl
   have hfs33 := blk_frozen BK101.out 1
   have hns33_1 := NB108_101.out
   have hms33_1 := NB101_108.out
   have hs34 : w31.cell? ⟨gb101, 2, none⟩ = some (.slice none 0 0) := (blk_cell BK101.out 2).trans rfl
   have hfs34 := blk_frozen BK101.out 2
   have hns34_1 := NB108_101.out
   have hms34_1 := NB101_108.out
   refine skip_ (w1 := ?_) (by rfl) rfl ?_ ?_
   rotate_left
   ·go_simp
    rfl
   refine hK.out _ _ ⟨((cell_far (p := ⟨gb101, _, none⟩) NB108_101.out _).trans (((cell_far (p := ⟨gb101, _, none⟩) NB108_101.out _).trans (((cell_far (p := ⟨gb101, _, none⟩) NB108_101.out _).trans (hHeld.1)))))), ((cell_far (p := ⟨gb101, _, none⟩) NB108_101.out _).trans (((cell_far (p := ⟨gb101, _, none⟩) NB108_101.out _).trans (((cell_far (p := ⟨gb101, _, none⟩) NB108_101.out _).trans (hHeld.2.1)))))), ((cell_far (p := ⟨gb101, _, none⟩) NB108_101.out _).trans (((cell_far (p := ⟨gb101, _, none⟩) NB108_101.out _).trans (((cell_far (p := ⟨gb101, _, none⟩) NB108_101.out _).trans (hHeld.2.2))))))⟩ (fun hHeld => ?_)
   clear hK K
   refine pure_ (i := 13) (N := some 9) (v := ?_) (a' := ?_) (bm 14 16383) rfl rfl (any_of HT_.out (by kernel_rfl)) (fun _ _ _ h => h) (Or.inl ⟨by rfl, ?_⟩) ?_ ?_
   rotate_left
   ·intro w'
    go_simp
    with_reducible rfl
   rotate_left
   ·simp only [Act.put, ac_]
    rfl
   refine done_ (done_of HT_.out (by kernel_rfl)) ?_
   try go_wp2
   refine bodyPost_ret (results_ct rfl _ _ gb101 62 #[.int .i64 t102, .int .i64 t103, .slice Ao28 t104.length co28] (0, 0) _ rfl aq32 Tryz.underlying62 rfl (by kernel_rfl)) rfl ?_
   exact ⟨_, aq8, by (with_reducible repeat (first | apply Kd.R_alloc | apply Kd.R_drewN | apply Kd.R_drew)); exact Kd.R_mono (Kd.R_far (p := ⟨gb101, 2, none⟩) (Kd.R_far (p := ⟨gb101, 1, none⟩) (Kd.R_far (p := ⟨gb101, 0, none⟩) (Kd.R_types HO106.out BK101.out (by decide)) (fun _ hk => hk.2) (.int .i64 t102)) (fun _ hk => hk.2) (.int .i64 t103)) (fun _ hk => hk.2) (.slice Ao28 t104.length co28)) (fun _ hk => trivial), aq14⟩
 ·replace c6 := Bool.eq_false_iff.mpr c6
  subst c6
  rw [if_neg Bool.false_ne_true] at H
  simp only [Option.some.injEq, Prod.mk.injEq] at H
  obtain ⟨rfl, rfl, rfl, rfl⟩ := H
  go_enter Tryz.func62, Tryz.ntmps62
  try go_wp2_with (first | ((with_reducible refine gate_dst (N := 8) rfl ?_); refine box_event ?hg (N := 8) ?hd (cs := #[.int .i64 0, .int .i64 0, .slice none 0 0]) (t := 62) ?hr ?_; (case hd => rfl); (case hg => rfl); (case hr => exact aq16); intro gb101 hg w35 hbox hb; have n0_ := am (below_step aq1 hb); have n1_ := am (hbox); have n2_ := am ((by rw [hg]; exact (below_size aq1) : w.heap.size ≤ gb101)); have n3_ := am ((by rw [hg]; exact (below_size aq1) : w.heap.size ≤ gb101)); clear HB; have HB := n0_; have BK101 := n1_; have GW101 := n2_; have GE101 := n3_; clear n0_ n1_ n2_ n3_; clear hb hbox hg) | ((with_reducible refine gate_callee (f := 112) rfl ?_); refine goesL_ (some 15) rfl rfl Tryz.func112 (by kernel_rfl) rfl #[.string a0, .string a3] rfl aq5 ?_; (with_reducible refine (spec_mcRead.calls k a0 a3 t102 t103 t104 false _ A5.out).mono ?_); rintro e w36 ⟨v105, rfl, ho0, hb⟩; refine ⟨_, rfl, ?_⟩; have n0_ := am (Kd.R_lower ho0 (below_size aq0)); have n1_ := am (blk_below (g := gb101) (o := .cells #[.int .i64 0, .int .i64 0, .slice none 0 0] 62 (0, 0)) aq2 hb); have n2_ := am (below_step aq0 hb); clear BK101; clear HB; have HO106 := n0_; have BK101 := n1_; have HB := n2_; clear n0_ n1_ n2_; (try clear hb); (try clear hb2); (try clear hk); (try clear hi); (try clear ho0)) | ((with_reducible refine gate_dst (N := 10) rfl ?_); refine box_event ?hg (N := 10) ?hd (cs := #[.int .i64 0, .int .i64 0, .slice none 0 0]) (t := 62) ?hr ?_; (case hd => rfl); (case hg => rfl); (case hr => exact aq16); intro gb108 hg w37 hbox hb; have n0_ := am (Kd.R_below aq29 hb); have n1_ := am (blk_below (g := gb101) (o := .cells #[.int .i64 0, .int .i64 0, .slice none 0 0] 62 (0, 0)) aq2 hb); have n2_ := am (below_step aq0 hb); have n3_ := am (hbox); have n4_ := am ((by rw [hg]; exact (below_size aq0) : w.heap.size ≤ gb108)); have n5_ := am ((by rw [hg]; exact (below_size aq0) : w.heap.size ≤ gb108)); have n6_ := am ((by rw [hg]; exact Nat.ne_of_lt (blk_lt (g := gb101) (o := .cells #[.int .i64 0, .int .i64 0, .slice none 0 0] 62 (0, 0)) aq2) : gb101 ≠ gb108)); have n7_ := am ((by rw [hg]; exact Nat.ne_of_gt (blk_lt (g := gb101) (o := .cells #[.int .i64 0, .int .i64 0, .slice none 0 0] 62 (0, 0)) aq2) : gb108 ≠ gb101)); clear HO106; clear BK101; clear HB; have HO106 := n0_; have BK101 := n1_; have HB := n2_; have BK108 := n3_; have GW108 := n4_; have GE108 := n5_; have NB101_108 := n6_; have NB108_101 := n7_; clear n0_ n1_ n2_ n3_ n4_ n5_ n6_ n7_; clear hb hbox hg; have hnb38 := NB108_101.out; have hnc38 := NB101_108.out; obtain ⟨hcz39_0, hcz39_1, hcz39_2, hfz39_0, hfz39_1, hfz39_2⟩ := blk3_ BK108.out; obtain ⟨Ao40, co40, eo40⟩ := Kd.R_slice HO106.out; subst eo40))
  have n0_ : Aside0 (Kd.R (Kd.int .u8) 5 (((w37.setCell ⟨gb108, 0, none⟩ (.int .i64 t102)).setCell ⟨gb108, 1, none⟩ (.int .i64 t103)).setCell ⟨gb108, 2, none⟩ (.slice Ao40 t104.length co40)) w.heap.size (fun _ => True) (.slice Ao40 t104.length co40) t104) := ⟨by (with_reducible repeat (first | apply Kd.R_alloc | apply Kd.R_drewN | apply Kd.R_drew)); exact Kd.R_mono (Kd.R_far (p := ⟨gb108, 2, none⟩) (Kd.R_far (p := ⟨gb108, 1, none⟩) (Kd.R_far (p := ⟨gb108, 0, none⟩) (Kd.R_types HO106.out BK108.out (by decide)) (fun _ hk => hk.2) (.int .i64 t102)) (fun _ hk => hk.2) (.int .i64 t103)) (fun _ hk => hk.2) (.slice Ao40 t104.length co40)) (fun _ hk => trivial)⟩
  have n1_ : Aside0 ((((w37.setCell ⟨gb108, 0, none⟩ (.int .i64 t102)).setCell ⟨gb108, 1, none⟩ (.int .i64 t103)).setCell ⟨gb108, 2, none⟩ (.slice Ao40 t104.length co40)).heap[gb101]? = some (.cells #[.int .i64 0, .int .i64 0, .slice none 0 0] 62 (0, 0))) := ⟨aq33⟩
  have n2_ : Aside0 ((((w37.setCell ⟨gb108, 0, none⟩ (.int .i64 t102)).setCell ⟨gb108, 1, none⟩ (.int .i64 t103)).setCell ⟨gb108, 2, none⟩ (.slice Ao40 t104.length co40)).heap[gb108]? = some (.cells #[.int .i64 t102, .int .i64 t103, .slice Ao40 t104.length co40] 62 (0, 0))) := ⟨aq12⟩
  have n3_ : Aside0 (Below w.heap.size w (((w37.setCell ⟨gb108, 0, none⟩ (.int .i64 t102)).setCell ⟨gb108, 1, none⟩ (.int .i64 t103)).setCell ⟨gb108, 2, none⟩ (.slice Ao40 t104.length co40))) := ⟨aq14⟩
  (try clear HO106)
  (try clear BK101)
  (try clear BK108)
  (try clear HB)
  generalize (((w37.setCell ⟨gb108, 0, none⟩ (.int .i64 t102)).setCell ⟨gb108, 1, none⟩ (.int .i64 t103)).setCell ⟨gb108, 2, none⟩ (.slice Ao40 t104.length co40)) = w41 at n0_ n1_ n2_ n3_ ⊢
  have HO106 := n0_
  have BK101 := n1_
  have BK108 := n2_
  have HB := n3_
  clear n0_ n1_ n2_ n3_
  have n0_ := am (Kd.R_drew HO106.out)
  have n1_ := am (blk_drew BK101.out)
  have n2_ := am (blk_drew BK108.out)
  have n3_ := am (below_drew1 HB.out)
  clear HO106
  clear BK101
  clear BK108
  clear HB
  have HO106 := n0_
  have BK101 := n1_
  have BK108 := n2_
  have HB := n3_
  clear n0_ n1_ n2_ n3_
  refine start_ (n := 14) (S := fun w' => w'.cell? ⟨gb108, 0, none⟩ = some (.int .i64 t102) ∧ w'.cell? ⟨gb108, 1, none⟩ = some (.int .i64 t103) ∧ w'.cell? ⟨gb108, 2, none⟩ = some (.slice Ao40 t104.length co40)) (ds := []) #[false, false, false, false, false, false, false, false, false, false, false, false, false, false] (by kernel_rfl) rfl rfl ⟨(blk_cell BK108.out 0).trans rfl, (blk_cell BK108.out 1).trans rfl, (blk_cell BK108.out 2).trans rfl⟩ (fun hHeld => ?_); refine with_tabW spec_mcGate.tab2 spec_mcGate.bits2 (fun HT_ HW_ => ?_)
  generalize w41.drew = w42 at HO106 BK101 BK108 HB hHeld ⊢
  refine pure_ (i := 1) (N := some 19) (v := ?_) (a' := ?_) (bm 14 2) rfl rfl (any_of HT_.out (by kernel_rfl)) (fun _ _ _ h => h) (Or.inl ⟨by rfl, ?_⟩) ?_ ?_
  rotate_left
  ·intro w'
   go_simp
   with_reducible rfl
  rotate_left
  ·simp only [Act.put, ac_]
   rfl
  refine pure_ (i := 2) (N := some 20) (v := ?_) (a' := ?_) (bm 14 6) rfl rfl (any_of HT_.out (by kernel_rfl)) (fun _ _ _ h => h) (Or.inl ⟨by rfl, ?_⟩) ?_ ?_
  rotate_left
  ·intro w'
   go_simp
   with_reducible rfl
  rotate_left
  ·simp only [Act.put, ac_]
   rfl
  refine pure_ (i := 3) (N := some 21) (v := undef) (a' := ?_) (bm 14 14) rfl rfl (any_of HT_.out (by kernel_rfl)) (fun _ _ _ h => h) (Or.inr ⟨by rfl, rfl⟩) ?_ ?_
  rotate_left
  ·simp only [Act.put, ac_]
   rfl
  refine pure_ (i := 4) (N := some 22) (v := undef) (a' := ?_) (bm 14 30) rfl rfl (any_of HT_.out (by kernel_rfl)) (fun _ _ _ h => h) (Or.inr ⟨by rfl, rfl⟩) ?_ ?_
  rotate_left
  ·simp only [Act.put, ac_]
   rfl
  refine pure_ (i := 5) (N := some 23) (v := undef) (a' := ?_) (bm 14 62) rfl rfl (any_of HT_.out (by kernel_rfl)) (fun _ _ _ h => h) (Or.inr ⟨by rfl, rfl⟩) ?_ ?_
  rotate_left
  ·simp only [Act.put, ac_]
   rfl
  refine pure_ (i := 6) (N := some 24) (v := ?_) (a' := ?_) (bm 14 126) rfl rfl (any_of HT_.out (by kernel_rfl)) (fun _ _ _ h => h) (Or.inl ⟨by rfl, ?_⟩) ?_ ?_
  rotate_left
  ·intro w'
   go_simp
   with_reducible rfl
  rotate_left
  ·simp only [Act.put, ac_]
   rfl
  refine pure_ (i := 7) (N := some 25) (v := ?_) (a' := ?_) (bm 14 254) rfl rfl (any_of HT_.out (by kernel_rfl)) (fun _ _ _ h => h) (Or.inl ⟨by rfl, ?_⟩) ?_ ?_
  rotate_left
  ·intro w'
   go_simp
   with_reducible rfl
  rotate_left
  ·simp only [Act.put, ac_]
   rfl
  refine pure_ (i := 8) (N := some 26) (v := undef) (a' := ?_) (bm 14 510) rfl rfl (any_of HT_.out (by kernel_rfl)) (fun _ _ _ h => h) (Or.inr ⟨by rfl, rfl⟩) ?_ ?_
  rotate_left
  ·simp only [Act.put, ac_]
   rfl
  refine pure_ (i := 9) (N := some 27) (v := undef) (a' := ?_) (bm 14 1022) rfl rfl (any_of HT_.out (by kernel_rfl)) (fun _ _ _ h => h) (Or.inr ⟨by rfl, rfl⟩) ?_ ?_
  rotate_left
  ·simp only [Act.put, ac_]
   rfl
  refine pure_ (i := 10) (N := some 28) (v := undef) (a' := ?_) (bm 14 2046) rfl rfl (any_of HT_.out (by kernel_rfl)) (fun _ _ _ h => h) (Or.inr ⟨by rfl, rfl⟩) ?_ ?_
  rotate_left
  ·simp only [Act.put, ac_]
   rfl
  refine pure_ (i := 11) (N := some 29) (v := ?_) (a' := ?_) (bm 14 4094) rfl rfl (any_of HT_.out (by kernel_rfl)) (fun _ _ _ h => h) (Or.inl ⟨by rfl, ?_⟩) ?_ ?_
  rotate_left
  ·intro w'
   go_simp
   with_reducible rfl
  rotate_left
  ·simp only [Act.put, ac_]
   rfl
  refine take_ (i := 0) (N := some 18) (v := ?_) (a' := ?_) (bm 14 4095) rfl rfl (take_ofW HT_.out HW_.out (by kernel_rfl)) (fun _ _ _ h => h) (Or.inl ⟨by rfl, ?_⟩) hHeld ?_ ?_
  rotate_left
  ·rintro w' ⟨s0, s1, s2⟩
   go_simp
   with_reducible rfl
  rotate_left
  ·simp only [Act.put, ac_]
   rfl
  refine one_ (i := 12) (N := none) (bm 14 8191) rfl rfl (one_of HT_.out (by kernel_rfl)) (by decide) (fun K hK => ?_)
  have hs43 : w42.cell? ⟨gb101, 0, none⟩ = some (.int .i64 0) := (blk_cell BK101.out 0).trans rfl
  have hfs43 := blk_frozen BK101.out 0
  have hns43_1 := NB108_101.out
  have hms43_1 := NB101_108.out
  have hs44 : w42.cell? ⟨gb101, 1, none⟩ = some (.int .i64 0) := (blk_cell BK101.out 1).trans rfl
  have hfs44 := blk_frozen BK101.out 1
  have hns44_1 := NB108_101.out
  have hms44_1 := NB101_108.out
  have hs45 : w42.cell? ⟨gb101, 2, none⟩ = some (.slice none 0 0) := (blk_cell BK101.out 2).trans rfl
  have hfs45 := blk_frozen BK101.out 2
  have hns45_1 := NB108_101.out
  have hms45_1 := NB101_108.out
  refine skip_ (w1 := ?_) (by rfl) rfl ?_ ?_
  rotate_left
  ·go_simp
   rfl
  refine hK.out _ _ ⟨((cell_far (p := ⟨gb101, _, none⟩) NB108_101.out _).trans (((cell_far (p := ⟨gb101, _, none⟩) NB108_101.out _).trans (((cell_far (p := ⟨gb101, _, none⟩) NB108_101.out _).trans (hHeld.1)))))), ((cell_far (p := ⟨gb101, _, none⟩) NB108_101.out _).trans (((cell_far (p := ⟨gb101, _, none⟩) NB108_101.out _).trans (((cell_far (p := ⟨gb101, _, none⟩) NB108_101.out _).trans (hHeld.2.1)))))), ((cell_far (p := ⟨gb101, _, none⟩) NB108_101.out _).trans (((cell_far (p := ⟨gb101, _, none⟩) NB108_101.out _).trans (((cell_far (p := ⟨gb101, _, none⟩) NB108_101.out _).trans (hHeld.2.2))))))⟩ (fun hHeld => ?_)
  clear hK K
  refine pure_ (i := 13) (N := some 9) (v := ?_) (a' := ?_) (bm 14 16383) rfl rfl (any_of HT_.out (by kernel_rfl)) (fun _ _ _ h => h) (Or.inl ⟨by rfl, ?_⟩) ?_ ?_
  rotate_left
  ·intro w'
   go_simp
   with_reducible rfl
  rotate_left
  ·simp only [Act.put, ac_]
   rfl
  refine done_ (done_of HT_.out (by kernel_rfl)) ?_
  try go_wp2
  refine bodyPost_ret (results_ct rfl _ _ gb101 62 #[.int .i64 t102, .int .i64 t103, .slice Ao40 t104.length co40] (0, 0) _ rfl aq32 Tryz.underlying62 rfl (by kernel_rfl)) rfl ?_
  exact ⟨_, aq8, by (with_reducible repeat (first | apply Kd.R_alloc | apply Kd.R_drewN | apply Kd.R_drew)); exact Kd.R_mono (Kd.R_far (p := ⟨gb101, 2, none⟩) (Kd.R_far (p := ⟨gb101, 1, none⟩) (Kd.R_far (p := ⟨gb101, 0, none⟩) (Kd.R_types HO106.out BK101.out (by decide)) (fun _ hk => hk.2) (.int .i64 t102)) (fun _ hk => hk.2) (.int .i64 t103)) (fun _ hk => hk.2) (.slice Ao40 t104.length co40)) (fun _ hk => trivial), aq14⟩
end Go.Proofs.YtdffgeoegdkiaaaGreatDoor.F

namespace Go.Proofs.YtdffgeoegdkiaaaGreatDoor.F
open Go.RowKit Go.Proofs.YtdffgeoegdkiaaaGreatDoor Go.Proofs.YtdffgeoegdkiaaaGreatDoorW.PrintWords Go.Proofs.YtdffgeoegdkiaaaGreatDoorW.PrintMore
def freeC (c : Int) : Bool := c == 46
def cellOk (p : Int → Bool) (cs l : List Int) (j : Nat) : Prop := (0 ≤ l.getD j 0 ∧ l.getD j 0 < (cs.length : Int)) ∧ l.getD j 0 ∉ l.take j ∧ p (cs.getD (l.getD j 0).toNat 0) = true
instance (p : Int → Bool) (cs l : List Int) (j : Nat) : Decidable (cellOk p cs l j) := by unfold cellOk; exact inferInstance
def cellsOk (p : Int → Bool) (cs l : List Int) : Bool := decide ((1 ≤ l.length ∧ l.length ≤ 3) ∧ ∀ j, j < l.length → cellOk p cs l j)
theorem index_int_l0 (l : List Int) (x : Int) (hl : l.length ≤ 1000) : ∀ (n i : Nat), i + n = l.length → ∃ r, Ev (fun k => slices_Index_int_int.l0 k l x (l.length : Int) (i : Int)) r ∧ (r ≥ 0 ↔ x ∈ l.drop i)
  | 0, i, hi => ⟨-1, Ev.step (fun k => by rw [slices_Index_int_int.l0, if_neg (by omega)]) (Ev.now _), by rw [List.drop_eq_nil_of_le (by omega)]; simp⟩
  | n + 1, i, hi => by
    have hil : i < l.length := by omega
    have HW : Aside0 (wrap64 ((i : Int) + 1) = ((i + 1 : Nat) : Int)) := ⟨by rw [w64 (by omega) (by omega)]; rfl⟩
    have hrd : rd l (i : Int) = l[i]'hil := by rw [rdN, List.getD_eq_getElem?_getD, List.getElem?_eq_getElem hil]; rfl
    rw [List.drop_eq_getElem_cons hil]
    by_cases he : x = l[i]'hil
    · exact ⟨(i : Int), Ev.step (fun k => by rw [slices_Index_int_int.l0, if_pos (by omega), if_pos (by omega), if_pos (by omega), hrd, if_pos he]) (Ev.now _), ⟨fun _ => by rw [he]; exact List.mem_cons_self, fun _ => by omega⟩⟩
    · obtain ⟨r, h1, h2⟩ := index_int_l0 l x hl n (i + 1) (by omega)
      refine ⟨r, Ev.step (fun k => by rw [slices_Index_int_int.l0, if_pos (by omega), if_pos (by omega), if_pos (by omega), hrd, if_neg he, HW.out]) h1, ?_⟩
      rw [h2, List.mem_cons]
      exact ⟨Or.inr, fun q => q.resolve_left he⟩
theorem contains_ev (l : List Int) (x : Int) (hl : l.length ≤ 1000) : Ev (fun k => slices_Contains_int_int.f k l x) (decide (x ∈ l)) := by
  obtain ⟨r, h1, h2⟩ := index_int_l0 l x hl l.length 0 (by omega)
  rw [List.drop_zero] at h2
  refine Ev.bind h1 (Ev.congr (fun k => ?_) (Ev.now _))
  congr 1
  rw [Bool.eq_iff_iff, decide_eq_true_iff, decide_eq_true_iff]
  exact h2
theorem l1Has_l0 (l : List Int) (x : Int) (hl : l.length ≤ 1000) : ∀ (n i : Nat), i + n = l.length → Ev (fun k => spec_l1Has.l0 k x l (l.length : Int) (i : Int)) (decide (x ∈ l.drop i))
  | 0, i, hi => Ev.step (fun k => by rw [spec_l1Has.l0, if_neg (by omega)]) (Ev.congr (fun k => by rw [List.drop_eq_nil_of_le (by omega)]; simp) (Ev.now _))
  | n + 1, i, hi => by
    have hil : i < l.length := by omega
    have HW : Aside0 (wrap64 ((i : Int) + 1) = ((i + 1 : Nat) : Int)) := ⟨by rw [w64 (by omega) (by omega)]; rfl⟩
    have hrd : rd l (i : Int) = l[i]'hil := by rw [rdN, List.getD_eq_getElem?_getD, List.getElem?_eq_getElem hil]; rfl
    rw [List.drop_eq_getElem_cons hil]
    by_cases he : l[i]'hil = x
    · rw [decide_eq_true (by rw [he]; exact List.mem_cons_self)]
      exact Ev.step (fun k => by rw [spec_l1Has.l0, if_pos (by omega), if_pos (by omega), if_pos (by omega), hrd, if_pos he]) (Ev.now _)
    · have ih := l1Has_l0 l x hl n (i + 1) (by omega)
      rw [show decide (x ∈ (l[i]'hil) :: l.drop (i + 1)) = decide (x ∈ l.drop (i + 1)) from by
        rw [Bool.eq_iff_iff, decide_eq_true_iff, decide_eq_true_iff, List.mem_cons]
        exact ⟨fun q => q.resolve_left (fun e => he e.symm), Or.inr⟩]
      exact Ev.step (fun k => by rw [spec_l1Has.l0, if_pos (by omega), if_pos (by omega), if_pos (by omega), hrd, if_neg he, HW.out]) ih
theorem l1Has_ev (l : List Int) (x : Int) (hl : l.length ≤ 1000) : Ev (fun k => spec_l1Has.f k l x) (decide (x ∈ l)) := by
  have h0 := l1Has_l0 l x hl l.length 0 (by omega)
  rw [List.drop_zero] at h0
  exact h0
theorem freeC_l0 {t : ByteArray} {w h : Nat} {cs : List Int} (hg : tyGrid (bytesOf t) = some (w, h, cs)) {l : List Int} (hl : l.length ≤ 3) (hall : ∀ x ∈ l, 0 ≤ x ∧ x < (cs.length : Int)) : ∀ (n i : Nat), i + n = l.length →
    Ev (fun k => impl_areCells__impl_isGate_1.l0 k t l l (l.length : Int) (i : Int)) (decide (∀ j, j < l.length → i ≤ j → l.getD j 0 ∉ l.take j ∧ freeC (cs.getD (l.getD j 0).toNat 0) = true))
  | 0, i, hi => by
    refine Ev.step (fun k => by rw [impl_areCells__impl_isGate_1.l0, if_neg (by omega)]) (Ev.congr (fun k => ?_) (Ev.now _))
    rw [decide_eq_true (fun j hj hij => by omega)]
  | n + 1, i, hi => by
    have hil : i < l.length := by omega
    have HW : Aside0 (wrap64 ((i : Int) + 1) = ((i + 1 : Nat) : Int)) := ⟨by rw [w64 (by omega) (by omega)]; rfl⟩
    have hx : l.getD i 0 ∈ l := by rw [List.getD_eq_getElem?_getD, List.getElem?_eq_getElem hil]; exact List.getElem_mem hil
    obtain ⟨hx0, hx1⟩ := hall _ hx
    have ih := freeC_l0 hg hl hall n (i + 1) (by omega)
    have hrd : rd cs (l.getD i 0) = cs.getD (l.getD i 0).toNat 0 := rfl
    have hc := contains_ev (l.take i) (l.getD i 0) (by rw [List.length_take]; omega)
    refine Ev.step (f := fun k => (slices_Contains_int_int.f k (l.take i) (l.getD i 0)).bind fun t105 => if t105 = true then some false else if freeC (cs.getD (l.getD i 0).toNat 0) = true then impl_areCells__impl_isGate_1.l0 k t l l (l.length : Int) ((i + 1 : Nat) : Int) else some false) (fun k => ?_) (Ev.bind hc ?_)
    · rw [impl_areCells__impl_isGate_1.l0, if_pos (by omega), if_pos (by omega), if_pos (by omega), if_pos (by omega), Int.toNat_natCast, rdN, HW.out]
      congr 1
      funext t105
      by_cases ht : t105 = true
      · rw [if_pos ht, if_pos ht]
      · rw [if_neg ht, if_neg ht, impl_read_eq t hg, Option.bind_some, if_pos hx0]
        rw [if_pos hx1, hrd]
        rfl
    · by_cases hm : l.getD i 0 ∈ l.take i
      · refine Ev.congr (fun k => if_pos (decide_eq_true hm)) (Ev.congr (fun k => ?_) (Ev.now _))
        rw [decide_eq_false (fun q => (q i hil (Nat.le_refl _)).1 hm)]
      · refine Ev.congr (fun k => if_neg (by rw [decide_eq_false hm]; exact Bool.false_ne_true)) ?_
        by_cases ha : freeC (cs.getD (l.getD i 0).toNat 0) = true
        · refine Ev.congr (fun k => if_pos ha) ?_
          rw [show decide (∀ j, j < l.length → i ≤ j → l.getD j 0 ∉ l.take j ∧ freeC (cs.getD (l.getD j 0).toNat 0) = true) = decide (∀ j, j < l.length → i + 1 ≤ j → l.getD j 0 ∉ l.take j ∧ freeC (cs.getD (l.getD j 0).toNat 0) = true) from by
            rw [Bool.eq_iff_iff, decide_eq_true_iff, decide_eq_true_iff]
            constructor
            · intro q j hj hij; exact q j hj (by omega)
            · intro q j hj hij
              by_cases e : j = i
              · subst e; exact ⟨hm, ha⟩
              · exact q j hj (by omega)]
          exact ih
        · refine Ev.congr (fun k => if_neg ha) (Ev.congr (fun k => ?_) (Ev.now _))
          rw [decide_eq_false (fun q => ha (q i hil (Nat.le_refl _)).2)]
theorem freeC_ev {t : ByteArray} (ht : t.size < 4294967281) {w h : Nat} {cs : List Int} (hg : tyGrid (bytesOf t) = some (w, h, cs)) (l : List Int) (hlb : l.length ≤ 2000000) : Ev (fun k => impl_areCells__impl_isGate_1.f k t l) (cellsOk freeC cs l) := by
  obtain ⟨v, _⟩ := textB_grid hg
  have hs := tray_small v
  simp only at hs
  have hN := impl_isNumber_ev t l ht
  rw [hg] at hN
  simp only at hN
  unfold impl_areCells__impl_isGate_1.f
  have hno : Ev (fun k => impl_areCells__impl_isGate_1.j0 k t l true) false := Ev.step (fun k => by rw [impl_areCells__impl_isGate_1.j0, if_pos rfl]) (Ev.now _)
  have hwi : impl_within.f (l.length : Int) 1 3 = some (decide (1 ≤ l.length ∧ l.length ≤ 3)) := by
    unfold impl_within.f
    by_cases h1 : 1 ≤ (l.length : Int)
    · rw [if_pos h1]; congr 1; rw [Bool.eq_iff_iff, decide_eq_true_iff, decide_eq_true_iff]; omega
    · rw [if_neg h1, decide_eq_false (by omega)]
  rw [hwi]
  simp only [Option.bind_some]
  by_cases hlen : 1 ≤ l.length ∧ l.length ≤ 3
  · refine Ev.congr (fun k => if_pos (decide_eq_true hlen)) (Ev.bind hN ?_)
    cases hall : l.all (inR 0 ((cs.length : Int) - 1)) with
    | false =>
      rw [show cellsOk freeC cs l = false from by
        rw [Bool.eq_false_iff]
        intro q
        have q := (of_decide_eq_true q).2
        rw [Bool.eq_false_iff] at hall
        refine hall (List.all_eq_true.2 fun x hx => ?_)
        obtain ⟨j, hj, rfl⟩ := List.mem_iff_getElem.1 hx
        have := (q j hj).1
        rw [List.getD_eq_getElem?_getD, List.getElem?_eq_getElem hj, Option.getD_some] at this
        simp [inR]; omega]
      exact hno
    | true =>
      have hall' : ∀ x ∈ l, 0 ≤ x ∧ x < (cs.length : Int) := fun x hx => by
        have := List.all_eq_true.1 hall x hx
        simp [inR] at this; omega
      have h0 := freeC_l0 hg hlen.2 hall' l.length 0 (by omega)
      rw [show cellsOk freeC cs l = decide (∀ j, j < l.length → 0 ≤ j → l.getD j 0 ∉ l.take j ∧ freeC (cs.getD (l.getD j 0).toNat 0) = true) from by
        rw [Bool.eq_iff_iff, decide_eq_true_iff]
        constructor
        · intro q j hj _; exact ((of_decide_eq_true q).2 j hj).2
        · intro q
          refine decide_eq_true ⟨hlen, fun j hj => ⟨?_, q j hj (Nat.zero_le _)⟩⟩
          rw [List.getD_eq_getElem?_getD, List.getElem?_eq_getElem hj]
          exact hall' _ (List.getElem_mem hj)]
      refine Ev.step (fun k => by rw [impl_areCells__impl_isGate_1.j0, if_neg (by decide)]) ?_
      exact h0
  · refine Ev.congr (fun k => if_neg (by simp only [decide_eq_true_eq]; exact hlen)) ?_
    rw [show cellsOk freeC cs l = false from by rw [Bool.eq_false_iff]; intro q; exact hlen (of_decide_eq_true q).1]
    exact hno
theorem openC_l0 {t : ByteArray} {w h : Nat} {cs : List Int} (hg : tyGrid (bytesOf t) = some (w, h, cs)) {l : List Int} (hl : l.length ≤ 3) (hall : ∀ x ∈ l, 0 ≤ x ∧ x < (cs.length : Int)) : ∀ (n i : Nat), i + n = l.length →
    Ev (fun k => impl_areCells__impl_isOpen.l0 k t l l (l.length : Int) (i : Int)) (decide (∀ j, j < l.length → i ≤ j → l.getD j 0 ∉ l.take j ∧ isOpenC (cs.getD (l.getD j 0).toNat 0) = true))
  | 0, i, hi => by
    refine Ev.step (fun k => by rw [impl_areCells__impl_isOpen.l0, if_neg (by omega)]) (Ev.congr (fun k => ?_) (Ev.now _))
    rw [decide_eq_true (fun j hj hij => by omega)]
  | n + 1, i, hi => by
    have hil : i < l.length := by omega
    have HW : Aside0 (wrap64 ((i : Int) + 1) = ((i + 1 : Nat) : Int)) := ⟨by rw [w64 (by omega) (by omega)]; rfl⟩
    have hx : l.getD i 0 ∈ l := by rw [List.getD_eq_getElem?_getD, List.getElem?_eq_getElem hil]; exact List.getElem_mem hil
    obtain ⟨hx0, hx1⟩ := hall _ hx
    have ih := openC_l0 hg hl hall n (i + 1) (by omega)
    have hrd : rd cs (l.getD i 0) = cs.getD (l.getD i 0).toNat 0 := rfl
    have hc := contains_ev (l.take i) (l.getD i 0) (by rw [List.length_take]; omega)
    refine Ev.step (f := fun k => (slices_Contains_int_int.f k (l.take i) (l.getD i 0)).bind fun t105 => if t105 = true then some false else if isOpenC (cs.getD (l.getD i 0).toNat 0) = true then impl_areCells__impl_isOpen.l0 k t l l (l.length : Int) ((i + 1 : Nat) : Int) else some false) (fun k => ?_) (Ev.bind hc ?_)
    · rw [impl_areCells__impl_isOpen.l0, if_pos (by omega), if_pos (by omega), if_pos (by omega), if_pos (by omega), Int.toNat_natCast, rdN, HW.out]
      congr 1
      funext t105
      by_cases ht : t105 = true
      · rw [if_pos ht, if_pos ht]
      · rw [if_neg ht, if_neg ht, impl_read_eq t hg, Option.bind_some, if_pos hx0]
        rw [if_pos hx1, hrd]
        rfl
    · by_cases hm : l.getD i 0 ∈ l.take i
      · refine Ev.congr (fun k => if_pos (decide_eq_true hm)) (Ev.congr (fun k => ?_) (Ev.now _))
        rw [decide_eq_false (fun q => (q i hil (Nat.le_refl _)).1 hm)]
      · refine Ev.congr (fun k => if_neg (by rw [decide_eq_false hm]; exact Bool.false_ne_true)) ?_
        by_cases ha : isOpenC (cs.getD (l.getD i 0).toNat 0) = true
        · refine Ev.congr (fun k => if_pos ha) ?_
          rw [show decide (∀ j, j < l.length → i ≤ j → l.getD j 0 ∉ l.take j ∧ isOpenC (cs.getD (l.getD j 0).toNat 0) = true) = decide (∀ j, j < l.length → i + 1 ≤ j → l.getD j 0 ∉ l.take j ∧ isOpenC (cs.getD (l.getD j 0).toNat 0) = true) from by
            rw [Bool.eq_iff_iff, decide_eq_true_iff, decide_eq_true_iff]
            constructor
            · intro q j hj hij; exact q j hj (by omega)
            · intro q j hj hij
              by_cases e : j = i
              · subst e; exact ⟨hm, ha⟩
              · exact q j hj (by omega)]
          exact ih
        · refine Ev.congr (fun k => if_neg ha) (Ev.congr (fun k => ?_) (Ev.now _))
          rw [decide_eq_false (fun q => ha (q i hil (Nat.le_refl _)).2)]
theorem openC_ev {t : ByteArray} (ht : t.size < 4294967281) {w h : Nat} {cs : List Int} (hg : tyGrid (bytesOf t) = some (w, h, cs)) (l : List Int) (hlb : l.length ≤ 2000000) : Ev (fun k => impl_areCells__impl_isOpen.f k t l) (cellsOk isOpenC cs l) := by
  obtain ⟨v, _⟩ := textB_grid hg
  have hs := tray_small v
  simp only at hs
  have hN := impl_isNumber_ev t l ht
  rw [hg] at hN
  simp only at hN
  unfold impl_areCells__impl_isOpen.f
  have hno : Ev (fun k => impl_areCells__impl_isOpen.j0 k t l true) false := Ev.step (fun k => by rw [impl_areCells__impl_isOpen.j0, if_pos rfl]) (Ev.now _)
  have hwi : impl_within.f (l.length : Int) 1 3 = some (decide (1 ≤ l.length ∧ l.length ≤ 3)) := by
    unfold impl_within.f
    by_cases h1 : 1 ≤ (l.length : Int)
    · rw [if_pos h1]; congr 1; rw [Bool.eq_iff_iff, decide_eq_true_iff, decide_eq_true_iff]; omega
    · rw [if_neg h1, decide_eq_false (by omega)]
  rw [hwi]
  simp only [Option.bind_some]
  by_cases hlen : 1 ≤ l.length ∧ l.length ≤ 3
  · refine Ev.congr (fun k => if_pos (decide_eq_true hlen)) (Ev.bind hN ?_)
    cases hall : l.all (inR 0 ((cs.length : Int) - 1)) with
    | false =>
      rw [show cellsOk isOpenC cs l = false from by
        rw [Bool.eq_false_iff]
        intro q
        have q := (of_decide_eq_true q).2
        rw [Bool.eq_false_iff] at hall
        refine hall (List.all_eq_true.2 fun x hx => ?_)
        obtain ⟨j, hj, rfl⟩ := List.mem_iff_getElem.1 hx
        have := (q j hj).1
        rw [List.getD_eq_getElem?_getD, List.getElem?_eq_getElem hj, Option.getD_some] at this
        simp [inR]; omega]
      exact hno
    | true =>
      have hall' : ∀ x ∈ l, 0 ≤ x ∧ x < (cs.length : Int) := fun x hx => by
        have := List.all_eq_true.1 hall x hx
        simp [inR] at this; omega
      have h0 := openC_l0 hg hlen.2 hall' l.length 0 (by omega)
      rw [show cellsOk isOpenC cs l = decide (∀ j, j < l.length → 0 ≤ j → l.getD j 0 ∉ l.take j ∧ isOpenC (cs.getD (l.getD j 0).toNat 0) = true) from by
        rw [Bool.eq_iff_iff, decide_eq_true_iff]
        constructor
        · intro q j hj _; exact ((of_decide_eq_true q).2 j hj).2
        · intro q
          refine decide_eq_true ⟨hlen, fun j hj => ⟨?_, q j hj (Nat.zero_le _)⟩⟩
          rw [List.getD_eq_getElem?_getD, List.getElem?_eq_getElem hj]
          exact hall' _ (List.getElem_mem hj)]
      refine Ev.step (fun k => by rw [impl_areCells__impl_isOpen.j0, if_neg (by decide)]) ?_
      exact h0
  · refine Ev.congr (fun k => if_neg (by simp only [decide_eq_true_eq]; exact hlen)) ?_
    rw [show cellsOk isOpenC cs l = false from by rw [Bool.eq_false_iff]; intro q; exact hlen (of_decide_eq_true q).1]
    exact hno
theorem mcCells_l0 {w h : Nat} {cs : List Int} (hcs : 1 ≤ cs.length ∧ cs.length ≤ 36) {l : List Int} (hl : l.length ≤ 3) (wth : Int) (p : Int → Bool) (hp : ∀ c, (if c = 35 then false else if wth = 0 then true else c == wth) = p c) : ∀ (n i : Nat), i + n = l.length →
    Ev (fun k => spec_mcCells.l0 k l wth l (l.length : Int) (i : Int) w h cs) (decide (∀ j, j < l.length → i ≤ j → cellOk p cs l j))
  | 0, i, hi => by
    refine Ev.step (fun k => by rw [spec_mcCells.l0, if_neg (by omega)]) (Ev.congr (fun k => ?_) (Ev.now _))
    rw [decide_eq_true (fun j hj hij => by omega)]
  | n + 1, i, hi => by
    have hil : i < l.length := by omega
    have HW : Aside0 (wrap64 ((i : Int) + 1) = ((i + 1 : Nat) : Int)) := ⟨by rw [w64 (by omega) (by omega)]; rfl⟩
    have HC : Aside0 (wrap64 ((cs.length : Int) - 1) = (cs.length : Int) - 1) := ⟨w64 (by omega) (by omega)⟩
    have ih := mcCells_l0 (w := w) (h := h) hcs hl wth p hp n (i + 1) (by omega)
    have hrd : rd cs (l.getD i 0) = cs.getD (l.getD i 0).toNat 0 := rfl
    have hc := l1Has_ev (l.take i) (l.getD i 0) (by rw [List.length_take]; omega)
    have hin : spec_l1In.f (l.getD i 0) 0 ((cs.length : Int) - 1) = some (decide (0 ≤ l.getD i 0 ∧ l.getD i 0 < (cs.length : Int))) := by
      unfold spec_l1In.f
      by_cases h1 : l.getD i 0 ≥ 0
      · rw [if_pos h1]; congr 1; rw [Bool.eq_iff_iff, decide_eq_true_iff, decide_eq_true_iff]; omega
      · rw [if_neg h1, decide_eq_false (by omega)]
    have hstep : ∀ k, spec_mcCells.l0 (k + 1) l wth l (l.length : Int) (i : Int) w h cs = if 0 ≤ l.getD i 0 ∧ l.getD i 0 < (cs.length : Int) then ((spec_l1Has.f k (l.take i) (l.getD i 0)).bind fun t106 => if t106 = true then some false else if p (cs.getD (l.getD i 0).toNat 0) = true then spec_mcCells.l0 k l wth l (l.length : Int) ((i + 1 : Nat) : Int) w h cs else some false) else some false := fun k => by
      rw [spec_mcCells.l0, if_pos (by omega), if_pos (by omega), if_pos (by omega), HC.out, rdN, hin, Option.bind_some, HW.out]
      by_cases hr : 0 ≤ l.getD i 0 ∧ l.getD i 0 < (cs.length : Int)
      · rw [if_pos (decide_eq_true hr), if_pos hr, if_pos (by omega), Int.toNat_natCast]
        congr 1
        funext t106
        by_cases ht : t106 = true
        · rw [if_pos ht, if_pos ht]
        · rw [if_neg ht, if_neg ht, if_pos hr.1, if_pos hr.2, hrd]
          have hpc := hp (cs.getD (l.getD i 0).toNat 0)
          by_cases h35 : cs.getD (l.getD i 0).toNat 0 = 35
          · rw [if_pos h35] at hpc
            rw [if_pos h35, ← hpc, if_neg Bool.false_ne_true]
          · rw [if_neg h35] at hpc
            rw [if_neg h35]
            by_cases h0 : wth = 0
            · rw [if_pos h0] at hpc
              rw [if_pos h0, ← hpc, if_pos rfl]
            · rw [if_neg h0] at hpc
              rw [if_neg h0, ← hpc]
              by_cases hw' : cs.getD (l.getD i 0).toNat 0 = wth
              · rw [if_pos hw', if_pos (by rw [hw']; exact beq_self_eq_true _)]
              · rw [if_neg hw', if_neg (by simpa using hw')]
      · rw [if_neg (by simp only [decide_eq_true_eq]; exact hr), if_neg hr]
    refine Ev.step hstep ?_
    by_cases hr : 0 ≤ l.getD i 0 ∧ l.getD i 0 < (cs.length : Int)
    · refine Ev.congr (fun k => if_pos hr) (Ev.bind hc ?_)
      by_cases hm : l.getD i 0 ∈ l.take i
      · refine Ev.congr (fun k => if_pos (decide_eq_true hm)) (Ev.congr (fun k => ?_) (Ev.now _))
        rw [decide_eq_false (fun q => (q i hil (Nat.le_refl _)).2.1 hm)]
      · refine Ev.congr (fun k => if_neg (by rw [decide_eq_false hm]; exact Bool.false_ne_true)) ?_
        by_cases ha : p (cs.getD (l.getD i 0).toNat 0) = true
        · refine Ev.congr (fun k => if_pos ha) ?_
          rw [show decide (∀ j, j < l.length → i ≤ j → cellOk p cs l j) = decide (∀ j, j < l.length → i + 1 ≤ j → cellOk p cs l j) from by
            rw [Bool.eq_iff_iff, decide_eq_true_iff, decide_eq_true_iff]
            constructor
            · intro q j hj hij; exact q j hj (by omega)
            · intro q j hj hij
              by_cases e : j = i
              · subst e; exact ⟨hr, hm, ha⟩
              · exact q j hj (by omega)]
          exact ih
        · refine Ev.congr (fun k => if_neg ha) (Ev.congr (fun k => ?_) (Ev.now _))
          rw [decide_eq_false (fun q => ha (q i hil (Nat.le_refl _)).2.2)]
    · refine Ev.congr (fun k => if_neg hr) (Ev.congr (fun k => ?_) (Ev.now _))
      rw [decide_eq_false (fun q => hr (q i hil (Nat.le_refl _)).1)]
theorem mcCells_ev {w h : Nat} {cs : List Int} (hcs : 1 ≤ cs.length ∧ cs.length ≤ 36) (l : List Int) (hlb : l.length ≤ 2000000) (wth : Int) (p : Int → Bool) (hp : ∀ c, (if c = 35 then false else if wth = 0 then true else c == wth) = p c) : Ev (fun k => spec_mcCells.f k w h cs l wth) (cellsOk p cs l) := by
  unfold spec_mcCells.f
  have hwi : spec_l1In.f (l.length : Int) 1 3 = some (decide (1 ≤ l.length ∧ l.length ≤ 3)) := by
    unfold spec_l1In.f
    by_cases h1 : (l.length : Int) ≥ 1
    · rw [if_pos h1]; congr 1; rw [Bool.eq_iff_iff, decide_eq_true_iff, decide_eq_true_iff]; omega
    · rw [if_neg h1, decide_eq_false (by omega)]
  rw [hwi]
  simp only [Option.bind_some]
  by_cases hlen : 1 ≤ l.length ∧ l.length ≤ 3
  · refine Ev.congr (fun k => if_pos (decide_eq_true hlen)) ?_
    have h0 := mcCells_l0 (w := w) (h := h) hcs hlen.2 wth p hp l.length 0 (by omega)
    rw [show cellsOk p cs l = decide (∀ j, j < l.length → 0 ≤ j → cellOk p cs l j) from by
      rw [Bool.eq_iff_iff, decide_eq_true_iff]
      constructor
      · intro q j hj _; exact (of_decide_eq_true q).2 j hj
      · intro q; exact decide_eq_true ⟨hlen, fun j hj => q j hj (Nat.zero_le _)⟩]
    exact h0
  · refine Ev.congr (fun k => if_neg (by simp only [decide_eq_true_eq]; exact hlen)) ?_
    rw [show cellsOk p cs l = false from by rw [Bool.eq_false_iff]; intro q; exact hlen (of_decide_eq_true q).1]
    exact Ev.now _
theorem free_with (c : Int) : (if c = 35 then false else if (46 : Int) = 0 then true else c == 46) = freeC c := by
  unfold freeC
  by_cases h : c = 35
  · rw [if_pos h, h]; rfl
  · rw [if_neg h, if_neg (by decide)]
theorem open_with (c : Int) : (if c = 35 then false else if (0 : Int) = 0 then true else c == 0) = isOpenC c := by
  unfold isOpenC
  by_cases h : c = 35
  · rw [if_pos h, h]; rfl
  · rw [if_neg h, if_pos rfl]; exact (bne_iff_ne.2 h).symm
def gateB (t : ByteArray) (l1 l2 : List Int) : Bool := match tyGrid (bytesOf t) with | none => false | some g => cellsOk freeC g.2.2 l1 && cellsOk isOpenC g.2.2 l2
theorem impl_isGate_ev (t : ByteArray) (ht : t.size < 4294967281) (l1 l2 : List Int) (h1 : l1.length ≤ 2000000) (h2 : l2.length ≤ 2000000) : Ev (fun k => impl_isGate.f k t l1 l2) (gateB t l1 l2) := by
  have hT := impl_IsTray_ev t ht
  unfold gateB
  cases hg : tyGrid (bytesOf t) with
  | none =>
    rw [hg] at hT
    exact Ev.bind hT (Ev.congr (fun k => if_neg (by simp)) (Ev.now _))
  | some g =>
    rw [hg] at hT
    obtain ⟨w, h, cs⟩ := g
    show Ev _ (cellsOk freeC cs l1 && cellsOk isOpenC cs l2)
    refine Ev.bind hT (Ev.congr (fun k => if_pos (by simp)) (Ev.bind (freeC_ev ht hg l1 h1) ?_))
    cases cellsOk freeC cs l1 with
    | false => exact Ev.congr (fun k => if_neg Bool.false_ne_true) (Ev.now _)
    | true =>
      refine Ev.congr (fun k => if_pos rfl) (Ev.bind (openC_ev ht hg l2 h2) ?_)
      rw [Bool.true_and]
      exact Ev.now _
theorem spec_mcGate_ev (t : ByteArray) (l1 l2 : List Int) (h1 : l1.length ≤ 2000000) (h2 : l2.length ≤ 2000000) (wd : ByteArray) : ∃ A B C, Ev (fun k => spec_mcGate.f k t l1 l2 wd) (A, B, C, gateB t l1 l2 && isWordB (bytesOf wd)) ∧ ∀ w h cs, tyGrid (bytesOf t) = some (w, h, cs) → A = w ∧ B = h ∧ C = cs := by
  have hT := spec_tyRead_ev t
  unfold gateB spec_mcGate.f spec_mcRead.f
  cases hg : tyGrid (bytesOf t) with
  | none =>
    rw [hg] at hT
    refine ⟨_, _, _, Ev.bind (Ev.bind hT (Ev.congr (fun k => if_neg (by simp [ansT])) (Ev.now _))) (Ev.congr (fun k => if_neg Bool.false_ne_true) (Ev.now _)), fun w h cs e => by cases e⟩
  | some g =>
    rw [hg] at hT
    obtain ⟨w, h, cs⟩ := g
    obtain ⟨v, _⟩ := textB_grid hg
    have hs := tray_small v
    refine ⟨(w : Int), (h : Int), cs, Ev.bind (Ev.bind hT (Ev.congr (fun k => if_pos rfl) (Ev.bind (spec_tiWord_ev wd) (Ev.now _)))) ?_, fun w' h' cs' e => by cases e; exact ⟨rfl, rfl, rfl⟩⟩
    show Ev (fun k => if isWordB (bytesOf wd) = true then _ else _) _
    cases isWordB (bytesOf wd) with
    | false =>
      rw [Bool.and_false]
      exact Ev.congr (fun k => if_neg Bool.false_ne_true) (Ev.now _)
    | true =>
      rw [Bool.and_true]
      show Ev _ ((w : Int), (h : Int), cs, cellsOk freeC cs l1 && cellsOk isOpenC cs l2)
      refine Ev.congr (fun k => if_pos rfl) (Ev.bind (mcCells_ev hs l1 h1 46 freeC free_with) ?_)
      cases cellsOk freeC cs l1 with
      | false => exact Ev.congr (fun k => if_neg Bool.false_ne_true) (Ev.now _)
      | true =>
        refine Ev.congr (fun k => if_pos rfl) (Ev.bind (mcCells_ev hs l2 h2 0 isOpenC open_with) ?_)
        rw [Bool.true_and]
        exact Ev.now _
end Go.Proofs.YtdffgeoegdkiaaaGreatDoor.F

namespace Go.Proofs.YtdffgeoegdkiaaaGreatDoor.F
open Go.RowKit Go.Proofs.YtdffgeoegdkiaaaGreatDoor Go.Proofs.YtdffgeoegdkiaaaGreatDoorW.PrintWords Go.Proofs.YtdffgeoegdkiaaaGreatDoorW.PrintLast Go.Proofs.YtdffgeoegdkiaaaGreatDoorW.PrintMore Go.Lib
attribute [local go_sem] max2_int min2_int max_two min_two max_three min_three max_four min_four
def Sv (t : TypeId) (W : World) (base : Nat) (ok : Nat → Prop) (v : Value) (xs : List Int) : Prop :=
  ∃ g cap cur lo hi, v = .slice (some ⟨g, 0, none⟩) xs.length cap ∧ ok g ∧ W.heap[g]? = some (.cells cur t (lo, hi)) ∧ xs.length ≤ cap ∧ cap ≤ lo ∧ xs.length ≤ 9223372036854775807 ∧ ∀ j, j < xs.length → cur[j]? = some (.int .u8 (xs.getD j 0))
section
variable {t : TypeId} {W w1 : World} {base base' : Nat} {ok ok' : Nat → Prop} {v : Value} {xs : List Int}
theorem Sv_slice (h : Sv t W base ok v xs) : ∃ A c, v = .slice A xs.length c := by
  obtain ⟨g, cap, cur, lo, hi, rfl, _⟩ := h; exact ⟨_, _, rfl⟩
theorem Sv_mono (h : Sv t W base ok v xs) (hok : ∀ k, ok k → ok' k) : Sv t W base ok' v xs := by
  obtain ⟨g, cap, cur, lo, hi, e, h1, r⟩ := h; exact ⟨g, cap, cur, lo, hi, e, hok g h1, r⟩
theorem Sv_lower (h : Sv t W base ok v xs) (_ : base' ≤ base) : Sv t W base' ok v xs := h
theorem Sv_far (h : Sv t W base ok v xs) {p : Addr} (hok : ∀ k, ok k → k ≠ p.block) (u : Value) : Sv t (W.setCell p u) base ok v xs := by
  obtain ⟨g, cap, cur, lo, hi, e, h1, h2, r⟩ := h
  exact ⟨g, cap, cur, lo, hi, e, h1, (Below.heap_setCell W p u g (hok g h1)).trans h2, r⟩
theorem Sv_below (h : Sv t W base ok v xs) (hb : Below W.heap.size W w1) : Sv t w1 base ok v xs := by
  obtain ⟨g, cap, cur, lo, hi, e, h1, h2, r⟩ := h
  exact ⟨g, cap, cur, lo, hi, e, h1, (hb.block g (Array.getElem?_eq_some_iff.1 h2).1).trans h2, r⟩
theorem Sv_alloc (h : Sv t W base ok v xs) (o : Obj) : Sv t (W.alloc o) base ok v xs := Sv_below h ((Below.refl _ W).alloc (Nat.le_refl _) o)
theorem Sv_drewN (h : Sv t W base ok v xs) (m : Nat) : Sv t (W.drewN m) base ok v xs := h
theorem Sv_drew (h : Sv t W base ok v xs) : Sv t W.drew base ok v xs := h
end
theorem conv_S (W : World) (e : TypeId) (s : ByteArray) (hmax : s.size ≤ 9223372036854775807) : Sv e (Lib.bytesWorld W e s) W.heap.size (fun k_ => W.heap.size ≤ k_) (.slice (some ⟨W.heap.size, 0, none⟩) s.size (grownCap W s.size 0 e)) (bytesOf s) := by
  have hl := bytesOf_length s
  have hcap : s.size ≤ grownCap W s.size 0 e := by exact grownCap_ge ..
  refine ⟨W.heap.size, grownCap W s.size 0 e, _, _, _, by rw [hl], Nat.le_refl _, Lib.bytesWorld_at_new W e s, by rw [hl]; exact hcap, ?_, by rw [hl]; exact hmax, ?_⟩
  · unfold Lib.bytesCells
    rw [Array.size_append, Array.size_map, Array.size_replicate]
    show _ ≤ s.size + _
    omega
  · intro j hj
    rw [hl] at hj
    have hc := Lib.bytesWorld_cell W e s j hj
    unfold World.cell? at hc
    rw [Lib.bytesWorld_at_new] at hc
    have hc' : (Lib.bytesCells W e s)[j]? = some (.int .u8 (s.data.toList.getD j 0).toNat) := hc
    rw [hc']
    unfold bytesOf
    rw [List.getD_eq_getElem?_getD, List.getD_eq_getElem?_getD, List.getElem?_map]
    have hjl : j < s.data.toList.length := by rw [data_length]; exact hj
    rw [List.getElem?_eq_getElem hjl]; rfl
section
variable {P : Program} {ops : Array Oper} {rest : List Oper} {o : Oper} {a : Act} {Q : Exit → Act → World → Prop} {W : World} {Kc : Act → World → Prop}
theorem conv_stepS (hw : Region.wanted o (yielded ops a.tmps) = true) {N : Tmp} (_hd : o.dst = some N) (src dst e : TypeId) (x : Operand) (ho : o.op = .convert src dst x) (s : ByteArray) (hx : a.eval x = .string s)
    (hs : P.underlying src = some .string) (hdst : P.underlying dst = some (.slice e)) (he : P.underlying e = some (.int .u8)) (r : List Int) (hr : conv_bytes.f s = some r)
    (h : ∀ v w1, Sv e w1 W.heap.size (fun k_ => (W.heap.size ≤ k_)) v r → Below W.heap.size W w1 → Kc (a.put o.dst v) w1) : if Region.wanted o (yielded ops a.tmps) = true then Oper.wp P o a W Kc Q else Kc (a.put o.dst undef) W := by
  obtain ⟨hmax, rfl⟩ := conv_bytes_some hr
  refine event_step hw (v := .slice (some ⟨W.heap.size, 0, none⟩) s.size (grownCap W s.size 0 e)) (w1 := Lib.bytesWorld W e s) ?_ (h _ _ (conv_S W e s hmax) (conv_below W e s))
  simp [execOp, ho, hx, Lib.run_convert_string_bytes W src dst e s hs hdst he]
end
set_option maxHeartbeats 8000000 in
set_option maxRecDepth 100000 in
theorem impl_read.callsS (a0 : ByteArray) (r1 : Int) (r2 : Int) (r3 : List Int) (w : World) (h : impl_read.f a0 = some (r1, r2, r3)) :
    Calls Tryz.prog 89 #[.string a0] w fun e w' => ∃ v2_ : Value, e = .returned (.agg #[.int .i64 r1, .int .i64 r2, v2_]) ∧ Sv 5 w' w.heap.size (fun k_ => (w.heap.size ≤ k_)) v2_ r3 ∧ Below w.heap.size w w' := by
  have hu93 := Tryz.underlying93
  have HB := am (Below.refl w.heap.size w)
  have H : ((strings_Split.f a0 (⟨#[47]⟩ : ByteArray)).bind fun t102 => (if 0 < (t102.length : Int) then ((strings_Join.f t102 (⟨#[]⟩ : ByteArray)).bind fun t106 => ((conv_bytes.f t106).bind fun t107 => (some (((rdOf ByteArray.empty t102 0).size : Int), (t102.length : Int), t107)))) else (none))) = some (r1, r2, r3) := h
  clear h
  obtain ⟨t102, A20, H⟩ := Option.bind_eq_some_iff.mp H
  have A2 := am A20
  clear A20
  by_cases c3 : 0 < (t102.length : Int)
  · rw [if_pos c3] at H
    have c3b0 := decide_eq_true c3
    have c3b1 : decide (0 < t102.length) = true := decide_eq_true (by omega)
    clear c3
    obtain ⟨t106, A40, H⟩ := Option.bind_eq_some_iff.mp H
    have A4 := am A40
    clear A40
    obtain ⟨t107, A50, H⟩ := Option.bind_eq_some_iff.mp H
    have A5 := am A50
    clear A50
    simp only [Option.some.injEq, Prod.mk.injEq] at H
    obtain ⟨rfl, rfl, rfl⟩ := H
    go_enter Tryz.func89, Tryz.ntmps89
    try go_wp2_with (first | ((with_reducible refine gate_dst (N := 2) rfl ?_); refine box_event ?hg (N := 2) ?hd (cs := #[.int .i64 0, .int .i64 0, .slice none 0 0]) (t := 93) ?hr ?_; (case hd => rfl); (case hg => rfl); (case hr => first | (go_simp; done) | (go_simp; rfl)); intro gb101 hg w6 hbox hb; have n0_ := am (below_step (by repeat (first | (with_reducible first | exact HB.out | apply below_alloc | apply pw_below_drewN | apply below_drew1) | exact HB.out)) hb); have n1_ := am (hbox); have n2_ := am ((by rw [hg]; exact (below_size (by repeat (first | (with_reducible first | exact HB.out | apply below_alloc | apply pw_below_drewN | apply below_drew1) | exact HB.out))) : w.heap.size ≤ gb101)); have n3_ := am ((by rw [hg]; exact (below_size (by repeat (first | (with_reducible first | exact HB.out | apply below_alloc | apply pw_below_drewN | apply below_drew1) | exact HB.out))) : w.heap.size ≤ gb101)); clear HB; have HB := n0_; have BK101 := n1_; have GW101 := n2_; have GE101 := n3_; clear n0_ n1_ n2_ n3_; clear hb hbox hg) | ((with_reducible refine gate_callee (f := 101) rfl ?_); refine goesL_ (some 5) rfl rfl Tryz.func101 (by kernel_rfl) rfl #[.string a0, .string (⟨#[47]⟩ : ByteArray)] rfl (by (try simp only [List.map_toArray, List.map_cons, List.map_nil]); first | done | rfl | (simp only [List.length_drop, List.length_take]; rfl)) ?_; (with_reducible refine (strings_Split.calls a0 (⟨#[47]⟩ : ByteArray) t102 _ A2.out).mono ?_); rintro e w7 ⟨v103, rfl, ho0, hb⟩; refine ⟨_, rfl, ?_⟩; have n0_ := am (Kd.R_lower (Kd.R_newM (M := fun k_ => (w.heap.size ≤ k_)) ho0 (below_size (by repeat (first | (with_reducible first | exact HB.out | apply below_alloc | apply pw_below_drewN | apply below_drew1 | refine below_set ?_ GE101.out) | exact HB.out))) (fun k_ h_ => h_)) (below_size (by repeat (first | (with_reducible first | exact HB.out | apply below_alloc | apply pw_below_drewN | apply below_drew1 | refine below_set ?_ GE101.out) | exact HB.out)))); have n1_ := am (blk_below (g := gb101) (o := .cells #[.int .i64 0, .int .i64 0, .slice none 0 0] 93 (0, 0)) (by (with_reducible repeat (first | refine blk_drewN ?_ _ | refine blk_drew ?_ | refine blk_alloc ?_ _)); exact BK101.out) hb); have n2_ := am (below_step (by repeat (first | (with_reducible first | exact HB.out | apply below_alloc | apply pw_below_drewN | apply below_drew1 | refine below_set ?_ GE101.out) | exact HB.out)) hb); clear BK101; clear HB; have HO104 := n0_; have BK101 := n1_; have HB := n2_; clear n0_ n1_ n2_; (try clear hb); (try clear hb2); (try clear hk); (try clear hi); (try clear ho0)))
    have n0_ := am (Kd.R_drew HO104.out)
    have n1_ := am (blk_drew BK101.out)
    have n2_ := am (below_drew1 HB.out)
    clear HO104
    clear BK101
    clear HB
    have HO104 := n0_
    have BK101 := n1_
    have HB := n2_
    clear n0_ n1_ n2_
    obtain ⟨Ao9, co9, eo9⟩ := Kd.R_slice HO104.out
    (first | subst eo9 | (injection eo9 with f1_ f2_ f3_; have f4_ := f1_.symm; have f5_ := f3_.symm; clear f1_ f2_ f3_; subst f4_; subst f5_))
    have p105 : 0 ≤ (0 : Int) := (by omega)
    have q105 : 0 < (t102.length : Int) := of_decide_eq_true (by first | (with_reducible assumption) | assumption)
    obtain ⟨ad105, e105, hx105_0⟩ := Kd.at_string (Kd.R_reads' HO104.out).2.2 0 p105 q105
    cases e105
    have qi105 : (0 < t102.length) = True := eq_true (by omega)
    (try rw [show ((0 : Int)).toNat = 0 from rfl] at hx105_0)
    (try rw [Addr.add_zero'] at hx105_0)
    replace p105 := eq_true p105
    replace q105 := eq_true q105
    refine start_ (n := 11) (S := fun w' => w'.cell? ad105 = some (.string (rdOf ByteArray.empty t102 0))) (ds := []) #[false, false, false, false, false, false, false, false, false, false, false] (by kernel_rfl) rfl rfl (hx105_0) (fun hHeld => ?_); refine with_tabW impl_read.tab2 impl_read.bits2 (fun HT_ HW_ => ?_)
    generalize w7.drew = w8 at HO104 BK101 HB hx105_0 hHeld ⊢
    refine pure_ (i := 0) (N := some 6) (v := ?_) (a' := ?_) (bm 11 1) rfl rfl (any_of HT_.out (by kernel_rfl)) (fun _ _ _ h => h) (Or.inl ⟨by rfl, ?_⟩) ?_ ?_
    rotate_left
    · intro w'
      go_simp
      with_reducible rfl
    rotate_left
    · simp only [Act.put, ac_]
      rfl
    refine pure_ (i := 1) (N := some 7) (v := ?_) (a' := ?_) (bm 11 3) rfl rfl (any_of HT_.out (by kernel_rfl)) (fun _ _ _ h => h) (Or.inl ⟨by rfl, ?_⟩) ?_ ?_
    rotate_left
    · intro w'
      go_simp
      with_reducible rfl
    rotate_left
    · simp only [Act.put, ac_]
      rfl
    refine pure_ (i := 4) (N := some 10) (v := ?_) (a' := ?_) (bm 11 19) rfl rfl (any_of HT_.out (by kernel_rfl)) (fun _ _ _ h => h) (Or.inl ⟨by rfl, ?_⟩) ?_ ?_
    rotate_left
    · intro w'
      go_simp
      with_reducible rfl
    rotate_left
    · simp only [Act.put, ac_]
      rfl
    refine pure_ (i := 5) (N := some 11) (v := ?_) (a' := ?_) (bm 11 51) rfl rfl (any_of HT_.out (by kernel_rfl)) (fun _ _ _ h => h) (Or.inl ⟨by rfl, ?_⟩) ?_ ?_
    rotate_left
    · intro w'
      go_simp
      with_reducible rfl
    rotate_left
    · simp only [Act.put, ac_]
      rfl
    refine pure_ (i := 6) (N := some 12) (v := ?_) (a' := ?_) (bm 11 115) rfl rfl (any_of HT_.out (by kernel_rfl)) (fun _ _ _ h => h) (Or.inl ⟨by rfl, ?_⟩) ?_ ?_
    rotate_left
    · intro w'
      go_simp
      with_reducible rfl
    rotate_left
    · simp only [Act.put, ac_]
      rfl
    refine take_ (i := 2) (N := some 8) (v := ?_) (a' := ?_) (bm 11 119) rfl rfl (take_ofW HT_.out HW_.out (by kernel_rfl)) (fun _ _ _ h => h) (Or.inl ⟨by rfl, ?_⟩) hHeld ?_ ?_
    rotate_left
    · intro w' s0
      go_simp
      with_reducible rfl
    rotate_left
    · simp only [Act.put, ac_]
      rfl
    refine pure_ (i := 3) (N := some 9) (v := ?_) (a' := ?_) (bm 11 127) rfl rfl (any_of HT_.out (by kernel_rfl)) (fun _ _ _ h => h) (Or.inl ⟨by rfl, ?_⟩) ?_ ?_
    rotate_left
    · intro w'
      go_simp
      with_reducible rfl
    rotate_left
    · simp only [Act.put, ac_]
      rfl
    refine one_ (i := 7) (N := some 13) (bm 11 255) rfl rfl (one_of HT_.out (by kernel_rfl)) (by decide) (fun K hK => ?_)
    refine goes_ Tryz.func128 (by kernel_rfl) rfl #[.slice (some ad105) t102.length co9, .string (⟨#[]⟩ : ByteArray)] (by rfl) rfl rfl (by (try simp only [List.map_toArray, List.map_cons, List.map_nil]); first | done | rfl | (simp only [List.length_drop, List.length_take]; rfl)) ?_
    with_reducible refine (strings_Join.calls _ _ t102 (⟨#[]⟩ : ByteArray) t106 _ ?side1 ?side2 A4.out).mono ?_
    (case side1 => repeat (first | exact (Kd.R_reads' HO104.out).2.2 | (with_reducible refine Kd.C_alloc ?_ _) | (with_reducible refine Kd.C_drewN ?_ _) | (with_reducible refine Kd.C_drew ?_)))
    (case side2 => exact (Kd.R_reads' HO104.out).2.1)
    rintro e w10 ⟨rfl, hb⟩
    have HS0_ := (hb.cell (World.block_lt_of_cell? _ _ (hHeld))).trans (hHeld)
    refine ⟨_, rfl, ?_⟩
    have n0_ := am (Kd.R_below (by (with_reducible repeat (first | apply Kd.R_alloc | apply Kd.R_drewN | apply Kd.R_drew)); exact HO104.out) hb)
    have n1_ := am (blk_below (g := gb101) (o := .cells #[.int .i64 0, .int .i64 0, .slice none 0 0] 93 (0, 0)) (by (with_reducible repeat (first | refine blk_drewN ?_ _ | refine blk_drew ?_ | refine blk_alloc ?_ _)); exact BK101.out) hb)
    have n2_ := am (below_step (by repeat (first | (with_reducible first | exact HB.out | apply below_alloc | apply pw_below_drewN | apply below_drew1 | refine below_set ?_ GE101.out) | exact HB.out)) hb)
    clear HO104
    clear BK101
    clear HB
    have HO104 := n0_
    have BK101 := n1_
    have HB := n2_
    clear n0_ n1_ n2_
    (try clear hb)
    (try clear hb2)
    (try clear hk)
    (try clear hi)
    refine hK.out _ _ (HS0_) (fun hHeld => ?_)
    clear hK K
    refine norm_ (a' := ?_) ?_ ?_
    rotate_left
    · show Act.put _ (some 13) _ = _
      simp only [Act.put, ac_]
      rfl
    refine one_ (i := 8) (N := some 14) (bm 11 511) rfl rfl (one_of HT_.out (by kernel_rfl)) (by decide) (fun K hK => ?_)
    refine conv_stepS (by rfl) (N := 14) rfl 9 60 5 _ rfl t106 rfl Tryz.underlying9 Tryz.underlying60 Tryz.underlying5 t107 A5.out ?_
    intro v108 w11 ho0 hb
    have HS0_ := (hb.cell (World.block_lt_of_cell? _ _ (hHeld))).trans (hHeld)
    have n0_ := am (Kd.R_below (by (with_reducible repeat (first | apply Kd.R_alloc | apply Kd.R_drewN | apply Kd.R_drew)); exact HO104.out) hb)
    have n1_ := am (Sv_lower (Sv_mono (ok' := fun k_ => (w.heap.size ≤ k_) ∧ some k_ ≠ (.slice (some ad105) t102.length co9 : Value).ownBlock ∧ k_ ≠ gb101) ho0 (fun k_ hk_ => ⟨(Nat.le_trans (below_size (by repeat (first | (with_reducible first | exact HB.out | apply below_alloc | apply pw_below_drewN | apply below_drew1 | refine below_set ?_ GE101.out) | exact HB.out))) hk_), (Kd.fresh' (Kd.R_lt (by (with_reducible repeat (first | apply Kd.R_alloc | apply Kd.R_drewN | apply Kd.R_drew)); exact HO104.out)) k_ hk_), (Kd.freshB (g := gb101) (o := .cells #[.int .i64 0, .int .i64 0, .slice none 0 0] 93 (0, 0)) (by (with_reducible repeat (first | refine blk_drewN ?_ _ | refine blk_drew ?_ | refine blk_alloc ?_ _)); exact BK101.out) k_ hk_)⟩)) (below_size (by repeat (first | (with_reducible first | exact HB.out | apply below_alloc | apply pw_below_drewN | apply below_drew1 | refine below_set ?_ GE101.out) | exact HB.out))))
    have n2_ := am (blk_below (g := gb101) (o := .cells #[.int .i64 0, .int .i64 0, .slice none 0 0] 93 (0, 0)) (by (with_reducible repeat (first | refine blk_drewN ?_ _ | refine blk_drew ?_ | refine blk_alloc ?_ _)); exact BK101.out) hb)
    have n3_ := am (below_step (by repeat (first | (with_reducible first | exact HB.out | apply below_alloc | apply pw_below_drewN | apply below_drew1 | refine below_set ?_ GE101.out) | exact HB.out)) hb)
    clear HO104
    clear BK101
    clear HB
    have HO104 := n0_
    have HO109 := n1_
    have BK101 := n2_
    have HB := n3_
    clear n0_ n1_ n2_ n3_
    (try clear hb)
    (try clear hb2)
    (try clear hk)
    (try clear hi)
    (try clear ho0)
    obtain ⟨Ao12, co12, eo12⟩ := Sv_slice HO109.out
    (first | subst eo12 | (injection eo12 with f1_ f2_ f3_; have f4_ := f1_.symm; have f5_ := f3_.symm; clear f1_ f2_ f3_; subst f4_; subst f5_))
    refine hK.out _ _ (HS0_) (fun hHeld => ?_)
    clear hK K
    refine norm_ (a' := ?_) ?_ ?_
    rotate_left
    · show Act.put _ (some 14) _ = _
      simp only [Act.put, ac_]
      rfl
    refine pure_ (i := 9) (N := some 15) (v := ?_) (a' := ?_) (bm 11 1023) rfl rfl (any_of HT_.out (by kernel_rfl)) (fun _ _ _ h => h) (Or.inl ⟨by rfl, ?_⟩) ?_ ?_
    rotate_left
    · intro w'
      go_simp
      with_reducible rfl
    rotate_left
    · simp only [Act.put, ac_]
      rfl
    refine one_ (i := 10) (N := none) (bm 11 2047) rfl rfl (one_of HT_.out (by kernel_rfl)) (by decide) (fun K hK => ?_)
    have hs13 : w11.cell? ⟨gb101, 0, none⟩ = some (.int .i64 0) := (blk_cell BK101.out 0).trans rfl
    have hfs13 := blk_frozen BK101.out 0
    have hs14 : w11.cell? ⟨gb101, 1, none⟩ = some (.int .i64 0) := (blk_cell BK101.out 1).trans rfl
    have hfs14 := blk_frozen BK101.out 1
    have hs15 : w11.cell? ⟨gb101, 2, none⟩ = some (.slice none 0 0) := (blk_cell BK101.out 2).trans rfl
    have hfs15 := blk_frozen BK101.out 2
    refine skip_ (w1 := ?_) (by rfl) rfl ?_ ?_
    rotate_left
    · go_simp
      rfl
    refine hK.out _ _ (((cell_far (p := ⟨gb101, _, none⟩) (by first | exact Kd.own_blk (Kd.R_ne HO104.out BK101.out (by decide)) | (rw [add_block]; exact Kd.own_blk (Kd.R_ne HO104.out BK101.out (by decide))) | (show (Addr.add _ _).block ≠ _; rw [add_block]; exact Kd.own_blk (Kd.R_ne HO104.out BK101.out (by decide))) | (dsimp only; exact Kd.own_blk (Kd.R_ne HO104.out BK101.out (by decide)))) _).trans (((cell_far (p := ⟨gb101, _, none⟩) (by first | exact Kd.own_blk (Kd.R_ne HO104.out BK101.out (by decide)) | (rw [add_block]; exact Kd.own_blk (Kd.R_ne HO104.out BK101.out (by decide))) | (show (Addr.add _ _).block ≠ _; rw [add_block]; exact Kd.own_blk (Kd.R_ne HO104.out BK101.out (by decide))) | (dsimp only; exact Kd.own_blk (Kd.R_ne HO104.out BK101.out (by decide)))) _).trans (((cell_far (p := ⟨gb101, _, none⟩) (by first | exact Kd.own_blk (Kd.R_ne HO104.out BK101.out (by decide)) | (rw [add_block]; exact Kd.own_blk (Kd.R_ne HO104.out BK101.out (by decide))) | (show (Addr.add _ _).block ≠ _; rw [add_block]; exact Kd.own_blk (Kd.R_ne HO104.out BK101.out (by decide))) | (dsimp only; exact Kd.own_blk (Kd.R_ne HO104.out BK101.out (by decide)))) _).trans (hHeld))))))) (fun hHeld => ?_)
    clear hK K
    refine done_ (done_of HT_.out (by kernel_rfl)) ?_
    try go_wp2
    refine bodyPost_ret (results_cell_row rfl _ _ gb101 93 #[.int .i64 ((rdOf ByteArray.empty t102 0).size : Int), .int .i64 (t102.length : Int), .slice Ao12 t107.length co12] (0, 0) _ rfl (by (with_reducible repeat (first | refine blk_drewN ?_ _ | refine blk_drew ?_ | refine blk_alloc ?_ _)); refine blk_put (cs := #[.int .i64 ((rdOf ByteArray.empty t102 0).size : Int), .int .i64 (t102.length : Int), .slice none 0 0]) ?_ 2 _ rfl; (with_reducible repeat (first | refine blk_drewN ?_ _ | refine blk_drew ?_ | refine blk_alloc ?_ _)); refine blk_put (cs := #[.int .i64 ((rdOf ByteArray.empty t102 0).size : Int), .int .i64 0, .slice none 0 0]) ?_ 1 _ rfl; (with_reducible repeat (first | refine blk_drewN ?_ _ | refine blk_drew ?_ | refine blk_alloc ?_ _)); refine blk_put (cs := #[.int .i64 0, .int .i64 0, .slice none 0 0]) ?_ 0 _ rfl; (with_reducible repeat (first | refine blk_drewN ?_ _ | refine blk_drew ?_ | refine blk_alloc ?_ _)); exact BK101.out) Tryz.underlying93 rfl (by kernel_rfl)) rfl ?_
    exact ⟨_, by first | rfl | (simp [errW_none, errW_some] <;> rfl) | (simp [*, errW_none, errW_some] <;> rfl), by (with_reducible repeat (first | apply Sv_alloc | apply Sv_drewN | apply Sv_drew)); exact Sv_mono (Sv_far (p := ⟨gb101, 2, none⟩) (Sv_far (p := ⟨gb101, 1, none⟩) (Sv_far (p := ⟨gb101, 0, none⟩) (Sv_mono HO109.out (fun k_ hk => (⟨hk, hk.2.2⟩ : _ ∧ k_ ≠ gb101))) (fun _ hk => hk.2) (.int .i64 ((rdOf ByteArray.empty t102 0).size : Int))) (fun _ hk => hk.2) (.int .i64 (t102.length : Int))) (fun _ hk => hk.2) (.slice Ao12 t107.length co12)) (fun _ hk => hk.1.1), by repeat (first | (with_reducible first | exact HB.out | apply below_alloc | apply pw_below_drewN | apply below_drew1 | refine below_set ?_ GE101.out) | exact HB.out)⟩
  · rw [if_neg c3] at H
    exact absurd H (by simp)
end Go.Proofs.YtdffgeoegdkiaaaGreatDoor.F

namespace Go.Proofs.YtdffgeoegdkiaaaGreatDoor
open Go.RowKit Go.Proofs.YtdffgeoegdkiaaaGreatDoorW.PrintWords Go.Proofs.YtdffgeoegdkiaaaGreatDoorW.PrintLast Go.Proofs.YtdffgeoegdkiaaaGreatDoorW.PrintMore Go.Lib
namespace Kx
def R (t : TypeId) (W : World) (base : Nat) (ok : Nat → Prop) (v : Value) (xs : List Int) : Prop :=
  (∀ k, v.ownBlock = some k → ok k) ∧ ∃ g cap cur lo hi, v = .slice (some ⟨g, 0, none⟩) xs.length cap ∧ base ≤ g ∧ W.heap[g]? = some (.cells cur t (lo, hi)) ∧ xs.length ≤ cap ∧ cap ≤ lo ∧ xs.length ≤ 9223372036854775807 ∧ ∀ j, j < xs.length → cur[j]? = some (.int .u8 (xs.getD j 0))
section
variable {t e e' base base' n cap g : Nat} {W w1 : World} {ok ok' : Nat → Prop} {u v : Value} {xs : List Int} {α : Type} {d : Kd α} {ys : List α}
theorem R_mono (h : R t W base ok v xs) (hok : ∀ k, ok k → ok' k) : R t W base ok' v xs := ⟨fun k hk => hok k (h.1 k hk), h.2⟩
theorem R_lower (h : R t W base ok v xs) (hb : base' ≤ base) : R t W base' ok v xs := by
  obtain ⟨h0, g, cap, cur, lo, hi, e, h1, r⟩ := h; exact ⟨h0, g, cap, cur, lo, hi, e, Nat.le_trans hb h1, r⟩
theorem R_move (h : R t W base ok v xs) (hm : ∀ k, v.ownBlock = some k → k < W.heap.size → w1.heap[k]? = W.heap[k]?) : R t w1 base ok v xs := by
  obtain ⟨h0, g, cap, cur, lo, hi, e, h1, h2, r⟩ := h
  exact ⟨h0, g, cap, cur, lo, hi, e, h1, (hm g (by rw [e]; rfl) (Array.getElem?_eq_some_iff.1 h2).1).trans h2, r⟩
theorem R_below (h : R t W base ok v xs) (hb : Below W.heap.size W w1) : R t w1 base ok v xs := R_move h (fun k _ hk => hb.block k hk)
theorem R_alloc (h : R t W base ok v xs) (o : Obj) : R t (W.alloc o) base ok v xs := R_below h ((Below.refl _ W).alloc (Nat.le_refl _) o)
theorem R_drewN (h : R t W base ok v xs) (m : Nat) : R t (W.drewN m) base ok v xs := h
theorem R_drew (h : R t W base ok v xs) : R t W.drew base ok v xs := h
theorem R_far (h : R t W base ok v xs) {p : Addr} (hok : ∀ k, ok k → k ≠ p.block) (u : Value) : R t (W.setCell p u) base ok v xs := R_move h (fun k hk _ => Below.heap_setCell W p u k (hok k (h.1 k hk)))
theorem R_blk (h : R t W base ok v xs) : ∀ k, v.ownBlock = some k → ∃ cells m, W.heap[k]? = some (.cells cells t m) := by
  obtain ⟨_, g, cap, cur, lo, hi, e, h1, h2, _⟩ := h
  intro k hk
  rw [e] at hk
  obtain rfl : g = k := Option.some.inj hk
  exact ⟨cur, _, h2⟩
theorem R_types (h : R t W base ok v xs) {cells : Array Value} (hb : W.heap[g]? = some (.cells cells e (0, 0))) (ht : t ≠ e) : R t W base (fun k => ok k ∧ k ≠ g) v xs :=
  ⟨fun k hk => ⟨h.1 k hk, by
    rintro rfl
    obtain ⟨c, m, hc⟩ := R_blk h k hk
    rw [hb] at hc
    injection hc with hc
    injection hc with _ hc
    exact ht hc.symm⟩, h.2⟩
theorem R_ne (h : R t W base ok v xs) {cells : Array Value} (hb : W.heap[g]? = some (.cells cells e (0, 0))) (ht : t ≠ e) : some g ≠ v.ownBlock := fun hk => ((R_types h hb ht).1 g hk.symm).2 rfl
theorem R_apart' (h : R t W base ok v xs) (hty : ∀ k, u.ownBlock = some k → ∃ cells, W.heap[k]? = some (.cells cells e' (0, 0))) (ht : t ≠ e') : R t W base (fun k => ok k ∧ some k ≠ u.ownBlock) v xs :=
  ⟨fun k hk => ⟨h.1 k hk, fun hu => by
    obtain ⟨c, hc⟩ := hty k hu.symm
    exact R_ne h hc ht hk.symm⟩, h.2⟩
theorem R_tight (_h : (0 : Nat) = 0) (h : R t W base ok v xs) : R t W base (fun k => some k = v.ownBlock) v xs := ⟨fun k hk => hk.symm, h.2⟩
theorem R_slice (h : R t W base ok v xs) : ∃ A c, v = .slice A xs.length c := by
  obtain ⟨_, g, cap, cur, lo, hi, e, _⟩ := h; exact ⟨_, _, e⟩
theorem R_form (h : R t W base ok v xs) (_hp : 0 < xs.length) : ∃ g cap, v = .slice (some ⟨g, 0, none⟩) xs.length cap ∧ base ≤ g ∧ g < W.heap.size ∧ ∃ cells, ∃ m, W.heap[g]? = some (.cells cells t m) := by
  obtain ⟨_, g, cap, cur, lo, hi, e, h1, h2, _⟩ := h; exact ⟨g, cap, e, h1, (Array.getElem?_eq_some_iff.1 h2).1, cur, _, h2⟩
theorem R_parts (h : R t W base ok (.slice (some ⟨g, 0, none⟩) n cap) xs) : n = xs.length ∧ base ≤ g ∧ ∃ cur lo hi, W.heap[g]? = some (.cells cur t (lo, hi)) ∧ xs.length ≤ cap ∧ cap ≤ lo ∧ xs.length ≤ 9223372036854775807 ∧ ∀ j, j < xs.length → cur[j]? = some (.int .u8 (xs.getD j 0)) := by
  obtain ⟨_, g', cap', cur, lo, hi, e, h1, r⟩ := h
  injection e with e1 e2 e3
  injection e1 with e1
  injection e1 with e1
  subst e1 e3
  exact ⟨e2, h1, cur, lo, hi, r⟩
theorem R_celln (d : Int) (h : R t W base ok (.slice (some ⟨g, 0, none⟩) n cap) xs) (i : Int) (h0 : 0 ≤ i) (hi : i < n) : W.cell? ⟨g, i.toNat, none⟩ = some (.int .u8 (rdOf d xs i)) ∧ W.frozen? ⟨g, i.toNat, none⟩ = false := by
  obtain ⟨rfl, hb, cur, lo, hi', h2, h3, h4, h5, h6⟩ := R_parts h
  have hil : i.toNat < xs.length := by omega
  refine ⟨(cell_of_row W g i.toNat cur t _ h2).trans ((h6 _ hil).trans ?_), ?_⟩
  · unfold rdOf
    rw [List.getD_eq_getElem?_getD, List.getD_eq_getElem?_getD, List.getElem?_eq_getElem hil]; rfl
  · simp [World.frozen?, h2]
    omega
theorem R_putg (h : R t W base ok (.slice (some ⟨g, 0, none⟩) n cap) xs) (i : Int) (x : Int) : R t (W.setCell ⟨g, i.toNat, none⟩ (.int .u8 x)) base ok (.slice (some ⟨g, 0, none⟩) n cap) (xs.set i.toNat x) ∧ W.grownBy (W.setCell ⟨g, i.toNat, none⟩ (.int .u8 x)) (some g) := by
  have h0 := h.1
  obtain ⟨rfl, hb, cur, lo, hi, h2, h3, h4, h5, h6⟩ := R_parts h
  refine ⟨⟨h0, g, cap, cur.setIfInBounds i.toNat (.int .u8 x), lo, hi, by rw [List.length_set], hb, ?_, by rw [List.length_set]; exact h3, h4, by rw [List.length_set]; exact h5, fun j hj => ?_⟩, ?_⟩
  · simp [World.setCell, Array.getElem?_modify, h2]
  · rw [List.length_set] at hj
    have hc := h6 j hj
    have hjs := (Array.getElem?_eq_some_iff.1 hc).1
    by_cases e : i.toNat = j
    · subst e
      rw [Array.getElem?_setIfInBounds_self, if_pos hjs, List.getD_eq_getElem?_getD, List.getElem?_set_self hj]; rfl
    · rw [Array.getElem?_setIfInBounds_ne e, hc, List.getD_eq_getElem?_getD, List.getD_eq_getElem?_getD, List.getElem?_set_ne e]
  · exact ⟨rfl, rfl, rfl, by rw [World.size_setCell]; exact Nat.le_refl _, fun k hk hne => Below.heap_setCell W _ _ k (fun e => hne (by rw [e]))⟩
theorem R_over' (h : d.R e W base ok u ys) (hty : ∀ k, v.ownBlock = some k → ∃ cells m, W.heap[k]? = some (.cells cells e' m)) (ht : ∀ q, q ∈ e :: d.E → q ≠ e') (hg : W.grownBy w1 v.ownBlock) : d.R e w1 base ok u ys := by
  refine Kd.R_mono (Kd.R_move (Kd.R_bound h) (fun k hk => hg.block k hk.2.2.1 (fun he => ?_))) (fun _ hk => hk.1)
  obtain ⟨_, _, _, q, hq, cells, hc⟩ := hk
  obtain ⟨cells', m, hc'⟩ := hty k he.symm
  rw [hc] at hc'
  injection hc' with hc'
  injection hc' with _ hc'
  exact ht q hq hc'
theorem R_V (h : R t W base ok v xs) : Kd.V (Kd.int .u8) t W base' ok v xs := by
  obtain ⟨h0, g, cap, cur, lo, hi, rfl, h1, h2, h3, h4, h5, h6⟩ := h
  refine ⟨_, cap, rfl, h3, fun W' hW => ?_⟩
  have h2' : W'.heap[g]? = some (.cells cur t (lo, hi)) := (hW g (h0 g rfl) (Array.getElem?_eq_some_iff.1 h2).1).trans h2
  refine Kd.C_of_reads (enc := Value.int .u8) (d := (0 : Int)) (h1 := fun _ => rfl) ⟨rfl, h5, fun _ => ⟨_, rfl, fun j hj => ?_⟩⟩
  have := (cell_of_row W' g j cur t _ h2').trans (h6 j hj)
  rwa [show (Addr.add ⟨g, 0, none⟩ j) = ⟨g, j, none⟩ from by cases j <;> simp [Addr.add]]
end
end Kx
namespace F
open Go.Proofs.YtdffgeoegdkiaaaGreatDoor
def impl_readS.f (a0 : ByteArray) : Option (Int × Int × List Int) := impl_read.f a0
theorem impl_readS.calls (a0 : ByteArray) (r1 : Int) (r2 : Int) (r3 : List Int) (w : World) (h : impl_readS.f a0 = some (r1, r2, r3)) :
    Calls Tryz.prog 89 #[.string a0] w fun e w' => ∃ v2_ : Value, e = .returned (.agg #[.int .i64 r1, .int .i64 r2, v2_]) ∧ Kx.R 5 w' w.heap.size (fun _ => True) v2_ r3 ∧ Below w.heap.size w w' := by
  refine (impl_read.callsS a0 r1 r2 r3 w h).mono ?_
  rintro e w' ⟨v2, rfl, ⟨g, cap, cur, lo, hi, e, h1, h2, h3, h4, h5, h6⟩, hb⟩
  exact ⟨v2, rfl, ⟨fun _ _ => trivial, g, cap, cur, lo, hi, e, h1, h2, h3, h4, h5, h6⟩, hb⟩
end F
end Go.Proofs.YtdffgeoegdkiaaaGreatDoor

namespace Go.Proofs.YtdffgeoegdkiaaaGreatDoor.F
open Go.Proofs.YtdffgeoegdkiaaaGreatDoor
open Go.RowKit Go.Proofs.YtdffgeoegdkiaaaGreatDoorW.PrintWords Go.Proofs.YtdffgeoegdkiaaaGreatDoorW.PrintLast Go.Proofs.YtdffgeoegdkiaaaGreatDoorW.PrintMore
attribute [local go_sem] max2_int min2_int max_two min_two max_three min_three max_four min_four
def impl_bit.f (a0 : Bool) : Option (Int) := if a0 = true then (some 1) else (some 0)
set_option maxHeartbeats 8000000 in
set_option maxRecDepth 100000 in
theorem impl_bit.calls (a0 : Bool) (r : Int) (w : World) (h : impl_bit.f a0 = some r) :
  Calls Tryz.prog 69 #[.bool a0] w fun e w' => e = .returned (.int .i64 r) ∧ Drawn0 w w' := by
 have H : (if a0 = true then (some 1) else (some 0)) = some r := h
 clear h
 by_cases c2 : a0 = true
 ·subst c2
  rw [if_pos rfl] at H
  obtain rfl := Option.some.inj H
  go_enter Tryz.func69, Tryz.ntmps69
  go_wp2
  go_ret
  exact ⟨aq7, aq11⟩
 ·replace c2 := Bool.eq_false_iff.mpr c2
  subst c2
  rw [if_neg Bool.false_ne_true] at H
  obtain rfl := Option.some.inj H
  go_enter Tryz.func69, Tryz.ntmps69
  go_wp2
  go_ret
  exact ⟨aq7, aq11⟩
mutual
def impl_table.l0 : Nat → ByteArray → List Int → List Int → ByteArray → List Int → Int → Int → Option (List Int)
 | 0, _, _, _, _, _, _, _ => none
 | k + 1, x0, x1, x2, x3, x9, x20, x21 => if x21 < x20 then ((impl_readS.f x0).bind fun bt104 => (impl_table.l1 k x0 x1 x2 x3 x9 x21 x20 x21 x1 (x1.length : Int) 0 bt104.1 bt104.2.1 bt104.2.2)) else (some x9)
def impl_table.l1 : Nat → ByteArray → List Int → List Int → ByteArray → List Int → Int → Int → Int → List Int → Int → Int → Int → Int → List Int → Option (List Int)
 | 0, _, _, _, _, _, _, _, _, _, _, _, _, _, _ => none
 | k + 1, x0, x1, x2, x3, x9, x10, x20, x21, x26, x27, x28, x110000, x110001, x110002 => if x28 < x27 then (if 0 ≤ x28 then (if x28 < (x26.length : Int) then (if 0 ≤ (wrap64 ((wrap64 ((x1.length : Int) - 1)) - x28)) then (if (Go.bits .and .i64 (shr .i64 x10 (wrap64 ((wrap64 ((x1.length : Int) - 1)) - x28))) 1) = 1 then (if 0 ≤ (rd x26 x28) then (if (rd x26 x28) < (x110002.length : Int) then (impl_table.l1 k x0 x1 x2 x3 x9 x10 x20 x21 x26 x27 (wrap64 (x28 + 1)) x110000 x110001 (x110002.set ((rd x26 x28) : Int).toNat 111)) else (none)) else (none)) else (impl_table.l1 k x0 x1 x2 x3 x9 x10 x20 x21 x26 x27 (wrap64 (x28 + 1)) x110000 x110001 x110002)) else (none)) else (none)) else (none)) else ((impl_tray_tiltedAll.f k x110000 x110001 x110002 x3).bind fun bt112 => (impl_table.l2 k x0 x1 x2 x3 x9 0 x20 x21 x2 (x2.length : Int) 0 bt112.1 bt112.2.1 bt112.2.2))
def impl_table.l2 : Nat → ByteArray → List Int → List Int → ByteArray → List Int → Int → Int → Int → List Int → Int → Int → Int → Int → List Int → Option (List Int)
 | 0, _, _, _, _, _, _, _, _, _, _, _, _, _, _ => none
 | k + 1, x0, x1, x2, x3, x9, x14, x20, x21, x50, x51, x52, x110000, x110001, x110002 => if x52 < x51 then (if 0 ≤ x52 then (if x52 < (x50.length : Int) then (if 0 ≤ (rd x50 x52) then (if (rd x50 x52) < (x110002.length : Int) then ((impl_isBall.f (rd x110002 (rd x50 x52))).bind fun t119 => ((impl_bit.f t119).bind fun t120 => (impl_table.l2 k x0 x1 x2 x3 x9 (wrap64 ((wrap64 (2 * x14)) + t120)) x20 x21 x50 x51 (wrap64 (x52 + 1)) x110000 x110001 x110002))) else (none)) else (none)) else (none)) else (none)) else (if x9.length < 17592186044416 then (impl_table.l0 k x0 x1 x2 x3 (x9 ++ [x14]) x20 (wrap64 (x21 + 1))) else (none))
end
def impl_table.f (k : Nat) (a0 : ByteArray) (l1 : List Int) (l2 : List Int) (a3 : ByteArray) : Option (List Int) := impl_table.l0 k a0 l1 l2 a3 (([] : List Int)) (shl .i64 1 (l1.length : Int)) 0
theorem impl_table.mono_l : ∀ k, (∀ y0 y1 y2 y3 y4 y5 y6, LeO (impl_table.l0 k y0 y1 y2 y3 y4 y5 y6) (impl_table.l0 (k + 1) y0 y1 y2 y3 y4 y5 y6)) ∧ (∀ y0 y1 y2 y3 y4 y5 y6 y7 y8 y9 y10 y11 y12 y13, LeO (impl_table.l1 k y0 y1 y2 y3 y4 y5 y6 y7 y8 y9 y10 y11 y12 y13) (impl_table.l1 (k + 1) y0 y1 y2 y3 y4 y5 y6 y7 y8 y9 y10 y11 y12 y13)) ∧ (∀ y0 y1 y2 y3 y4 y5 y6 y7 y8 y9 y10 y11 y12 y13, LeO (impl_table.l2 k y0 y1 y2 y3 y4 y5 y6 y7 y8 y9 y10 y11 y12 y13) (impl_table.l2 (k + 1) y0 y1 y2 y3 y4 y5 y6 y7 y8 y9 y10 y11 y12 y13))
 | 0 => ⟨fun _ _ _ _ _ _ _ r h => by simp [impl_table.l0] at h, fun _ _ _ _ _ _ _ _ _ _ _ _ _ _ r h => by simp [impl_table.l1] at h, fun _ _ _ _ _ _ _ _ _ _ _ _ _ _ r h => by simp [impl_table.l2] at h⟩
 | k + 1 => by
  obtain ⟨ih0, ih1, ih2⟩ := impl_table.mono_l k
  refine ⟨?_, ?_, ?_⟩
  ·intro y0 y1 y2 y3 y4 y5 y6
   unfold impl_table.l0
   have im0 := @impl_tray_tiltedAll.mono; exact mo
  ·intro y0 y1 y2 y3 y4 y5 y6 y7 y8 y9 y10 y11 y12 y13
   unfold impl_table.l1
   have im0 := @impl_tray_tiltedAll.mono; exact mo
  ·intro y0 y1 y2 y3 y4 y5 y6 y7 y8 y9 y10 y11 y12 y13
   unfold impl_table.l2
   have im0 := @impl_tray_tiltedAll.mono; exact mo
theorem impl_table.mono : ∀ a0 a1 a2 a3 k, LeO (impl_table.f k a0 a1 a2 a3) (impl_table.f (k + 1) a0 a1 a2 a3) := by
 intro a0 a1 a2 a3 k
 obtain ⟨ih0, ih1, ih2⟩ := impl_table.mono_l k
 unfold impl_table.f
 have im0 := @impl_tray_tiltedAll.mono; exact mo
set_option maxHeartbeats 8000000 in
set_option maxRecDepth 100000 in
theorem impl_table.calls (k : Nat) (a0 : ByteArray) (A1 : Option Addr) (c1 : Nat) (l1 : List Int) (A2 : Option Addr) (c2 : Nat) (l2 : List Int) (a3 : ByteArray) (r : List Int) (w : World) (hr1 : Kd.C (Kd.int .i64) w A1 l1.length l1) (hc1 : l1.length ≤ c1) (hr2 : Kd.C (Kd.int .i64) w A2 l2.length l2) (hc2 : l2.length ≤ c2) (h : impl_table.f k a0 l1 l2 a3 = some r) :
  Calls Tryz.prog 66 #[.string a0, .slice A1 l1.length c1, .slice A2 l2.length c2, .string a3] w fun e w' => ∃ v0_ : Value, e = .returned (v0_) ∧ Kd.R (Kd.int .i64) 3 w' w.heap.size (fun _ => True) v0_ r ∧ Below w.heap.size w w' := by
 have hu93 := Tryz.underlying93
 have HR1 := am hr1
 have HC1 := am hc1
 clear hr1 hc1
 have HR2 := am hr2
 have HC2 := am hc2
 clear hr2 hc2
 have HB := am (Below.refl w.heap.size w)
 have H : (impl_table.l0 k a0 l1 l2 a3 (([] : List Int)) (shl .i64 1 (l1.length : Int)) 0) = some r := h
 clear h
 obtain ⟨y101, hy_⟩ : ∃ y_ : List Int, y_ = (([] : List Int)) := ⟨_, rfl⟩
 replace H : (impl_table.l0 k a0 l1 l2 a3 y101 (shl .i64 1 (l1.length : Int)) 0) = some r := aq3
 have Ny101 := am hy_
 clear hy_
 obtain ⟨ji5, hji5⟩ : ∃ j_ : Int, (shl .i64 1 (l1.length : Int)) = j_ := ⟨_, rfl⟩
 first | rw [hji5] at H | simp only [hji5] at H
 have hji5_ : (IntKind.i64.wrap (1 * 2 ^ min (l1.length : Int).toNat 64)) = ji5 := hji5
 have hji5z : (l1.length : Int) ≤ 64 → (IntKind.i64.wrap (1 * 2 ^ (l1.length : Int).toNat)) = ji5 := shl_small hji5
 have hji5p : (IntKind.i64.wrap (1 * 2 ^ min l1.length 64)) = ji5 := hji5_
 have hji5q : (l1.length : Int) ≤ 64 → (IntKind.i64.wrap (1 * 2 ^ l1.length)) = ji5 := hji5z
 have hji5r : (IntKind.i64.wrap (2 ^ min l1.length 64)) = ji5 := by have h_ := hji5p; rw [Int.one_mul] at h_; exact h_
 have hji5s : (l1.length : Int) ≤ 64 → (IntKind.i64.wrap (2 ^ l1.length)) = ji5 := fun hle_ => by have h_ := hji5q hle_; rw [Int.one_mul] at h_; exact h_
 have hji5u : (IntKind.i64.wrap (2 ^ min (l1.length : Int).toNat 64)) = ji5 := by have h_ := hji5_; rw [Int.one_mul] at h_; exact h_
 have hji5v : (l1.length : Int) ≤ 64 → (IntKind.i64.wrap (2 ^ (l1.length : Int).toNat)) = ji5 := fun hle_ => by have h_ := hji5z hle_; rw [Int.one_mul] at h_; exact h_
 have hji5y : (wrap64 (1 * 2 ^ min (l1.length : Int).toNat 64)) = ji5 := (i64_w _).symm.trans hji5_
 have hji5x : (l1.length : Int) ≤ 64 → (wrap64 (1 * 2 ^ (l1.length : Int).toNat)) = ji5 := fun h_ => (i64_w _).symm.trans (hji5z h_)
 have H' := am H
 clear H
 go_enter Tryz.func66, Tryz.ntmps66
 go_wp2_with (first | ((with_reducible refine gate_dst (N := 17) rfl ?_); refine Kd.R_lit (Kd.int .i64) _ 3 ?hg (N := 17) ?hd (xs := ([] : List Int)) (inner := []) (ok := fun _ => True) (okp := fun _ => True) ?hr ?hp (fun _ hk => hk) trivial (Below.refl _ _) (Nat.le_refl _) (by simp) ?_; (case hd => rfl); (case hg => rfl); (case hr => exact aq16); (case hp => exact (Reps.none _ _)); intro v102 w6 ho7 hb hg_ hnew_; clear hg_ hnew_; (first | rw [← Ny101.out] at ho7 | (simp only [Int.reduceToNat] at ho7; rw [← Ny101.out] at ho7)); have n0_ := am (Kd.R_lower ho7 (below_size aq1)); have n1_ := am (below_step aq1 hb); clear HB; have HO103 := n0_; have HB := n1_; clear n0_ n1_; clear hb ho7))
 go_loopg [9, 21] k (fun kq v9 v21 w' => ∃ (x9_1 : List Int) (x21_1 : Int), v21 = .int .i64 x21_1 ∧ Aside0 (impl_table.l0 kq a0 l1 l2 a3 x9_1 ji5 x21_1 = some r) ∧ Aside0 (kq ≤ k) ∧ Aside0 (Kd.R (Kd.int .i64) 3 w' w.heap.size (fun _ => True) v9 x9_1) ∧ Aside0 (Below w.heap.size w w'))
 case atStart => exact ⟨(y101), (0), aq7, H', ⟨Nat.le_refl _⟩, ⟨aq26⟩, ⟨aq1⟩⟩
 case round =>
  clear H'
  try clear c1
  try clear c2
  try clear p2
  try clear c6
  try clear p6
  obtain ⟨x9_1, x21_1, rfl, HA, HK1, HO_9, HB⟩ := hrel
  cases gk with
  | zero => exact absurd HA.out (by simp [impl_table.l0])
  | succ k1 =>
   have H := HA.out
   clear HA
   simp only [impl_table.l0] at H
   by_cases c8 : x21_1 < ji5
   ·rw [if_pos c8] at H
    have c8b0 := decide_eq_true c8
    clear c8
    replace H := Option.bind_eq_some_iff.mp H
    obtain ⟨⟨t104, t105, t106⟩, A90, H⟩ := H
    replace H : (impl_table.l1 k1 a0 l1 l2 a3 x9_1 x21_1 ji5 x21_1 l1 (l1.length : Int) 0 t104 t105 t106) = some r := H
    have A9 := am A90
    clear A90
    have H' := am H
    clear H
    go_wp2_with (first | ((with_reducible refine gate_callee (f := 89) rfl ?_); refine goesL_ (some 25) rfl rfl Tryz.func89 (by kernel_rfl) rfl #[.string a0] rfl aq5 ?_; (with_reducible refine (impl_readS.calls a0 t104 t105 t106 _ A9.out).mono ?_); rintro e w10 ⟨v107, rfl, ho0, hb⟩; refine ⟨_, rfl, ?_⟩; have n0_ := am (Kd.R_below aq10 hb); have n1_ := am (Kx.R_lower ho0 (below_size aq1)); have n2_ := am (below_step aq1 hb); clear HO_9; clear HB; have HO_9 := n0_; have HO108 := n1_; have HB := n2_; clear n0_ n1_ n2_; (try clear hb); (try clear hb2); (try clear hk); (try clear hi); (try clear ho0)) | ((with_reducible refine gate_dst (N := 11) rfl ?_); refine box_event ?hg (N := 11) ?hd (cs := #[.int .i64 0, .int .i64 0, .slice none 0 0]) (t := 93) ?hr ?_; (case hd => rfl); (case hg => rfl); (case hr => exact aq16); intro gb109 hg w11 hbox hb; have n0_ := am (Kd.R_below aq10 hb); have n1_ := am (Kx.R_below (by (with_reducible repeat (first | apply Kx.R_alloc | apply Kx.R_drewN | apply Kx.R_drew)); exact HO108.out) hb); have n2_ := am (below_step aq1 hb); have n3_ := am (hbox); have n4_ := am ((by rw [hg]; exact (below_size aq1) : w.heap.size ≤ gb109)); have n5_ := am ((by rw [hg]; exact (below_size aq1) : w.heap.size ≤ gb109)); clear HO_9; clear HO108; clear HB; have HO_9 := n0_; have HO108 := n1_; have HB := n2_; have BK109 := n3_; have GW109 := n4_; have GE109 := n5_; clear n0_ n1_ n2_ n3_ n4_ n5_; clear hb hbox hg; obtain ⟨hcz12_0, hcz12_1, hcz12_2, hfz12_0, hfz12_1, hfz12_2⟩ := blk3_ BK109.out; obtain ⟨Ao13, co13, eo13⟩ := Kx.R_slice HO108.out; subst eo13))
    go_loopg [28] k1 (fun kq v28 w' => ∃ (x28_2 : Int) (x110002_2 : List Int) (u110002 : Value), v28 = .int .i64 x28_2 ∧ Aside0 (impl_table.l1 kq a0 l1 l2 a3 x9_1 x21_1 ji5 x21_1 l1 (l1.length : Int) x28_2 t104 t105 x110002_2 = some r) ∧ Aside0 (kq ≤ k1) ∧ Aside0 (Kd.R (Kd.int .i64) 3 w' w.heap.size (fun _ => True) u9 x9_1) ∧ Aside0 (Kx.R 5 w' w.heap.size (fun _ => True) u110002 x110002_2) ∧ Aside0 (w'.heap[gb109]? = some (.cells #[.int .i64 t104, .int .i64 t105, u110002] 93 (0, 0))) ∧ Aside0 (Below w.heap.size w w'))
    case atStart => exact ⟨(0), (t106), (.slice Ao13 t106.length co13), aq7, H', ⟨Nat.le_refl _⟩, ⟨by (with_reducible repeat (first | apply Kd.R_alloc | apply Kd.R_drewN | apply Kd.R_drew)); exact Kd.R_mono (Kd.R_far (p := ⟨gb109, 2, none⟩) (Kd.R_far (p := ⟨gb109, 1, none⟩) (Kd.R_far (p := ⟨gb109, 0, none⟩) (Kd.R_types HO_9.out BK109.out (by decide)) (fun _ hk => hk.2) (.int .i64 t104)) (fun _ hk => hk.2) (.int .i64 t105)) (fun _ hk => hk.2) (.slice Ao13 t106.length co13)) (fun _ hk => trivial)⟩, ⟨by (with_reducible repeat (first | apply Kd.R_alloc | apply Kd.R_drewN | apply Kd.R_drew)); exact Kx.R_mono (Kx.R_far (p := ⟨gb109, 2, none⟩) (Kx.R_far (p := ⟨gb109, 1, none⟩) (Kx.R_far (p := ⟨gb109, 0, none⟩) (Kx.R_types HO108.out BK109.out (by decide)) (fun _ hk => hk.2) (.int .i64 t104)) (fun _ hk => hk.2) (.int .i64 t105)) (fun _ hk => hk.2) (.slice Ao13 t106.length co13)) (fun _ hk => trivial)⟩, ⟨by (with_reducible repeat (first | refine blk_drewN ?_ _ | refine blk_drew ?_ | refine blk_alloc ?_ _)); refine blk_put (cs := #[.int .i64 t104, .int .i64 t105, .slice none 0 0]) ?_ 2 _ rfl; (with_reducible repeat (first | refine blk_drewN ?_ _ | refine blk_drew ?_ | refine blk_alloc ?_ _)); refine blk_put (cs := #[.int .i64 t104, .int .i64 0, .slice none 0 0]) ?_ 1 _ rfl; (with_reducible repeat (first | refine blk_drewN ?_ _ | refine blk_drew ?_ | refine blk_alloc ?_ _)); refine blk_put (cs := #[.int .i64 0, .int .i64 0, .slice none 0 0]) ?_ 0 _ rfl; (with_reducible repeat (first | refine blk_drewN ?_ _ | refine blk_drew ?_ | refine blk_alloc ?_ _)); exact BK109.out⟩, ⟨aq22⟩⟩
    case round =>
     clear H'
     try clear c1
     try clear c2
     try clear p2
     try clear c6
     try clear p6
     try clear c8
     try clear c8b0
     try clear hcz12_0
     try clear hcz12_1
     try clear hcz12_2
     try clear hfz12_0
     try clear hfz12_1
     try clear hfz12_2
     try clear p2
     try clear p6
     obtain ⟨x28_2, x110002_2, u110002, rfl, HA, HK2, HO_9, HO_110002, BK109, HB⟩ := hrel
     cases gk with
     | zero => exact absurd HA.out (by simp [impl_table.l1])
     | succ k2 =>
      have H := HA.out
      clear HA
      simp only [impl_table.l1] at H
      by_cases c14 : x28_2 < (l1.length : Int)
      ·rw [if_pos c14] at H
       have c14b0 := decide_eq_true c14
       clear c14
       by_cases c15 : 0 ≤ x28_2
       ·rw [if_pos c15] at H
        have c15b0 := decide_eq_true c15
        clear c15
        by_cases c16 : x28_2 < (l1.length : Int)
        ·rw [if_pos c16] at H
         have c16b0 := decide_eq_true c16
         clear c16
         obtain ⟨ji17, hji17⟩ : ∃ j_ : Int, (wrap64 ((wrap64 ((l1.length : Int) - 1)) - x28_2)) = j_ := ⟨_, rfl⟩
         first | rw [hji17] at H | simp only [hji17] at H
         have hji17w : (IntKind.i64.wrap ((wrap64 ((l1.length : Int) - 1)) - x28_2)) = ji17 := (i64_w _).trans hji17
         by_cases c18 : 0 ≤ (ji17)
         ·rw [if_pos c18] at H
          have c18b0 := eq_true c18
          have c18b1 := decide_eq_true c18
          clear c18
          obtain ⟨ji19, hji19⟩ : ∃ j_ : Int, (shr .i64 x21_1 (ji17)) = j_ := ⟨_, rfl⟩
          first | rw [hji19] at H | simp only [hji19] at H
          have hji19_ : (x21_1 / 2 ^ min (ji17).toNat 64) = ji19 := hji19
          have hji19z : (ji17) ≤ 64 → (x21_1 / 2 ^ (ji17).toNat) = ji19 := shr_small hji19
          by_cases c20 : (Go.bits .and .i64 (ji19) 1) = 1
          ·rw [if_pos c20] at H
           have c20b0 := beq_iff_eq.mpr c20
           have c20b1 := bne_eq_false_iff_eq.mpr c20
           clear c20
           by_cases c21 : 0 ≤ (rd l1 x28_2)
           ·rw [if_pos c21] at H
            have c21b0 := decide_eq_true c21
            clear c21
            by_cases c22 : (rd l1 x28_2) < (x110002_2.length : Int)
            ·rw [if_pos c22] at H
             have c22b0 := decide_eq_true c22
             clear c22
             obtain ⟨y111, hy_⟩ : ∃ y_ : List Int, y_ = (x110002_2.set ((rd l1 x28_2) : Int).toNat 111) := ⟨_, rfl⟩
             replace H : (impl_table.l1 k2 a0 l1 l2 a3 x9_1 x21_1 ji5 x21_1 l1 (l1.length : Int) (wrap64 (x28_2 + 1)) t104 t105 y111) = some r := aq3
             have Ny111 := am hy_
             clear hy_
             have H' := am H
             clear H
             have p110 : 0 ≤ (x28_2 : Int) := of_decide_eq_true aq4
             have q110 : x28_2 < (l1.length : Int) := of_decide_eq_true aq4
             obtain ⟨ad110, e110, hx110_0⟩ := Kd.at_int HR1.out x28_2 p110 q110
             cases e110
             try replace hx110_0 := (HB.out.cell (World.block_lt_of_cell? w _ hx110_0)).trans hx110_0
             replace p110 := eq_true p110
             replace q110 := eq_true q110
             obtain ⟨hcz24_0, hcz24_1, hcz24_2, hfz24_0, hfz24_1, hfz24_2⟩ := blk3_ BK109.out
             have p23 : 0 ≤ ((rd l1 x28_2) : Int) := of_decide_eq_true aq4
             have q23 : ((rd l1 x28_2) : Int) < ((x110002_2.length : Int) : Int) := of_decide_eq_true aq4
             obtain ⟨go23, co23, eo23, gb23, gl23, cl23, mk23_, HG23⟩ := Kx.R_form HO_110002.out (by omega)
             (first | cases eo23 | (injection eo23 with ea_ en_ ec_; (first | subst ea_ | (injection ea_ with ea_; subst ea_)); subst ec_; clear en_))
             have GB23 := am gb23
             have GG23 := am HG23
             clear gb23 gl23 HG23
             obtain ⟨hx23_0, hf23_0⟩ := Kx.R_celln 0 HO_110002.out ((rd l1 x28_2) : Int) p23 q23
             replace p23 := eq_true p23
             replace q23 := eq_true q23
             have HP25 := Kx.R_putg HO_110002.out ((rd l1 x28_2) : Int) 111
             go_wp2_with (first | ((with_reducible refine gate_store (t := 5) (p := 45) rfl ?_); refine store_event (t := 5) (p := 45) (v := ?vo_w26) (w1 := (wr.setCell ⟨go23, ((rd l1 x28_2) : Int).toNat, none⟩ (.int .u8 111))) ?hg ?ho ?hn ?hr ?_; (case ho => rfl); (case hg => rfl); (case hn => rfl); (case hr => exact aq16); intro w26 hw; have hg : wr.grownBy w26 (some go23) := (by rw [hw]; exact HP25.2); have hp_ : Kx.R 5 w26 w.heap.size (fun _ => True) (.slice (some ⟨go23, 0, none⟩) x110002_2.length co23) y111 := (by rw [hw, Ny111.out]; exact HP25.1); clear HP25; have n0_ := am (Kx.R_over' (v := (.slice (some ⟨go23, 0, none⟩) x110002_2.length co23)) aq10 (Kx.R_blk HO_110002.out) (by decide) hg); have n1_ := am (hp_); have n2_ := am (blk_grown (g := gb109) (o := .cells #[.int .i64 t104, .int .i64 t105, .slice (some ⟨go23, 0, none⟩) x110002_2.length co23] 93 (0, 0)) aq38 hg (Kx.R_ne HO_110002.out BK109.out (by decide))); have n3_ := am ((by rw [hw]; exact below_set (HB.out) GB23.out : Below w.heap.size w w26)); clear HO_9; clear HO_110002; clear BK109; clear HB; have HO_9 := n0_; have HO_110002 := n1_; have BK109 := n2_; have HB := n3_; clear n0_ n1_ n2_ n3_; clear hg hw hp_))
             go_roundg k2
             case measure => have := HK1.out; have := HK2.out; omega
             case rel => exact ⟨(wrap64 (x28_2 + 1)), (y111), (.slice (some ⟨go23, 0, none⟩) x110002_2.length co23), aq7, H', ⟨aq64⟩, ⟨aq10⟩, ⟨aq79⟩, ⟨aq38⟩, ⟨aq22⟩⟩
            ·rw [if_neg c22] at H
             exact absurd H (by simp)
           ·rw [if_neg c21] at H
            exact absurd H (by simp)
          ·rw [if_neg c20] at H
           have c20b0 := beq_eq_false_iff_ne.mpr c20
           have c20b1 := bne_iff_ne.mpr c20
           have H' := am H
           clear H
           have p110 : 0 ≤ (x28_2 : Int) := of_decide_eq_true aq4
           have q110 : x28_2 < (l1.length : Int) := of_decide_eq_true aq4
           obtain ⟨ad110, e110, hx110_0⟩ := Kd.at_int HR1.out x28_2 p110 q110
           cases e110
           try replace hx110_0 := (HB.out.cell (World.block_lt_of_cell? w _ hx110_0)).trans hx110_0
           replace p110 := eq_true p110
           replace q110 := eq_true q110
           go_wp2
           go_roundg k2
           case measure => have := HK1.out; have := HK2.out; omega
           case rel => exact ⟨(wrap64 (x28_2 + 1)), (x110002_2), (u110002), aq7, H', ⟨aq64⟩, ⟨aq10⟩, ⟨aq79⟩, ⟨aq38⟩, ⟨aq22⟩⟩
         ·rw [if_neg c18] at H
          exact absurd H (by simp)
        ·rw [if_neg c16] at H
         exact absurd H (by simp)
       ·rw [if_neg c15] at H
        exact absurd H (by simp)
      ·rw [if_neg c14] at H
       have c14b0 := decide_eq_false c14
       clear c14
       replace H := Option.bind_eq_some_iff.mp H
       obtain ⟨⟨t112, t113, t114⟩, A270, H⟩ := H
       replace H : (impl_table.l2 k2 a0 l1 l2 a3 x9_1 0 ji5 x21_1 l2 (l2.length : Int) 0 t112 t113 t114) = some r := H
       have A27 := am A270
       clear A270
       have H' := am H
       clear H
       obtain ⟨hcz28_0, hcz28_1, hcz28_2, hfz28_0, hfz28_1, hfz28_2⟩ := blk3_ BK109.out
       obtain ⟨Ao29, co29, eo29⟩ := Kx.R_slice HO_110002.out
       subst eo29
       go_wp2_with (first | ((with_reducible refine gate_callee (f := 90) rfl ?_); refine goesL_ (some 49) rfl rfl Tryz.func90 (by kernel_rfl) rfl #[.agg #[.int .i64 t104, .int .i64 t105, .slice Ao29 x110002_2.length co29], .string a3] rfl aq5 ?_; (with_reducible refine (impl_tray_tiltedAll.calls k2 t104 t105 (fun k_ => some k_ = (.slice Ao29 x110002_2.length co29 : Value).ownBlock) _ _ x110002_2 a3 t112 t113 t114 _ ?side1 A27.out).mono ?_); (case side1 => exact Kx.R_V (Kx.R_tight rfl (Kx.R_types (Kx.R_apart' (HO_110002.out) (Kd.R_typed HO_9.out) (by decide)) BK109.out (by decide)))); rintro e w30 ⟨v115, rfl, ho0, hb⟩; refine ⟨_, rfl, ?_⟩; have n0_ := am (Kd.R_below aq10 hb); have n1_ := am (Kx.R_below aq79 hb); have n2_ := am (Kd.V_lower (Kd.V_mono (ok' := fun k_ => some k_ ≠ (u9 : Value).ownBlock ∧ k_ ≠ gb109) ho0 (fun k_ hk_ => ⟨Or.elim hk_ (fun hs_ => ((Kx.R_types (Kx.R_apart' (HO_110002.out) (Kd.R_typed HO_9.out) (by decide)) BK109.out (by decide)).1 k_ hs_.symm).1.2) (fun hn_ => (Kd.fresh' (Kd.R_lt aq10) k_ hn_)), Or.elim hk_ (fun hs_ => ((Kx.R_types (Kx.R_apart' (HO_110002.out) (Kd.R_typed HO_9.out) (by decide)) BK109.out (by decide)).1 k_ hs_.symm).2) (fun hn_ => (Kd.freshB (g := gb109) (o := .cells #[.int .i64 t104, .int .i64 t105, .slice Ao29 x110002_2.length co29] 93 (0, 0)) aq38 k_ hn_))⟩)) (below_size aq22)); have n3_ := am (blk_below (g := gb109) (o := .cells #[.int .i64 t104, .int .i64 t105, .slice Ao29 x110002_2.length co29] 93 (0, 0)) aq38 hb); have n4_ := am (below_step aq22 hb); clear HO_9; clear HO_110002; clear BK109; clear HB; have HO_9 := n0_; have HO_110002 := n1_; have HO116 := n2_; have BK109 := n3_; have HB := n4_; clear n0_ n1_ n2_ n3_ n4_; (try clear hb); (try clear hb2); (try clear hk); (try clear hi); (try clear ho0); obtain ⟨hcz31_0, hcz31_1, hcz31_2, hfz31_0, hfz31_1, hfz31_2⟩ := blk3_ BK109.out; obtain ⟨Ao32, co32, eo32⟩ := Kd.V_slice HO116.out; subst eo32))
       go_loopg [14, 52] k2 (fun kq v14 v52 w' => ∃ (x14_3 : Int) (x52_3 : Int), v14 = .int .i64 x14_3 ∧ v52 = .int .i64 x52_3 ∧ Aside0 (impl_table.l2 kq a0 l1 l2 a3 x9_1 x14_3 ji5 x21_1 l2 (l2.length : Int) x52_3 t112 t113 t114 = some r) ∧ Aside0 (kq ≤ k2) ∧ Aside0 (Kd.R (Kd.int .i64) 3 w' w.heap.size (fun _ => True) u9 x9_1) ∧ Aside0 (Kd.V (Kd.int .u8) 5 w' w.heap.size (fun k_ => some k_ ≠ (u9 : Value).ownBlock ∧ k_ ≠ gb109) (.slice Ao32 t114.length co32) t114) ∧ Aside0 (w'.heap[gb109]? = some (.cells #[.int .i64 t112, .int .i64 t113, (.slice Ao32 t114.length co32)] 93 (0, 0))) ∧ Aside0 (Below w.heap.size w w'))
       case atStart => exact ⟨(0), (0), aq7, aq7, H', ⟨Nat.le_refl _⟩, ⟨by (with_reducible repeat (first | apply Kd.R_alloc | apply Kd.R_drewN | apply Kd.R_drew)); exact Kd.R_mono (Kd.R_far (p := ⟨gb109, 2, none⟩) (Kd.R_far (p := ⟨gb109, 1, none⟩) (Kd.R_far (p := ⟨gb109, 0, none⟩) (Kd.R_types HO_9.out BK109.out (by decide)) (fun _ hk => hk.2) (.int .i64 t112)) (fun _ hk => hk.2) (.int .i64 t113)) (fun _ hk => hk.2) (.slice Ao32 t114.length co32)) (fun _ hk => trivial)⟩, ⟨by (with_reducible repeat (first | apply Kd.V_alloc | apply Kd.V_drewN | apply Kd.V_drew)); exact Kd.V_mono (Kd.V_far (p := ⟨gb109, 2, none⟩) (Kd.V_far (p := ⟨gb109, 1, none⟩) (Kd.V_far (p := ⟨gb109, 0, none⟩) (Kd.V_mono HO116.out (fun k_ hk => (⟨hk, hk.2⟩ : _ ∧ k_ ≠ gb109))) (fun _ hk => hk.2) (.int .i64 t112)) (fun _ hk => hk.2) (.int .i64 t113)) (fun _ hk => hk.2) (.slice Ao32 t114.length co32)) (fun _ hk => ⟨hk.1.1, hk.1.2⟩)⟩, ⟨by (with_reducible repeat (first | refine blk_drewN ?_ _ | refine blk_drew ?_ | refine blk_alloc ?_ _)); refine blk_put (cs := #[.int .i64 t112, .int .i64 t113, .slice Ao29 x110002_2.length co29]) ?_ 2 _ rfl; (with_reducible repeat (first | refine blk_drewN ?_ _ | refine blk_drew ?_ | refine blk_alloc ?_ _)); refine blk_put (cs := #[.int .i64 t112, .int .i64 t105, .slice Ao29 x110002_2.length co29]) ?_ 1 _ rfl; (with_reducible repeat (first | refine blk_drewN ?_ _ | refine blk_drew ?_ | refine blk_alloc ?_ _)); refine blk_put (cs := #[.int .i64 t104, .int .i64 t105, .slice Ao29 x110002_2.length co29]) ?_ 0 _ rfl; (with_reducible repeat (first | refine blk_drewN ?_ _ | refine blk_drew ?_ | refine blk_alloc ?_ _)); exact BK109.out⟩, ⟨aq22⟩⟩
       case round =>
        clear H'
        try clear c1
        try clear p1
        try clear q1
        try clear hx1
        try clear c2
        try clear p2
        try clear q2
        try clear hx2
        try clear c6
        try clear p6
        try clear c8
        try clear c8b0
        try clear c9
        try clear p11
        try clear q11
        try clear hx11
        try clear c14
        try clear c14b0
        try clear c15
        try clear c15b0
        try clear c16
        try clear c16b0
        try clear c18
        try clear c18b0
        try clear c18b1
        try clear c20
        try clear c20b0
        try clear c20b1
        try clear c21
        try clear c21b0
        try clear c22
        try clear c22b0
        try clear p23
        try clear q23
        try clear hx23
        try clear hf23
        try clear hcz12_0
        try clear hcz12_1
        try clear hcz12_2
        try clear hcz24_0
        try clear hcz24_1
        try clear hcz24_2
        try clear hcz28_0
        try clear hcz28_1
        try clear hcz28_2
        try clear hcz31_0
        try clear hcz31_1
        try clear hcz31_2
        try clear hfz12_0
        try clear hfz12_1
        try clear hfz12_2
        try clear hfz24_0
        try clear hfz24_1
        try clear hfz24_2
        try clear hfz28_0
        try clear hfz28_1
        try clear hfz28_2
        try clear hfz31_0
        try clear hfz31_1
        try clear hfz31_2
        try clear hx110_0
        try clear hx23_0
        try clear p110
        try clear p2
        try clear p23
        try clear p6
        try clear q110
        try clear q23
        obtain ⟨x14_3, x52_3, rfl, rfl, HA, HK3, HO_9, HO_110002, BK109, HB⟩ := hrel
        cases gk with
        | zero => exact absurd HA.out (by simp [impl_table.l2])
        | succ k3 =>
         have H := HA.out
         clear HA
         simp only [impl_table.l2] at H
         by_cases c33 : x52_3 < (l2.length : Int)
         ·rw [if_pos c33] at H
          have c33b0 := decide_eq_true c33
          clear c33
          by_cases c34 : 0 ≤ x52_3
          ·rw [if_pos c34] at H
           have c34b0 := decide_eq_true c34
           clear c34
           by_cases c35 : x52_3 < (l2.length : Int)
           ·rw [if_pos c35] at H
            have c35b0 := decide_eq_true c35
            clear c35
            by_cases c36 : 0 ≤ (rd l2 x52_3)
            ·rw [if_pos c36] at H
             have c36b0 := decide_eq_true c36
             clear c36
             by_cases c37 : (rd l2 x52_3) < (t114.length : Int)
             ·rw [if_pos c37] at H
              have c37b0 := decide_eq_true c37
              clear c37
              obtain ⟨t119, A380, H⟩ := Option.bind_eq_some_iff.mp H
              have A38 := am A380
              clear A380
              obtain ⟨t120, A390, H⟩ := Option.bind_eq_some_iff.mp H
              have A39 := am A390
              clear A390
              have H' := am H
              clear H
              have p117 : 0 ≤ (x52_3 : Int) := of_decide_eq_true aq4
              have q117 : x52_3 < (l2.length : Int) := of_decide_eq_true aq4
              obtain ⟨ad117, e117, hx117_0⟩ := Kd.at_int HR2.out x52_3 p117 q117
              cases e117
              try replace hx117_0 := (HB.out.cell (World.block_lt_of_cell? w _ hx117_0)).trans hx117_0
              replace p117 := eq_true p117
              replace q117 := eq_true q117
              obtain ⟨hcz40_0, hcz40_1, hcz40_2, hfz40_0, hfz40_1, hfz40_2⟩ := blk3_ BK109.out
              have p118 : 0 ≤ ((rd l2 x52_3) : Int) := of_decide_eq_true aq4
              have q118 : (rd l2 x52_3) < (t114.length : Int) := of_decide_eq_true aq4
              obtain ⟨ad118, e118, hx118_0⟩ := Kd.at_int (Kd.V_reads' HO_110002.out).2.2 (rd l2 x52_3) p118 q118
              cases e118
              replace p118 := eq_true p118
              replace q118 := eq_true q118
              go_wp2_with (first | ((with_reducible refine gate_callee (f := 107) rfl ?_); refine goesL_ (some 63) rfl rfl Tryz.func107 (by kernel_rfl) rfl #[.int .u8 (rd t114 (rd l2 x52_3))] rfl aq5 ?_; (with_reducible refine (impl_isBall.calls (rd t114 (rd l2 x52_3)) t119 _ A38.out).mono ?_); rintro e w' ⟨rfl, ⟨nd, rfl⟩⟩; refine ⟨_, rfl, ?_⟩) | ((with_reducible refine gate_callee (f := 69) rfl ?_); refine goesL_ (some 64) rfl rfl Tryz.func69 (by kernel_rfl) rfl #[.bool t119] rfl aq5 ?_; (with_reducible refine (impl_bit.calls t119 t120 _ A39.out).mono ?_); rintro e w' ⟨rfl, ⟨nd, rfl⟩⟩; refine ⟨_, rfl, ?_⟩))
              go_roundg k3
              case measure => have := HK1.out; have := HK2.out; have := HK3.out; omega
              case rel => exact ⟨(wrap64 ((wrap64 (2 * x14_3)) + t120)), (wrap64 (x52_3 + 1)), aq7, aq7, H', ⟨aq52⟩, ⟨aq10⟩, ⟨by (with_reducible repeat (first | apply Kd.V_alloc | apply Kd.V_drewN | apply Kd.V_drew)); exact HO_110002.out⟩, ⟨aq38⟩, ⟨aq22⟩⟩
             ·rw [if_neg c37] at H
              exact absurd H (by simp)
            ·rw [if_neg c36] at H
             exact absurd H (by simp)
           ·rw [if_neg c35] at H
            exact absurd H (by simp)
          ·rw [if_neg c34] at H
           exact absurd H (by simp)
         ·rw [if_neg c33] at H
          have c33b0 := decide_eq_false c33
          clear c33
          by_cases c41 : x9_1.length < 17592186044416
          ·rw [if_pos c41] at H
           have LMc41 := am c41
           clear c41
           obtain ⟨y121, hy_⟩ : ∃ y_ : List Int, y_ = (x9_1 ++ [x14_3]) := ⟨_, rfl⟩
           replace H : (impl_table.l0 k3 a0 l1 l2 a3 y121 ji5 (wrap64 (x21_1 + 1))) = some r := aq3
           have Ny121 := am hy_
           clear hy_
           have H' := am H
           clear H
           go_wp2_with (first | ((with_reducible refine gate_builtin (b := .append) (xs := #[.tmp 67, .tmp 69]) rfl ?_); at_builtin; refine Kd.R_append (Kd.int .i64) (w0 := w) w.heap.size rfl (.tmp 67) (.tmp 69) 28 3 (.int .i64 0) 8 rfl Tryz.underlying28 info3 rfl (by decide) (by omega) u9 x9_1 x14_3 [.int .i64 x14_3] (fun _ => True) (fun _ => False) rfl rfl ?aP (fun _ hk => hk.elim) ?aF ?aO ?aB ?aS ?aL ?_; (case aP => exact rfl); (case aB => exact aq22); (case aF => exact aq80); (case aO => exact aq10); (case aS => exact (below_size aq22)); (case aL => have := LMc41.out; omega); intro v122 w42 ho hb hg hat; rw [← Ny121.out] at ho; have n0_ := am (Kd.V_afterv (ok := (fun k_ => k_ ≠ gb109)) (by (with_reducible repeat (first | apply Kd.V_alloc | apply Kd.V_drewN | apply Kd.V_drew)); exact Kd.V_mono HO_110002.out (fun _ hk => ⟨hk.2, hk.1⟩)) hg hat); have n1_ := am (blk_grown (g := gb109) (o := .cells #[.int .i64 t112, .int .i64 t113, .slice Ao32 t114.length co32] 93 (0, 0)) aq38 hg (Kd.R_ne HO_9.out BK109.out (by decide))); have n2_ := am (hb); have n3_ := am (ho); clear HO_110002; clear BK109; clear HB; clear HO_9; have HO_110002 := n0_; have BK109 := n1_; have HB := n2_; have HO123 := n3_; clear n0_ n1_ n2_ n3_; clear ho hb hg hat))
           go_roundg k3
           case measure => have := HK1.out; have := HK2.out; have := HK3.out; omega
           case rel => exact ⟨(y121), (wrap64 (x21_1 + 1)), aq7, H', ⟨aq52⟩, ⟨by (with_reducible repeat (first | apply Kd.R_alloc | apply Kd.R_drewN | apply Kd.R_drew)); exact HO123.out⟩, ⟨aq22⟩⟩
          ·rw [if_neg c41] at H
           exact absurd H (by simp)
   ·rw [if_neg c8] at H
    have c8b0 := decide_eq_false c8
    clear c8
    obtain rfl := Option.some.inj H
    go_wp2
    go_ret
    exact ⟨_, by first | rfl | (simp [errW_none, errW_some] <;> rfl) | (simp only [← hji5]; first | rfl | (simp [errW_none, errW_some] <;> rfl)) | (simp [*, errW_none, errW_some] <;> rfl), aq10, aq1⟩
mutual
def spec_mcTable.l0 : Nat → List Int → List Int → ByteArray → List Int → Int → Int → Int → List Int → Option (List Int)
 | 0, _, _, _, _, _, _, _, _ => none
 | k + 1, x1, x2, x3, x9, x10, x102000, x102001, x102002 => if x10 < (shl .i64 1 (x1.length : Int)) then ((spec_tyCopy.f x102000 x102001 x102002).bind fun bt102 => (spec_mcTable.l1 k x1 x2 x3 x9 x10 x1 (x1.length : Int) 0 x102000 x102001 x102002 bt102.1 bt102.2.1 bt102.2.2)) else (some x9)
def spec_mcTable.l1 : Nat → List Int → List Int → ByteArray → List Int → Int → List Int → Int → Int → Int → Int → List Int → Int → Int → List Int → Option (List Int)
 | 0, _, _, _, _, _, _, _, _, _, _, _, _, _, _ => none
 | k + 1, x1, x2, x3, x9, x10, x26, x27, x28, x102000, x102001, x102002, x108000, x108001, x108002 => if x28 < x27 then (if 0 ≤ x28 then (if x28 < (x26.length : Int) then (if 0 ≤ (wrap64 ((wrap64 ((x1.length : Int) - 1)) - x28)) then (if (Int.tmod (shr .i64 x10 (wrap64 ((wrap64 ((x1.length : Int) - 1)) - x28))) 2) = 1 then (if 0 ≤ (rd x26 x28) then (if (rd x26 x28) < (x108002.length : Int) then (spec_mcTable.l1 k x1 x2 x3 x9 x10 x26 x27 (wrap64 (x28 + 1)) x102000 x102001 x102002 x108000 x108001 (x108002.set ((rd x26 x28) : Int).toNat 111)) else (none)) else (none)) else (spec_mcTable.l1 k x1 x2 x3 x9 x10 x26 x27 (wrap64 (x28 + 1)) x102000 x102001 x102002 x108000 x108001 x108002)) else (none)) else (none)) else (none)) else ((spec_tiRun.f k x108000 x108001 x108002 x3).bind fun bt110 => (spec_mcTable.l2 k x1 x2 x3 x9 x10 0 x2 (x2.length : Int) 0 x102000 x102001 x102002 bt110.1 bt110.2.1 bt110.2.2))
def spec_mcTable.l2 : Nat → List Int → List Int → ByteArray → List Int → Int → Int → List Int → Int → Int → Int → Int → List Int → Int → Int → List Int → Option (List Int)
 | 0, _, _, _, _, _, _, _, _, _, _, _, _, _, _, _ => none
 | k + 1, x1, x2, x3, x9, x10, x14, x50, x51, x52, x102000, x102001, x102002, x108000, x108001, x108002 => if x52 < x51 then (if 0 ≤ x52 then (if x52 < (x50.length : Int) then (if 0 ≤ (rd x50 x52) then (if (rd x50 x52) < (x108002.length : Int) then ((spec_tyBall.f (rd x108002 (rd x50 x52))).bind fun t117 => (if t117 = true then (spec_mcTable.l2 k x1 x2 x3 x9 x10 (wrap64 ((wrap64 (x14 * 2)) + 1)) x50 x51 (wrap64 (x52 + 1)) x102000 x102001 x102002 x108000 x108001 x108002) else (spec_mcTable.l2 k x1 x2 x3 x9 x10 (wrap64 (x14 * 2)) x50 x51 (wrap64 (x52 + 1)) x102000 x102001 x102002 x108000 x108001 x108002))) else (none)) else (none)) else (none)) else (none)) else (if x9.length < 17592186044416 then (spec_mcTable.l0 k x1 x2 x3 (x9 ++ [x14]) (wrap64 (x10 + 1)) x102000 x102001 x102002) else (none))
end
def spec_mcTable.f (k : Nat) (a0_0 : Int) (a0_1 : Int) (l0_2 : List Int) (l1 : List Int) (l2 : List Int) (a3 : ByteArray) : Option (List Int) := spec_mcTable.l0 k l1 l2 a3 ([] : List Int) 0 a0_0 a0_1 l0_2
theorem spec_mcTable.mono_l : ∀ k, (∀ y0 y1 y2 y3 y4 y5 y6 y7, LeO (spec_mcTable.l0 k y0 y1 y2 y3 y4 y5 y6 y7) (spec_mcTable.l0 (k + 1) y0 y1 y2 y3 y4 y5 y6 y7)) ∧ (∀ y0 y1 y2 y3 y4 y5 y6 y7 y8 y9 y10 y11 y12 y13, LeO (spec_mcTable.l1 k y0 y1 y2 y3 y4 y5 y6 y7 y8 y9 y10 y11 y12 y13) (spec_mcTable.l1 (k + 1) y0 y1 y2 y3 y4 y5 y6 y7 y8 y9 y10 y11 y12 y13)) ∧ (∀ y0 y1 y2 y3 y4 y5 y6 y7 y8 y9 y10 y11 y12 y13 y14, LeO (spec_mcTable.l2 k y0 y1 y2 y3 y4 y5 y6 y7 y8 y9 y10 y11 y12 y13 y14) (spec_mcTable.l2 (k + 1) y0 y1 y2 y3 y4 y5 y6 y7 y8 y9 y10 y11 y12 y13 y14))
 | 0 => ⟨fun _ _ _ _ _ _ _ _ r h => by simp [spec_mcTable.l0] at h, fun _ _ _ _ _ _ _ _ _ _ _ _ _ _ r h => by simp [spec_mcTable.l1] at h, fun _ _ _ _ _ _ _ _ _ _ _ _ _ _ _ r h => by simp [spec_mcTable.l2] at h⟩
 | k + 1 => by
  obtain ⟨ih0, ih1, ih2⟩ := spec_mcTable.mono_l k
  refine ⟨?_, ?_, ?_⟩
  ·intro y0 y1 y2 y3 y4 y5 y6 y7
   unfold spec_mcTable.l0
   have im0 := @spec_tiRun.mono; exact mo
  ·intro y0 y1 y2 y3 y4 y5 y6 y7 y8 y9 y10 y11 y12 y13
   unfold spec_mcTable.l1
   have im0 := @spec_tiRun.mono; exact mo
  ·intro y0 y1 y2 y3 y4 y5 y6 y7 y8 y9 y10 y11 y12 y13 y14
   unfold spec_mcTable.l2
   have im0 := @spec_tiRun.mono; exact mo
theorem spec_mcTable.mono : ∀ a0 a1 a2 a3 a4 a5 k, LeO (spec_mcTable.f k a0 a1 a2 a3 a4 a5) (spec_mcTable.f (k + 1) a0 a1 a2 a3 a4 a5) := by
 intro a0 a1 a2 a3 a4 a5 k
 obtain ⟨ih0, ih1, ih2⟩ := spec_mcTable.mono_l k
 unfold spec_mcTable.f
 have im0 := @spec_tiRun.mono; exact mo
set_option maxHeartbeats 8000000 in
set_option maxRecDepth 100000 in
theorem spec_mcTable.calls (k : Nat) (a0_0 : Int) (a0_1 : Int) (A0_2 : Option Addr) (c0_2 : Nat) (l0_2 : List Int) (A1 : Option Addr) (c1 : Nat) (l1 : List Int) (A2 : Option Addr) (c2 : Nat) (l2 : List Int) (a3 : ByteArray) (r : List Int) (w : World) (hr0_2 : Kd.C (Kd.int .u8) w A0_2 l0_2.length l0_2) (hc0_2 : l0_2.length ≤ c0_2) (hr1 : Kd.C (Kd.int .i64) w A1 l1.length l1) (hc1 : l1.length ≤ c1) (hr2 : Kd.C (Kd.int .i64) w A2 l2.length l2) (hc2 : l2.length ≤ c2) (h : spec_mcTable.f k a0_0 a0_1 l0_2 l1 l2 a3 = some r) :
  Calls Tryz.prog 63 #[.agg #[.int .i64 a0_0, .int .i64 a0_1, .slice A0_2 l0_2.length c0_2], .slice A1 l1.length c1, .slice A2 l2.length c2, .string a3] w fun e w' => ∃ v0_ : Value, e = .returned (v0_) ∧ Kd.R (Kd.int .i64) 3 w' w.heap.size (fun _ => True) v0_ r ∧ Below w.heap.size w w' := by
 have hu62 := Tryz.underlying62
 have HR0_2 := am hr0_2
 have HC0_2 := am hc0_2
 clear hr0_2 hc0_2
 have HR1 := am hr1
 have HC1 := am hc1
 clear hr1 hc1
 have HR2 := am hr2
 have HC2 := am hc2
 clear hr2 hc2
 have HB := am (Below.refl w.heap.size w)
 have H : (spec_mcTable.l0 k l1 l2 a3 ([] : List Int) 0 a0_0 a0_1 l0_2) = some r := h
 clear h
 have H' := am H
 clear H
 go_enter Tryz.func63, Tryz.ntmps63
 go_wp2_with (first | ((with_reducible refine gate_dst (N := 4) rfl ?_); refine box_event ?hg (N := 4) ?hd (cs := #[.int .i64 a0_0, .int .i64 a0_1, .slice A0_2 l0_2.length c0_2]) (t := 62) ?hr ?_; (case hd => rfl); (case hg => rfl); (case hr => exact aq16); intro gb101 hg w5 hbox hb; have n0_ := am (below_step aq1 hb); have n1_ := am (hbox); have n2_ := am ((by rw [hg]; exact (below_size aq1) : w.heap.size ≤ gb101)); have n3_ := am ((by rw [hg]; exact (below_size aq1) : w.heap.size ≤ gb101)); clear HB; have HB := n0_; have BK101 := n1_; have GW101 := n2_; have GE101 := n3_; clear n0_ n1_ n2_ n3_; clear hb hbox hg))
 go_loopg [9, 10] k (fun kq v9 v10 w' => ∃ (x9_1 : List Int) (x10_1 : Int), v10 = .int .i64 x10_1 ∧ Aside0 (spec_mcTable.l0 kq l1 l2 a3 x9_1 x10_1 a0_0 a0_1 l0_2 = some r) ∧ Aside0 (kq ≤ k) ∧ Aside0 (Kd.R (Kd.int .i64) 3 w' w.heap.size (fun _ => True) v9 x9_1) ∧ Aside0 (w'.heap[gb101]? = some (.cells #[.int .i64 a0_0, .int .i64 a0_1, (.slice A0_2 l0_2.length c0_2)] 62 (0, 0))) ∧ Aside0 (Below w.heap.size w w'))
 case atStart => exact ⟨(([] : List Int)), (0), aq7, H', ⟨Nat.le_refl _⟩, ⟨aq23⟩, ⟨aq2⟩, ⟨aq0⟩⟩
 case round =>
  clear H'
  try clear c1
  try clear c2
  try clear p2
  obtain ⟨x9_1, x10_1, rfl, HA, HK1, HO_9, BK101, HB⟩ := hrel
  cases gk with
  | zero => exact absurd HA.out (by simp [spec_mcTable.l0])
  | succ k1 =>
   have H := HA.out
   clear HA
   simp only [spec_mcTable.l0] at H
   obtain ⟨ji6, hji6⟩ : ∃ j_ : Int, (shl .i64 1 (l1.length : Int)) = j_ := ⟨_, rfl⟩
   first | rw [hji6] at H | simp only [hji6] at H
   have hji6_ : (IntKind.i64.wrap (1 * 2 ^ min (l1.length : Int).toNat 64)) = ji6 := hji6
   have hji6z : (l1.length : Int) ≤ 64 → (IntKind.i64.wrap (1 * 2 ^ (l1.length : Int).toNat)) = ji6 := shl_small hji6
   have hji6p : (IntKind.i64.wrap (1 * 2 ^ min l1.length 64)) = ji6 := hji6_
   have hji6q : (l1.length : Int) ≤ 64 → (IntKind.i64.wrap (1 * 2 ^ l1.length)) = ji6 := hji6z
   have hji6r : (IntKind.i64.wrap (2 ^ min l1.length 64)) = ji6 := by have h_ := hji6p; rw [Int.one_mul] at h_; exact h_
   have hji6s : (l1.length : Int) ≤ 64 → (IntKind.i64.wrap (2 ^ l1.length)) = ji6 := fun hle_ => by have h_ := hji6q hle_; rw [Int.one_mul] at h_; exact h_
   have hji6u : (IntKind.i64.wrap (2 ^ min (l1.length : Int).toNat 64)) = ji6 := by have h_ := hji6_; rw [Int.one_mul] at h_; exact h_
   have hji6v : (l1.length : Int) ≤ 64 → (IntKind.i64.wrap (2 ^ (l1.length : Int).toNat)) = ji6 := fun hle_ => by have h_ := hji6z hle_; rw [Int.one_mul] at h_; exact h_
   have hji6y : (wrap64 (1 * 2 ^ min (l1.length : Int).toNat 64)) = ji6 := (i64_w _).symm.trans hji6_
   have hji6x : (l1.length : Int) ≤ 64 → (wrap64 (1 * 2 ^ (l1.length : Int).toNat)) = ji6 := fun h_ => (i64_w _).symm.trans (hji6z h_)
   by_cases c7 : x10_1 < (ji6)
   ·rw [if_pos c7] at H
    have c7b0 := decide_eq_true c7
    clear c7
    replace H := Option.bind_eq_some_iff.mp H
    obtain ⟨⟨t102, t103, t104⟩, A80, H⟩ := H
    replace H : (spec_mcTable.l1 k1 l1 l2 a3 x9_1 x10_1 l1 (l1.length : Int) 0 a0_0 a0_1 l0_2 t102 t103 t104) = some r := H
    have A8 := am A80
    clear A80
    have H' := am H
    clear H
    obtain ⟨hcz9_0, hcz9_1, hcz9_2, hfz9_0, hfz9_1, hfz9_2⟩ := blk3_ BK101.out
    go_wp2_with (first | ((with_reducible refine gate_callee (f := 114) rfl ?_); refine goesL_ (some 25) rfl rfl Tryz.func114 (by kernel_rfl) rfl #[.agg #[.int .i64 a0_0, .int .i64 a0_1, .slice A0_2 l0_2.length c0_2]] rfl aq5 ?_; (with_reducible refine (spec_tyCopy.calls a0_0 a0_1 _ _ l0_2 t102 t103 t104 _ ?side1 ?side2 A8.out).mono ?_); (case side1 => exact aq9); (case side2 => exact HC0_2.out); rintro e w10 ⟨v105, rfl, ho0, hb⟩; refine ⟨_, rfl, ?_⟩; have n0_ := am (Kd.R_below aq10 hb); have n1_ := am (Kd.R_lower ho0 (below_size aq0)); have n2_ := am (blk_below (g := gb101) (o := .cells #[.int .i64 a0_0, .int .i64 a0_1, .slice A0_2 l0_2.length c0_2] 62 (0, 0)) aq2 hb); have n3_ := am (below_step aq0 hb); clear HO_9; clear BK101; clear HB; have HO_9 := n0_; have HO106 := n1_; have BK101 := n2_; have HB := n3_; clear n0_ n1_ n2_ n3_; (try clear hb); (try clear hb2); (try clear hk); (try clear hi); (try clear ho0)) | ((with_reducible refine gate_dst (N := 11) rfl ?_); refine box_event ?hg (N := 11) ?hd (cs := #[.int .i64 0, .int .i64 0, .slice none 0 0]) (t := 62) ?hr ?_; (case hd => rfl); (case hg => rfl); (case hr => exact aq16); intro gb107 hg w11 hbox hb; have n0_ := am (Kd.R_below aq10 hb); have n1_ := am (Kd.R_below aq29 hb); have n2_ := am (blk_below (g := gb101) (o := .cells #[.int .i64 a0_0, .int .i64 a0_1, .slice A0_2 l0_2.length c0_2] 62 (0, 0)) aq2 hb); have n3_ := am (below_step aq0 hb); have n4_ := am (hbox); have n5_ := am ((by rw [hg]; exact (below_size aq0) : w.heap.size ≤ gb107)); have n6_ := am ((by rw [hg]; exact (below_size aq0) : w.heap.size ≤ gb107)); have n7_ := am ((by rw [hg]; exact Nat.ne_of_lt (blk_lt (g := gb101) (o := .cells #[.int .i64 a0_0, .int .i64 a0_1, .slice A0_2 l0_2.length c0_2] 62 (0, 0)) aq2) : gb101 ≠ gb107)); have n8_ := am ((by rw [hg]; exact Nat.ne_of_gt (blk_lt (g := gb101) (o := .cells #[.int .i64 a0_0, .int .i64 a0_1, .slice A0_2 l0_2.length c0_2] 62 (0, 0)) aq2) : gb107 ≠ gb101)); clear HO_9; clear HO106; clear BK101; clear HB; have HO_9 := n0_; have HO106 := n1_; have BK101 := n2_; have HB := n3_; have BK107 := n4_; have GW107 := n5_; have GE107 := n6_; have NB101_107 := n7_; have NB107_101 := n8_; clear n0_ n1_ n2_ n3_ n4_ n5_ n6_ n7_ n8_; clear hb hbox hg; have hnb12 := NB107_101.out; have hnc12 := NB101_107.out; obtain ⟨hcz13_0, hcz13_1, hcz13_2, hfz13_0, hfz13_1, hfz13_2⟩ := blk3_ BK107.out; obtain ⟨Ao14, co14, eo14⟩ := Kd.R_slice HO106.out; subst eo14))
    go_loopg [28] k1 (fun kq v28 w' => ∃ (x28_2 : Int) (x108002_2 : List Int) (u108002 : Value), v28 = .int .i64 x28_2 ∧ Aside0 (spec_mcTable.l1 kq l1 l2 a3 x9_1 x10_1 l1 (l1.length : Int) x28_2 a0_0 a0_1 l0_2 t102 t103 x108002_2 = some r) ∧ Aside0 (kq ≤ k1) ∧ Aside0 (Kd.R (Kd.int .i64) 3 w' w.heap.size (fun _ => True) u9 x9_1) ∧ Aside0 (Kd.R (Kd.int .u8) 5 w' w.heap.size (fun _ => True) u108002 x108002_2) ∧ Aside0 (w'.heap[gb101]? = some (.cells #[.int .i64 a0_0, .int .i64 a0_1, (.slice A0_2 l0_2.length c0_2)] 62 (0, 0))) ∧ Aside0 (w'.heap[gb107]? = some (.cells #[.int .i64 t102, .int .i64 t103, u108002] 62 (0, 0))) ∧ Aside0 (Below w.heap.size w w'))
    case atStart => exact ⟨(0), (t104), (.slice Ao14 t104.length co14), aq7, H', ⟨Nat.le_refl _⟩, ⟨by (with_reducible repeat (first | apply Kd.R_alloc | apply Kd.R_drewN | apply Kd.R_drew)); exact Kd.R_mono (Kd.R_far (p := ⟨gb107, 2, none⟩) (Kd.R_far (p := ⟨gb107, 1, none⟩) (Kd.R_far (p := ⟨gb107, 0, none⟩) (Kd.R_types HO_9.out BK107.out (by decide)) (fun _ hk => hk.2) (.int .i64 t102)) (fun _ hk => hk.2) (.int .i64 t103)) (fun _ hk => hk.2) (.slice Ao14 t104.length co14)) (fun _ hk => trivial)⟩, ⟨by (with_reducible repeat (first | apply Kd.R_alloc | apply Kd.R_drewN | apply Kd.R_drew)); exact Kd.R_mono (Kd.R_far (p := ⟨gb107, 2, none⟩) (Kd.R_far (p := ⟨gb107, 1, none⟩) (Kd.R_far (p := ⟨gb107, 0, none⟩) (Kd.R_types HO106.out BK107.out (by decide)) (fun _ hk => hk.2) (.int .i64 t102)) (fun _ hk => hk.2) (.int .i64 t103)) (fun _ hk => hk.2) (.slice Ao14 t104.length co14)) (fun _ hk => trivial)⟩, ⟨aq47⟩, ⟨by (with_reducible repeat (first | refine blk_drewN ?_ _ | refine blk_drew ?_ | refine blk_alloc ?_ _)); refine blk_put (cs := #[.int .i64 t102, .int .i64 t103, .slice none 0 0]) ?_ 2 _ rfl; (with_reducible repeat (first | refine blk_drewN ?_ _ | refine blk_drew ?_ | refine blk_alloc ?_ _)); refine blk_put (cs := #[.int .i64 t102, .int .i64 0, .slice none 0 0]) ?_ 1 _ rfl; (with_reducible repeat (first | refine blk_drewN ?_ _ | refine blk_drew ?_ | refine blk_alloc ?_ _)); refine blk_put (cs := #[.int .i64 0, .int .i64 0, .slice none 0 0]) ?_ 0 _ rfl; (with_reducible repeat (first | refine blk_drewN ?_ _ | refine blk_drew ?_ | refine blk_alloc ?_ _)); exact BK107.out⟩, ⟨aq18⟩⟩
    case round =>
     clear H'
     try clear c1
     try clear c2
     try clear p2
     try clear c6
     try clear p6
     try clear c7
     try clear c7b0
     try clear c11
     try clear c12
     try clear hcz13_0
     try clear hcz13_1
     try clear hcz13_2
     try clear hcz9_0
     try clear hcz9_1
     try clear hcz9_2
     try clear hfz13_0
     try clear hfz13_1
     try clear hfz13_2
     try clear hfz9_0
     try clear hfz9_1
     try clear hfz9_2
     try clear p2
     obtain ⟨x28_2, x108002_2, u108002, rfl, HA, HK2, HO_9, HO_108002, BK101, BK107, HB⟩ := hrel
     cases gk with
     | zero => exact absurd HA.out (by simp [spec_mcTable.l1])
     | succ k2 =>
      have H := HA.out
      clear HA
      simp only [spec_mcTable.l1] at H
      by_cases c15 : x28_2 < (l1.length : Int)
      ·rw [if_pos c15] at H
       have c15b0 := decide_eq_true c15
       clear c15
       by_cases c16 : 0 ≤ x28_2
       ·rw [if_pos c16] at H
        have c16b0 := decide_eq_true c16
        clear c16
        by_cases c17 : x28_2 < (l1.length : Int)
        ·rw [if_pos c17] at H
         have c17b0 := decide_eq_true c17
         clear c17
         obtain ⟨ji18, hji18⟩ : ∃ j_ : Int, (wrap64 ((wrap64 ((l1.length : Int) - 1)) - x28_2)) = j_ := ⟨_, rfl⟩
         first | rw [hji18] at H | simp only [hji18] at H
         have hji18w : (IntKind.i64.wrap ((wrap64 ((l1.length : Int) - 1)) - x28_2)) = ji18 := (i64_w _).trans hji18
         by_cases c19 : 0 ≤ (ji18)
         ·rw [if_pos c19] at H
          have c19b0 := eq_true c19
          have c19b1 := decide_eq_true c19
          clear c19
          obtain ⟨ji20, hji20⟩ : ∃ j_ : Int, (shr .i64 x10_1 (ji18)) = j_ := ⟨_, rfl⟩
          first | rw [hji20] at H | simp only [hji20] at H
          have hji20_ : (x10_1 / 2 ^ min (ji18).toNat 64) = ji20 := hji20
          have hji20z : (ji18) ≤ 64 → (x10_1 / 2 ^ (ji18).toNat) = ji20 := shr_small hji20
          by_cases c21 : (Int.tmod (ji20) 2) = 1
          ·rw [if_pos c21] at H
           have c21b0 := beq_iff_eq.mpr c21
           have c21b1 := bne_eq_false_iff_eq.mpr c21
           clear c21
           by_cases c22 : 0 ≤ (rd l1 x28_2)
           ·rw [if_pos c22] at H
            have c22b0 := decide_eq_true c22
            clear c22
            by_cases c23 : (rd l1 x28_2) < (x108002_2.length : Int)
            ·rw [if_pos c23] at H
             have c23b0 := decide_eq_true c23
             clear c23
             obtain ⟨y109, hy_⟩ : ∃ y_ : List Int, y_ = (x108002_2.set ((rd l1 x28_2) : Int).toNat 111) := ⟨_, rfl⟩
             replace H : (spec_mcTable.l1 k2 l1 l2 a3 x9_1 x10_1 l1 (l1.length : Int) (wrap64 (x28_2 + 1)) a0_0 a0_1 l0_2 t102 t103 y109) = some r := aq3
             have Ny109 := am hy_
             clear hy_
             have H' := am H
             clear H
             have p108 : 0 ≤ (x28_2 : Int) := of_decide_eq_true aq4
             have q108 : x28_2 < (l1.length : Int) := of_decide_eq_true aq4
             obtain ⟨ad108, e108, hx108_0⟩ := Kd.at_int HR1.out x28_2 p108 q108
             cases e108
             try replace hx108_0 := (HB.out.cell (World.block_lt_of_cell? w _ hx108_0)).trans hx108_0
             replace p108 := eq_true p108
             replace q108 := eq_true q108
             have hnb25 := NB107_101.out
             have hnc25 := NB101_107.out
             obtain ⟨hcz26_0, hcz26_1, hcz26_2, hfz26_0, hfz26_1, hfz26_2⟩ := blk3_ BK107.out
             have p24 : 0 ≤ ((rd l1 x28_2) : Int) := of_decide_eq_true aq4
             have q24 : ((rd l1 x28_2) : Int) < ((x108002_2.length : Int) : Int) := of_decide_eq_true aq4
             obtain ⟨go24, co24, eo24, gb24, gl24, cl24, HG24⟩ := Kd.R_form HO_108002.out (by omega)
             (first | cases eo24 | (injection eo24 with ea_ en_ ec_; (first | subst ea_ | (injection ea_ with ea_; subst ea_)); subst ec_; clear en_))
             have GB24 := am gb24
             have GG24 := am HG24
             clear gb24 gl24 HG24
             obtain ⟨hx24_0, hf24_0⟩ := Kd.R_celln 0 HO_108002.out ((rd l1 x28_2) : Int) p24 q24
             replace p24 := eq_true p24
             replace q24 := eq_true q24
             have HP27 := Kd.R_putg HO_108002.out ((rd l1 x28_2) : Int) 111
             go_wp2_with (first | ((with_reducible refine gate_store (t := 5) (p := 45) rfl ?_); refine store_event (t := 5) (p := 45) (v := ?vo_w28) (w1 := (wr.setCell ⟨go24, ((rd l1 x28_2) : Int).toNat, none⟩ (.int .u8 111))) ?hg ?ho ?hn ?hr ?_; (case ho => rfl); (case hg => rfl); (case hn => rfl); (case hr => exact aq16); intro w28 hw; have hg : wr.grownBy w28 (some go24) := (by rw [hw]; exact HP27.2); have hp_ : Kd.R (Kd.int .u8) 5 w28 w.heap.size (fun _ => True) (.slice (some ⟨go24, 0, none⟩) x108002_2.length co24) y109 := (by rw [hw, Ny109.out]; exact HP27.1); clear HP27; have n0_ := am (Kd.R_over' (v := (.slice (some ⟨go24, 0, none⟩) x108002_2.length co24)) aq10 (Kd.R_typed HO_108002.out) (by decide) hg); have n1_ := am (hp_); have n2_ := am (blk_grown (g := gb101) (o := .cells #[.int .i64 a0_0, .int .i64 a0_1, .slice A0_2 l0_2.length c0_2] 62 (0, 0)) aq2 hg (Kd.R_ne HO_108002.out BK101.out (by decide))); have n3_ := am (blk_grown (g := gb107) (o := .cells #[.int .i64 t102, .int .i64 t103, .slice (some ⟨go24, 0, none⟩) x108002_2.length co24] 62 (0, 0)) aq20 hg (Kd.R_ne HO_108002.out BK107.out (by decide))); have n4_ := am ((by rw [hw]; exact below_set (HB.out) GB24.out : Below w.heap.size w w28)); clear HO_9; clear HO_108002; clear BK101; clear BK107; clear HB; have HO_9 := n0_; have HO_108002 := n1_; have BK101 := n2_; have BK107 := n3_; have HB := n4_; clear n0_ n1_ n2_ n3_ n4_; clear hg hw hp_))
             go_roundg k2
             case measure => have := HK1.out; have := HK2.out; omega
             case rel => exact ⟨(wrap64 (x28_2 + 1)), (y109), (.slice (some ⟨go24, 0, none⟩) x108002_2.length co24), aq7, H', ⟨aq64⟩, ⟨aq10⟩, ⟨aq28⟩, ⟨aq2⟩, ⟨aq20⟩, ⟨aq18⟩⟩
            ·rw [if_neg c23] at H
             exact absurd H (by simp)
           ·rw [if_neg c22] at H
            exact absurd H (by simp)
          ·rw [if_neg c21] at H
           have c21b0 := beq_eq_false_iff_ne.mpr c21
           have c21b1 := bne_iff_ne.mpr c21
           have H' := am H
           clear H
           have p108 : 0 ≤ (x28_2 : Int) := of_decide_eq_true aq4
           have q108 : x28_2 < (l1.length : Int) := of_decide_eq_true aq4
           obtain ⟨ad108, e108, hx108_0⟩ := Kd.at_int HR1.out x28_2 p108 q108
           cases e108
           try replace hx108_0 := (HB.out.cell (World.block_lt_of_cell? w _ hx108_0)).trans hx108_0
           replace p108 := eq_true p108
           replace q108 := eq_true q108
           go_wp2
           go_roundg k2
           case measure => have := HK1.out; have := HK2.out; omega
           case rel => exact ⟨(wrap64 (x28_2 + 1)), (x108002_2), (u108002), aq7, H', ⟨aq64⟩, ⟨aq10⟩, ⟨aq28⟩, ⟨aq2⟩, ⟨aq20⟩, ⟨aq18⟩⟩
         ·rw [if_neg c19] at H
          exact absurd H (by simp)
        ·rw [if_neg c17] at H
         exact absurd H (by simp)
       ·rw [if_neg c16] at H
        exact absurd H (by simp)
      ·rw [if_neg c15] at H
       have c15b0 := decide_eq_false c15
       clear c15
       replace H := Option.bind_eq_some_iff.mp H
       obtain ⟨⟨t110, t111, t112⟩, A290, H⟩ := H
       replace H : (spec_mcTable.l2 k2 l1 l2 a3 x9_1 x10_1 0 l2 (l2.length : Int) 0 a0_0 a0_1 l0_2 t110 t111 t112) = some r := H
       have A29 := am A290
       clear A290
       have H' := am H
       clear H
       have hnb30 := NB107_101.out
       have hnc30 := NB101_107.out
       obtain ⟨hcz31_0, hcz31_1, hcz31_2, hfz31_0, hfz31_1, hfz31_2⟩ := blk3_ BK107.out
       obtain ⟨Ao32, co32, eo32⟩ := Kd.R_slice HO_108002.out
       subst eo32
       go_wp2_with (first | ((with_reducible refine gate_callee (f := 99) rfl ?_); refine goesL_ (some 49) rfl rfl Tryz.func99 (by kernel_rfl) rfl #[.agg #[.int .i64 t102, .int .i64 t103, .slice Ao32 x108002_2.length co32], .string a3] rfl aq5 ?_; (with_reducible refine (spec_tiRun.calls k2 t102 t103 (fun k_ => some k_ = (.slice Ao32 x108002_2.length co32 : Value).ownBlock) _ _ x108002_2 a3 t110 t111 t112 _ ?side1 A29.out).mono ?_); (case side1 => exact Kd.R_V (Kd.R_tight rfl (Kd.R_types (Kd.R_types (Kd.R_apart' (HO_108002.out) (Kd.R_typed HO_9.out) (by decide)) BK101.out (by decide)) BK107.out (by decide)))); rintro e w33 ⟨v113, rfl, ho0, hb⟩; refine ⟨_, rfl, ?_⟩; have n0_ := am (Kd.R_below aq10 hb); have n1_ := am (Kd.R_below aq28 hb); have n2_ := am (Kd.V_lower (Kd.V_mono (ok' := fun k_ => some k_ ≠ (u9 : Value).ownBlock ∧ k_ ≠ gb101 ∧ k_ ≠ gb107) ho0 (fun k_ hk_ => ⟨Or.elim hk_ (fun hs_ => ((Kd.R_types (Kd.R_types (Kd.R_apart' (HO_108002.out) (Kd.R_typed HO_9.out) (by decide)) BK101.out (by decide)) BK107.out (by decide)).1 k_ hs_.symm).1.1.2) (fun hn_ => (Kd.fresh' (Kd.R_lt aq10) k_ hn_)), Or.elim hk_ (fun hs_ => ((Kd.R_types (Kd.R_types (Kd.R_apart' (HO_108002.out) (Kd.R_typed HO_9.out) (by decide)) BK101.out (by decide)) BK107.out (by decide)).1 k_ hs_.symm).1.2) (fun hn_ => (Kd.freshB (g := gb101) (o := .cells #[.int .i64 a0_0, .int .i64 a0_1, .slice A0_2 l0_2.length c0_2] 62 (0, 0)) aq2 k_ hn_)), Or.elim hk_ (fun hs_ => ((Kd.R_types (Kd.R_types (Kd.R_apart' (HO_108002.out) (Kd.R_typed HO_9.out) (by decide)) BK101.out (by decide)) BK107.out (by decide)).1 k_ hs_.symm).2) (fun hn_ => (Kd.freshB (g := gb107) (o := .cells #[.int .i64 t102, .int .i64 t103, .slice Ao32 x108002_2.length co32] 62 (0, 0)) aq20 k_ hn_))⟩)) (below_size aq18)); have n3_ := am (blk_below (g := gb101) (o := .cells #[.int .i64 a0_0, .int .i64 a0_1, .slice A0_2 l0_2.length c0_2] 62 (0, 0)) aq2 hb); have n4_ := am (blk_below (g := gb107) (o := .cells #[.int .i64 t102, .int .i64 t103, .slice Ao32 x108002_2.length co32] 62 (0, 0)) aq20 hb); have n5_ := am (below_step aq18 hb); clear HO_9; clear HO_108002; clear BK101; clear BK107; clear HB; have HO_9 := n0_; have HO_108002 := n1_; have HO114 := n2_; have BK101 := n3_; have BK107 := n4_; have HB := n5_; clear n0_ n1_ n2_ n3_ n4_ n5_; (try clear hb); (try clear hb2); (try clear hk); (try clear hi); (try clear ho0); obtain ⟨hcz34_0, hcz34_1, hcz34_2, hfz34_0, hfz34_1, hfz34_2⟩ := blk3_ BK107.out; obtain ⟨Ao35, co35, eo35⟩ := Kd.V_slice HO114.out; subst eo35))
       go_loopg [14, 52] k2 (fun kq v14 v52 w' => ∃ (x14_3 : Int) (x52_3 : Int), v14 = .int .i64 x14_3 ∧ v52 = .int .i64 x52_3 ∧ Aside0 (spec_mcTable.l2 kq l1 l2 a3 x9_1 x10_1 x14_3 l2 (l2.length : Int) x52_3 a0_0 a0_1 l0_2 t110 t111 t112 = some r) ∧ Aside0 (kq ≤ k2) ∧ Aside0 (Kd.R (Kd.int .i64) 3 w' w.heap.size (fun _ => True) u9 x9_1) ∧ Aside0 (Kd.V (Kd.int .u8) 5 w' w.heap.size (fun k_ => some k_ ≠ (u9 : Value).ownBlock ∧ k_ ≠ gb101 ∧ k_ ≠ gb107) (.slice Ao35 t112.length co35) t112) ∧ Aside0 (w'.heap[gb101]? = some (.cells #[.int .i64 a0_0, .int .i64 a0_1, (.slice A0_2 l0_2.length c0_2)] 62 (0, 0))) ∧ Aside0 (w'.heap[gb107]? = some (.cells #[.int .i64 t110, .int .i64 t111, (.slice Ao35 t112.length co35)] 62 (0, 0))) ∧ Aside0 (Below w.heap.size w w'))
       case atStart => exact ⟨(0), (0), aq7, aq7, H', ⟨Nat.le_refl _⟩, ⟨by (with_reducible repeat (first | apply Kd.R_alloc | apply Kd.R_drewN | apply Kd.R_drew)); exact Kd.R_mono (Kd.R_far (p := ⟨gb107, 2, none⟩) (Kd.R_far (p := ⟨gb107, 1, none⟩) (Kd.R_far (p := ⟨gb107, 0, none⟩) (Kd.R_types HO_9.out BK107.out (by decide)) (fun _ hk => hk.2) (.int .i64 t110)) (fun _ hk => hk.2) (.int .i64 t111)) (fun _ hk => hk.2) (.slice Ao35 t112.length co35)) (fun _ hk => trivial)⟩, ⟨by (with_reducible repeat (first | apply Kd.V_alloc | apply Kd.V_drewN | apply Kd.V_drew)); exact Kd.V_mono (Kd.V_far (p := ⟨gb107, 2, none⟩) (Kd.V_far (p := ⟨gb107, 1, none⟩) (Kd.V_far (p := ⟨gb107, 0, none⟩) (Kd.V_mono HO114.out (fun k_ hk => (⟨hk, hk.2.2⟩ : _ ∧ k_ ≠ gb107))) (fun _ hk => hk.2) (.int .i64 t110)) (fun _ hk => hk.2) (.int .i64 t111)) (fun _ hk => hk.2) (.slice Ao35 t112.length co35)) (fun _ hk => ⟨hk.1.1, ⟨hk.1.2.1, hk.1.2.2⟩⟩)⟩, ⟨aq47⟩, ⟨by (with_reducible repeat (first | refine blk_drewN ?_ _ | refine blk_drew ?_ | refine blk_alloc ?_ _)); refine blk_put (cs := #[.int .i64 t110, .int .i64 t111, .slice Ao32 x108002_2.length co32]) ?_ 2 _ rfl; (with_reducible repeat (first | refine blk_drewN ?_ _ | refine blk_drew ?_ | refine blk_alloc ?_ _)); refine blk_put (cs := #[.int .i64 t110, .int .i64 t103, .slice Ao32 x108002_2.length co32]) ?_ 1 _ rfl; (with_reducible repeat (first | refine blk_drewN ?_ _ | refine blk_drew ?_ | refine blk_alloc ?_ _)); refine blk_put (cs := #[.int .i64 t102, .int .i64 t103, .slice Ao32 x108002_2.length co32]) ?_ 0 _ rfl; (with_reducible repeat (first | refine blk_drewN ?_ _ | refine blk_drew ?_ | refine blk_alloc ?_ _)); exact BK107.out⟩, ⟨aq18⟩⟩
       case round =>
        clear H'
        try clear c1
        try clear p1
        try clear q1
        try clear hx1
        try clear c2
        try clear p2
        try clear q2
        try clear hx2
        try clear c3
        try clear c6
        try clear p6
        try clear c7
        try clear c7b0
        try clear c9
        try clear p10
        try clear q10
        try clear hx10
        try clear c11
        try clear c12
        try clear c15
        try clear c15b0
        try clear c16
        try clear c16b0
        try clear c17
        try clear c17b0
        try clear c19
        try clear c19b0
        try clear c19b1
        try clear c21
        try clear c21b0
        try clear c21b1
        try clear c22
        try clear c22b0
        try clear c23
        try clear c23b0
        try clear p24
        try clear q24
        try clear hx24
        try clear hf24
        try clear c25
        try clear c30
        try clear hcz13_0
        try clear hcz13_1
        try clear hcz13_2
        try clear hcz26_0
        try clear hcz26_1
        try clear hcz26_2
        try clear hcz31_0
        try clear hcz31_1
        try clear hcz31_2
        try clear hcz34_0
        try clear hcz34_1
        try clear hcz34_2
        try clear hcz9_0
        try clear hcz9_1
        try clear hcz9_2
        try clear hfz13_0
        try clear hfz13_1
        try clear hfz13_2
        try clear hfz26_0
        try clear hfz26_1
        try clear hfz26_2
        try clear hfz31_0
        try clear hfz31_1
        try clear hfz31_2
        try clear hfz34_0
        try clear hfz34_1
        try clear hfz34_2
        try clear hfz9_0
        try clear hfz9_1
        try clear hfz9_2
        try clear hx108_0
        try clear hx24_0
        try clear p108
        try clear p2
        try clear p24
        try clear p6
        try clear q108
        try clear q24
        obtain ⟨x14_3, x52_3, rfl, rfl, HA, HK3, HO_9, HO_108002, BK101, BK107, HB⟩ := hrel
        cases gk with
        | zero => exact absurd HA.out (by simp [spec_mcTable.l2])
        | succ k3 =>
         have H := HA.out
         clear HA
         simp only [spec_mcTable.l2] at H
         by_cases c36 : x52_3 < (l2.length : Int)
         ·rw [if_pos c36] at H
          have c36b0 := decide_eq_true c36
          clear c36
          by_cases c37 : 0 ≤ x52_3
          ·rw [if_pos c37] at H
           have c37b0 := decide_eq_true c37
           clear c37
           by_cases c38 : x52_3 < (l2.length : Int)
           ·rw [if_pos c38] at H
            have c38b0 := decide_eq_true c38
            clear c38
            by_cases c39 : 0 ≤ (rd l2 x52_3)
            ·rw [if_pos c39] at H
             have c39b0 := decide_eq_true c39
             clear c39
             by_cases c40 : (rd l2 x52_3) < (t112.length : Int)
             ·rw [if_pos c40] at H
              have c40b0 := decide_eq_true c40
              clear c40
              obtain ⟨t117, A410, H⟩ := Option.bind_eq_some_iff.mp H
              have A41 := am A410
              clear A410
              by_cases c42 : t117 = true
              ·subst c42
               rw [if_pos rfl] at H
               have H' := am H
               clear H
               have p115 : 0 ≤ (x52_3 : Int) := of_decide_eq_true aq4
               have q115 : x52_3 < (l2.length : Int) := of_decide_eq_true aq4
               obtain ⟨ad115, e115, hx115_0⟩ := Kd.at_int HR2.out x52_3 p115 q115
               cases e115
               try replace hx115_0 := (HB.out.cell (World.block_lt_of_cell? w _ hx115_0)).trans hx115_0
               replace p115 := eq_true p115
               replace q115 := eq_true q115
               have hnb43 := NB107_101.out
               have hnc43 := NB101_107.out
               obtain ⟨hcz44_0, hcz44_1, hcz44_2, hfz44_0, hfz44_1, hfz44_2⟩ := blk3_ BK107.out
               have p116 : 0 ≤ ((rd l2 x52_3) : Int) := of_decide_eq_true aq4
               have q116 : (rd l2 x52_3) < (t112.length : Int) := of_decide_eq_true aq4
               obtain ⟨ad116, e116, hx116_0⟩ := Kd.at_int (Kd.V_reads' HO_108002.out).2.2 (rd l2 x52_3) p116 q116
               cases e116
               replace p116 := eq_true p116
               replace q116 := eq_true q116
               go_wp2_with (first | ((with_reducible refine gate_callee (f := 100) rfl ?_); refine goesL_ (some 63) rfl rfl Tryz.func100 (by kernel_rfl) rfl #[.int .u8 (rd t112 (rd l2 x52_3))] rfl aq5 ?_; (with_reducible refine (spec_tyBall.calls (rd t112 (rd l2 x52_3)) true _ A41.out).mono ?_); rintro e w' ⟨rfl, ⟨nd, rfl⟩⟩; refine ⟨_, rfl, ?_⟩))
               go_roundg k3
               case measure => have := HK1.out; have := HK2.out; have := HK3.out; omega
               case rel => exact ⟨(wrap64 ((wrap64 (x14_3 * 2)) + 1)), (wrap64 (x52_3 + 1)), aq7, aq7, H', ⟨aq52⟩, ⟨aq10⟩, ⟨by (with_reducible repeat (first | apply Kd.V_alloc | apply Kd.V_drewN | apply Kd.V_drew)); exact HO_108002.out⟩, ⟨aq2⟩, ⟨aq20⟩, ⟨aq18⟩⟩
              ·replace c42 := Bool.eq_false_iff.mpr c42
               subst c42
               rw [if_neg Bool.false_ne_true] at H
               have H' := am H
               clear H
               have p115 : 0 ≤ (x52_3 : Int) := of_decide_eq_true aq4
               have q115 : x52_3 < (l2.length : Int) := of_decide_eq_true aq4
               obtain ⟨ad115, e115, hx115_0⟩ := Kd.at_int HR2.out x52_3 p115 q115
               cases e115
               try replace hx115_0 := (HB.out.cell (World.block_lt_of_cell? w _ hx115_0)).trans hx115_0
               replace p115 := eq_true p115
               replace q115 := eq_true q115
               have hnb45 := NB107_101.out
               have hnc45 := NB101_107.out
               obtain ⟨hcz46_0, hcz46_1, hcz46_2, hfz46_0, hfz46_1, hfz46_2⟩ := blk3_ BK107.out
               have p116 : 0 ≤ ((rd l2 x52_3) : Int) := of_decide_eq_true aq4
               have q116 : (rd l2 x52_3) < (t112.length : Int) := of_decide_eq_true aq4
               obtain ⟨ad116, e116, hx116_0⟩ := Kd.at_int (Kd.V_reads' HO_108002.out).2.2 (rd l2 x52_3) p116 q116
               cases e116
               replace p116 := eq_true p116
               replace q116 := eq_true q116
               go_wp2_with (first | ((with_reducible refine gate_callee (f := 100) rfl ?_); refine goesL_ (some 63) rfl rfl Tryz.func100 (by kernel_rfl) rfl #[.int .u8 (rd t112 (rd l2 x52_3))] rfl aq5 ?_; (with_reducible refine (spec_tyBall.calls (rd t112 (rd l2 x52_3)) false _ A41.out).mono ?_); rintro e w' ⟨rfl, ⟨nd, rfl⟩⟩; refine ⟨_, rfl, ?_⟩))
               go_roundg k3
               case measure => have := HK1.out; have := HK2.out; have := HK3.out; omega
               case rel => exact ⟨(wrap64 (x14_3 * 2)), (wrap64 (x52_3 + 1)), aq7, aq7, H', ⟨aq52⟩, ⟨aq10⟩, ⟨by (with_reducible repeat (first | apply Kd.V_alloc | apply Kd.V_drewN | apply Kd.V_drew)); exact HO_108002.out⟩, ⟨aq2⟩, ⟨aq20⟩, ⟨aq18⟩⟩
             ·rw [if_neg c40] at H
              exact absurd H (by simp)
            ·rw [if_neg c39] at H
             exact absurd H (by simp)
           ·rw [if_neg c38] at H
            exact absurd H (by simp)
          ·rw [if_neg c37] at H
           exact absurd H (by simp)
         ·rw [if_neg c36] at H
          have c36b0 := decide_eq_false c36
          clear c36
          by_cases c47 : x9_1.length < 17592186044416
          ·rw [if_pos c47] at H
           have LMc47 := am c47
           clear c47
           obtain ⟨y118, hy_⟩ : ∃ y_ : List Int, y_ = (x9_1 ++ [x14_3]) := ⟨_, rfl⟩
           replace H : (spec_mcTable.l0 k3 l1 l2 a3 y118 (wrap64 (x10_1 + 1)) a0_0 a0_1 l0_2) = some r := aq3
           have Ny118 := am hy_
           clear hy_
           have H' := am H
           clear H
           go_wp2_with (first | ((with_reducible refine gate_builtin (b := .append) (xs := #[.tmp 67, .tmp 69]) rfl ?_); at_builtin; refine Kd.R_append (Kd.int .i64) (w0 := w) w.heap.size rfl (.tmp 67) (.tmp 69) 28 3 (.int .i64 0) 8 rfl Tryz.underlying28 info3 rfl (by decide) (by omega) u9 x9_1 x14_3 [.int .i64 x14_3] (fun _ => True) (fun _ => False) rfl rfl ?aP (fun _ hk => hk.elim) ?aF ?aO ?aB ?aS ?aL ?_; (case aP => exact rfl); (case aB => exact aq18); (case aF => exact aq80); (case aO => exact aq10); (case aS => exact (below_size aq18)); (case aL => have := LMc47.out; omega); intro v119 w48 ho hb hg hat; rw [← Ny118.out] at ho; have n0_ := am (Kd.V_afterv (ok := (fun k_ => k_ ≠ gb101 ∧ k_ ≠ gb107)) (by (with_reducible repeat (first | apply Kd.V_alloc | apply Kd.V_drewN | apply Kd.V_drew)); exact Kd.V_mono HO_108002.out (fun _ hk => ⟨⟨hk.2.1, hk.2.2⟩, hk.1⟩)) hg hat); have n1_ := am (blk_grown (g := gb101) (o := .cells #[.int .i64 a0_0, .int .i64 a0_1, .slice A0_2 l0_2.length c0_2] 62 (0, 0)) aq2 hg (Kd.R_ne HO_9.out BK101.out (by decide))); have n2_ := am (blk_grown (g := gb107) (o := .cells #[.int .i64 t110, .int .i64 t111, .slice Ao35 t112.length co35] 62 (0, 0)) aq20 hg (Kd.R_ne HO_9.out BK107.out (by decide))); have n3_ := am (hb); have n4_ := am (ho); clear HO_108002; clear BK101; clear BK107; clear HB; clear HO_9; have HO_108002 := n0_; have BK101 := n1_; have BK107 := n2_; have HB := n3_; have HO120 := n4_; clear n0_ n1_ n2_ n3_ n4_; clear ho hb hg hat))
           go_roundg k3
           case measure => have := HK1.out; have := HK2.out; have := HK3.out; omega
           case rel => exact ⟨(y118), (wrap64 (x10_1 + 1)), aq7, H', ⟨aq52⟩, ⟨by (with_reducible repeat (first | apply Kd.R_alloc | apply Kd.R_drewN | apply Kd.R_drew)); exact HO120.out⟩, ⟨aq2⟩, ⟨aq18⟩⟩
          ·rw [if_neg c47] at H
           exact absurd H (by simp)
   ·rw [if_neg c7] at H
    have c7b0 := decide_eq_false c7
    clear c7
    obtain rfl := Option.some.inj H
    go_wp2
    go_ret
    exact ⟨_, by first | rfl | (simp [errW_none, errW_some] <;> rfl) | (simp only [← hji6]; first | rfl | (simp [errW_none, errW_some] <;> rfl)) | (simp [*, errW_none, errW_some] <;> rfl), aq10, aq0⟩
end Go.Proofs.YtdffgeoegdkiaaaGreatDoor.F

namespace Go.Proofs.YtdffgeoegdkiaaaGreatDoor.F
open Go.RowKit Go.Proofs.YtdffgeoegdkiaaaGreatDoor Go.Proofs.YtdffgeoegdkiaaaGreatDoorW.PrintWords Go.Proofs.YtdffgeoegdkiaaaGreatDoorW.PrintMore
theorem shr_and : ∀ n : Fin 8, ∀ s : Fin 3, Go.bits .and .i64 (shr .i64 ((n.1 : Nat) : Int) ((s.1 : Nat) : Int)) 1 = ((n.1 / 2 ^ s.1 % 2 : Nat) : Int) := by decide
theorem shr_mod : ∀ n : Fin 8, ∀ s : Fin 3, Int.tmod (shr .i64 ((n.1 : Nat) : Int) ((s.1 : Nat) : Int)) 2 = ((n.1 / 2 ^ s.1 % 2 : Nat) : Int) := by decide
theorem shl_one : ∀ n : Fin 4, shl .i64 1 ((n.1 : Nat) : Int) = ((2 ^ n.1 : Nat) : Int) := by decide
def setIn (cs l : List Int) (n m : Nat) : List Int := (List.range m).foldl (fun o i => if n / 2 ^ (l.length - 1 - i) % 2 = 1 then o.set (l.getD i 0).toNat 111 else o) cs
theorem setIn_succ (cs l : List Int) (n m : Nat) : setIn cs l n (m + 1) = if n / 2 ^ (l.length - 1 - m) % 2 = 1 then (setIn cs l n m).set (l.getD m 0).toNat 111 else setIn cs l n m := by
  unfold setIn; rw [List.range_succ, List.foldl_append]; rfl
theorem setIn_length (cs l : List Int) (n : Nat) : ∀ m, (setIn cs l n m).length = cs.length
  | 0 => rfl
  | m + 1 => by
    rw [setIn_succ]
    split
    · rw [List.length_set, setIn_length cs l n m]
    · exact setIn_length cs l n m
def outN (cs l : List Int) (m : Nat) : Nat := (List.range m).foldl (fun a i => 2 * a + if ballAt cs (l.getD i 0).toNat = true then 1 else 0) 0
theorem outN_succ (cs l : List Int) (m : Nat) : outN cs l (m + 1) = 2 * outN cs l m + if ballAt cs (l.getD m 0).toNat = true then 1 else 0 := by
  unfold outN; rw [List.range_succ, List.foldl_append]; rfl
theorem outN_lt (cs l : List Int) : ∀ m, outN cs l m < 2 ^ m
  | 0 => by unfold outN; simp
  | m + 1 => by
    have := outN_lt cs l m
    rw [outN_succ, Nat.pow_succ]
    split <;> omega
def tableN (w h : Nat) (cs l1 l2 : List Int) (ds : List Nat) (n : Nat) : Int := ((outN (runD w h (setIn cs l1 n l1.length) ds) l2 l2.length : Nat) : Int)
def tableL (w h : Nat) (cs l1 l2 : List Int) (ds : List Nat) (m : Nat) : List Int := (List.range m).map (tableN w h cs l1 l2 ds)
theorem tableL_length (w h : Nat) (cs l1 l2 : List Int) (ds : List Nat) (m : Nat) : (tableL w h cs l1 l2 ds m).length = m := by simp [tableL]
theorem tableL_succ (w h : Nat) (cs l1 l2 : List Int) (ds : List Nat) (m : Nat) : tableL w h cs l1 l2 ds (m + 1) = tableL w h cs l1 l2 ds m ++ [tableN w h cs l1 l2 ds m] := by
  unfold tableL; rw [List.range_succ, List.map_append]; rfl
theorem pow_le8 {m : Nat} (h : m ≤ 3) : 2 ^ m ≤ 8 := by
  have : m = 0 ∨ m = 1 ∨ m = 2 ∨ m = 3 := by omega
  rcases this with rfl | rfl | rfl | rfl <;> decide
theorem ok_in {p : Int → Bool} {cs l : List Int} (h : cellsOk p cs l = true) : (1 ≤ l.length ∧ l.length ≤ 3) ∧ ∀ j, j < l.length → 0 ≤ l.getD j 0 ∧ l.getD j 0 < (cs.length : Int) :=
  ⟨(of_decide_eq_true h).1, fun j hj => ((of_decide_eq_true h).2 j hj).1⟩
section
variable {t wd : ByteArray} {w h : Nat} {cs l1 l2 : List Int} (hg : tyGrid (bytesOf t) = some (w, h, cs)) (hs : isWordB (bytesOf wd) = true) (h1 : (1 ≤ l1.length ∧ l1.length ≤ 3) ∧ ∀ j, j < l1.length → 0 ≤ l1.getD j 0 ∧ l1.getD j 0 < (cs.length : Int)) (h2 : (1 ≤ l2.length ∧ l2.length ≤ 3) ∧ ∀ j, j < l2.length → 0 ≤ l2.getD j 0 ∧ l2.getD j 0 < (cs.length : Int))
include hg hs h1 h2
omit hg hs h1 in
theorem impl_table_l2 (x9 : List Int) (hx9 : x9.length < 100) (n : Nat) (hn : n < 8) (x20 : Int) (r : List Int) (ds : List Int) (hds : ds.length = cs.length) : ∀ (d m : Nat), m + d = l2.length →
    Ev (fun k => impl_table.l0 k t l1 l2 wd (x9 ++ [((outN ds l2 l2.length : Nat) : Int)]) x20 ((n + 1 : Nat) : Int)) r →
    Ev (fun k => impl_table.l2 k t l1 l2 wd x9 ((outN ds l2 m : Nat) : Int) x20 (n : Int) l2 (l2.length : Int) (m : Int) w h ds) r
  | 0, m, hm, hr => by
    obtain rfl : m = l2.length := by omega
    have HN : Aside0 (wrap64 ((n : Int) + 1) = ((n + 1 : Nat) : Int)) := ⟨by rw [w64 (by omega) (by omega)]; rfl⟩
    refine Ev.step (fun k => ?_) hr
    rw [impl_table.l2, if_neg (by omega), if_pos (by omega), HN.out]
  | d + 1, m, hm, hr => by
    have hml : m < l2.length := by omega
    have HW : Aside0 (wrap64 ((m : Int) + 1) = ((m + 1 : Nat) : Int)) := ⟨by rw [w64 (by omega) (by omega)]; rfl⟩
    obtain ⟨q1, q2⟩ := h2.2 m hml
    have ih := impl_table_l2 x9 hx9 n hn x20 r ds hds d (m + 1) (by omega) hr
    have hlt := outN_lt ds l2 m
    have h8 := pow_le8 (show m ≤ 3 by omega)
    rw [outN_succ] at ih
    refine Ev.step (fun k => ?_) ih
    have hb : impl_isBall.f (rd ds (rd l2 (m : Int))) = some (ballAt ds (l2.getD m 0).toNat) := by rw [impl_isBall_is, rdN]; rfl
    rw [impl_table.l2, if_pos (by omega), if_pos (by omega), if_pos (by omega), hb, rdN, if_pos q1, if_pos (by rw [hds]; exact q2), Option.bind_some, HW.out]
    generalize outN ds l2 m = a at *
    cases ballAt ds (l2.getD m 0).toNat with
    | true =>
      rw [impl_bit.f, if_pos rfl, Option.bind_some, w64 (n := 2 * (a : Int)) (by omega) (by omega), w64 (n := 2 * (a : Int) + 1) (by omega) (by omega), if_pos rfl]
      congr 1
    | false =>
      rw [impl_bit.f, if_neg Bool.false_ne_true, Option.bind_some, w64 (n := 2 * (a : Int)) (by omega) (by omega), w64 (n := 2 * (a : Int) + 0) (by omega) (by omega), if_neg Bool.false_ne_true]
      congr 1
theorem impl_table_l1 (x9 : List Int) (hx9 : x9.length < 100) (n : Nat) (hn : n < 8) (x20 : Int) (r : List Int) : ∀ (d m : Nat), m + d = l1.length →
    Ev (fun k => impl_table.l0 k t l1 l2 wd (x9 ++ [tableN w h cs l1 l2 (wordD wd) n]) x20 ((n + 1 : Nat) : Int)) r →
    Ev (fun k => impl_table.l1 k t l1 l2 wd x9 (n : Int) x20 (n : Int) l1 (l1.length : Int) (m : Int) w h (setIn cs l1 n m)) r
  | 0, m, hm, hr => by
    obtain rfl : m = l1.length := by omega
    obtain ⟨v, _⟩ := textB_grid hg
    have hA := tiltedAll_ev ⟨v.w1, v.w7⟩ ⟨v.h1, v.h7⟩ hs (cs := setIn cs l1 n l1.length) (by rw [setIn_length]; exact v.len)
    have hl2 := impl_table_l2 (t := t) (wd := wd) (w := w) (h := h) (l1 := l1) h2 x9 hx9 n hn x20 r (runD w h (setIn cs l1 n l1.length) (wordD wd)) (by rw [runD_length, setIn_length]) l2.length 0 (by omega) hr
    refine Ev.step (fun k => by rw [impl_table.l1, if_neg (by omega)]) (Ev.bind hA ?_)
    exact hl2
  | d + 1, m, hm, hr => by
    have hml : m < l1.length := by omega
    have HW : Aside0 (wrap64 ((m : Int) + 1) = ((m + 1 : Nat) : Int)) := ⟨by rw [w64 (by omega) (by omega)]; rfl⟩
    have HS : Aside0 (wrap64 (wrap64 ((l1.length : Int) - 1) - (m : Int)) = ((l1.length - 1 - m : Nat) : Int)) := ⟨by rw [w64 (n := (l1.length : Int) - 1) (by omega) (by omega), w64 (by omega) (by omega)]; omega⟩
    obtain ⟨q1, q2⟩ := h1.2 m hml
    have ih := impl_table_l1 x9 hx9 n hn x20 r d (m + 1) (by omega) hr
    have hbit := shr_and ⟨n, hn⟩ ⟨l1.length - 1 - m, by omega⟩
    simp only at hbit
    rw [setIn_succ] at ih
    refine Ev.step (fun k => ?_) ih
    rw [impl_table.l1, if_pos (by omega), if_pos (by omega), if_pos (by omega), HS.out, if_pos (by omega), hbit, rdN, HW.out]
    by_cases hb : n / 2 ^ (l1.length - 1 - m) % 2 = 1
    · rw [if_pos (by rw [hb]; rfl), if_pos q1, if_pos (by rw [setIn_length]; exact q2), if_pos hb]
    · rw [if_neg (by omega), if_neg hb]
theorem impl_table_l0 : ∀ (d n : Nat), n + d = 2 ^ l1.length →
    Ev (fun k => impl_table.l0 k t l1 l2 wd (tableL w h cs l1 l2 (wordD wd) n) ((2 ^ l1.length : Nat) : Int) (n : Int)) (tableL w h cs l1 l2 (wordD wd) (2 ^ l1.length))
  | 0, n, hn => by
    obtain rfl : n = 2 ^ l1.length := by omega
    exact Ev.step (fun k => by rw [impl_table.l0, if_neg (by omega)]) (Ev.now _)
  | d + 1, n, hn => by
    have h8 := pow_le8 h1.1.2
    have ih := impl_table_l0 d (n + 1) (by omega)
    rw [tableL_succ] at ih
    have hl1 := impl_table_l1 hg hs h1 h2 (tableL w h cs l1 l2 (wordD wd) n) (by rw [tableL_length]; omega) n (by omega) ((2 ^ l1.length : Nat) : Int) _ l1.length 0 (by omega) ih
    refine Ev.step (fun k => ?_) hl1
    rw [impl_table.l0, if_pos (by omega), show impl_readS.f t = some ((w : Int), (h : Int), cs) from impl_read_eq t hg, Option.bind_some]; rfl
theorem impl_table_ev : Ev (fun k => impl_table.f k t l1 l2 wd) (tableL w h cs l1 l2 (wordD wd) (2 ^ l1.length)) := by
  have h0 := impl_table_l0 hg hs h1 h2 (2 ^ l1.length) 0 (by omega)
  refine Ev.congr (fun k => ?_) h0
  unfold impl_table.f
  have hsl := shl_one ⟨l1.length, by omega⟩
  simp only at hsl
  rw [hsl]; rfl
omit hg hs h1 in
theorem spec_table_l2 (x9 : List Int) (hx9 : x9.length < 100) (n : Nat) (hn : n < 8) (r : List Int) (ds : List Int) (hds : ds.length = cs.length) : ∀ (d m : Nat), m + d = l2.length →
    Ev (fun k => spec_mcTable.l0 k l1 l2 wd (x9 ++ [((outN ds l2 l2.length : Nat) : Int)]) ((n + 1 : Nat) : Int) w h cs) r →
    Ev (fun k => spec_mcTable.l2 k l1 l2 wd x9 (n : Int) ((outN ds l2 m : Nat) : Int) l2 (l2.length : Int) (m : Int) w h cs w h ds) r
  | 0, m, hm, hr => by
    obtain rfl : m = l2.length := by omega
    have HN : Aside0 (wrap64 ((n : Int) + 1) = ((n + 1 : Nat) : Int)) := ⟨by rw [w64 (by omega) (by omega)]; rfl⟩
    refine Ev.step (fun k => ?_) hr
    rw [spec_mcTable.l2, if_neg (by omega), if_pos (by omega), HN.out]
  | d + 1, m, hm, hr => by
    have hml : m < l2.length := by omega
    have HW : Aside0 (wrap64 ((m : Int) + 1) = ((m + 1 : Nat) : Int)) := ⟨by rw [w64 (by omega) (by omega)]; rfl⟩
    obtain ⟨q1, q2⟩ := h2.2 m hml
    have ih := spec_table_l2 x9 hx9 n hn r ds hds d (m + 1) (by omega) hr
    have hlt := outN_lt ds l2 m
    have h8 := pow_le8 (show m ≤ 3 by omega)
    rw [outN_succ] at ih
    refine Ev.step (fun k => ?_) ih
    have hb : spec_tyBall.f (rd ds (rd l2 (m : Int))) = some (ballAt ds (l2.getD m 0).toNat) := by rw [spec_tyBall_is, rdN]; rfl
    rw [spec_mcTable.l2, if_pos (by omega), if_pos (by omega), if_pos (by omega), hb, rdN, if_pos q1, if_pos (by rw [hds]; exact q2), Option.bind_some, HW.out]
    generalize outN ds l2 m = a at *
    cases ballAt ds (l2.getD m 0).toNat with
    | true =>
      rw [if_pos rfl, w64 (n := (a : Int) * 2) (by omega) (by omega), w64 (n := (a : Int) * 2 + 1) (by omega) (by omega), if_pos rfl]
      congr 1
      omega
    | false =>
      rw [if_neg Bool.false_ne_true, w64 (n := (a : Int) * 2) (by omega) (by omega), if_neg Bool.false_ne_true]
      congr 1
      omega
theorem spec_table_l1 (x9 : List Int) (hx9 : x9.length < 100) (n : Nat) (hn : n < 8) (r : List Int) : ∀ (d m : Nat), m + d = l1.length →
    Ev (fun k => spec_mcTable.l0 k l1 l2 wd (x9 ++ [tableN w h cs l1 l2 (wordD wd) n]) ((n + 1 : Nat) : Int) w h cs) r →
    Ev (fun k => spec_mcTable.l1 k l1 l2 wd x9 (n : Int) l1 (l1.length : Int) (m : Int) w h cs w h (setIn cs l1 n m)) r
  | 0, m, hm, hr => by
    obtain rfl : m = l1.length := by omega
    obtain ⟨v, _⟩ := textB_grid hg
    have hA := tiRun_ev ⟨v.w1, v.w7⟩ ⟨v.h1, v.h7⟩ hs (cs := setIn cs l1 n l1.length) (by rw [setIn_length]; exact v.len)
    have hl2 := spec_table_l2 (wd := wd) (w := w) (h := h) (l1 := l1) h2 x9 hx9 n hn r (runD w h (setIn cs l1 n l1.length) (wordD wd)) (by rw [runD_length, setIn_length]) l2.length 0 (by omega) hr
    refine Ev.step (fun k => by rw [spec_mcTable.l1, if_neg (by omega)]) (Ev.bind hA ?_)
    exact hl2
  | d + 1, m, hm, hr => by
    have hml : m < l1.length := by omega
    have HW : Aside0 (wrap64 ((m : Int) + 1) = ((m + 1 : Nat) : Int)) := ⟨by rw [w64 (by omega) (by omega)]; rfl⟩
    have HS : Aside0 (wrap64 (wrap64 ((l1.length : Int) - 1) - (m : Int)) = ((l1.length - 1 - m : Nat) : Int)) := ⟨by rw [w64 (n := (l1.length : Int) - 1) (by omega) (by omega), w64 (by omega) (by omega)]; omega⟩
    obtain ⟨q1, q2⟩ := h1.2 m hml
    have ih := spec_table_l1 x9 hx9 n hn r d (m + 1) (by omega) hr
    have hbit := shr_mod ⟨n, hn⟩ ⟨l1.length - 1 - m, by omega⟩
    simp only at hbit
    rw [setIn_succ] at ih
    refine Ev.step (fun k => ?_) ih
    rw [spec_mcTable.l1, if_pos (by omega), if_pos (by omega), if_pos (by omega), HS.out, if_pos (by omega), hbit, rdN, HW.out]
    by_cases hb : n / 2 ^ (l1.length - 1 - m) % 2 = 1
    · rw [if_pos (by rw [hb]; rfl), if_pos q1, if_pos (by rw [setIn_length]; exact q2), if_pos hb]
    · rw [if_neg (by omega), if_neg hb]
theorem spec_table_l0 : ∀ (d n : Nat), n + d = 2 ^ l1.length →
    Ev (fun k => spec_mcTable.l0 k l1 l2 wd (tableL w h cs l1 l2 (wordD wd) n) (n : Int) w h cs) (tableL w h cs l1 l2 (wordD wd) (2 ^ l1.length))
  | 0, n, hn => by
    obtain rfl : n = 2 ^ l1.length := by omega
    have hsl := shl_one ⟨l1.length, by omega⟩
    simp only at hsl
    exact Ev.step (fun k => by rw [spec_mcTable.l0, hsl, if_neg (by omega)]) (Ev.now _)
  | d + 1, n, hn => by
    obtain ⟨v, _⟩ := textB_grid hg
    have hsm := tray_small v
    simp only at hsm
    have h8 := pow_le8 h1.1.2
    have hsl := shl_one ⟨l1.length, by omega⟩
    simp only at hsl
    have ih := spec_table_l0 d (n + 1) (by omega)
    rw [tableL_succ] at ih
    have hl1 := spec_table_l1 hg hs h1 h2 (tableL w h cs l1 l2 (wordD wd) n) (by rw [tableL_length]; omega) n (by omega) _ l1.length 0 (by omega) ih
    refine Ev.step (fun k => ?_) hl1
    have hcp : spec_tyCopy.f (w : Int) (h : Int) cs = some ((w : Int), (h : Int), cs) := by
      unfold spec_tyCopy.f
      rw [Option.bind_some, if_pos (by rw [List.length_nil]; omega), List.nil_append]
    rw [spec_mcTable.l0, hsl, if_pos (by omega), hcp, Option.bind_some]; rfl
theorem spec_table_ev : Ev (fun k => spec_mcTable.f k w h cs l1 l2 wd) (tableL w h cs l1 l2 (wordD wd) (2 ^ l1.length)) := by
  have h0 := spec_table_l0 hg hs h1 h2 (2 ^ l1.length) 0 (by omega)
  exact h0
end
end Go.Proofs.YtdffgeoegdkiaaaGreatDoor.F

namespace Go.Proofs.YtdffgeoegdkiaaaGreatDoor.F
open Go.Proofs.YtdffgeoegdkiaaaGreatDoor
open Go.RowKit Go.Proofs.YtdffgeoegdkiaaaGreatDoorW.PrintWords Go.Proofs.YtdffgeoegdkiaaaGreatDoorW.PrintLast Go.Proofs.YtdffgeoegdkiaaaGreatDoorW.PrintMore
attribute [local go_sem] max2_int min2_int max_two min_two max_three min_three max_four min_four
def impl_gate.l0 : Nat → Int → List Int → Int → Int → Option (Int)
 | 0, _, _, _, _ => none
 | k + 1, x9, x17, x18, x19 => if x19 < x18 then (if 0 ≤ x19 then (if x19 < (x17.length : Int) then (impl_gate.l0 k (wrap64 ((wrap64 (2 * x9)) + (rd x17 x19))) x17 x18 (wrap64 (x19 + 1))) else (none)) else (none)) else (some x9)
def impl_gate.f (k : Nat) (a0 : ByteArray) (l1 : List Int) (a2 : Int) (a3 : ByteArray) : Option (Int) := (impl_table.f k a0 l1 (([a2] : List Int)) a3).bind fun t104 => (impl_gate.l0 k 0 t104 (t104.length : Int) 0)
theorem impl_gate.mono_l : ∀ k, (∀ y0 y1 y2 y3, LeO (impl_gate.l0 k y0 y1 y2 y3) (impl_gate.l0 (k + 1) y0 y1 y2 y3))
 | 0 => fun _ _ _ _ r h => by simp [impl_gate.l0] at h
 | k + 1 => by
  have ih0 := impl_gate.mono_l k
  ·intro y0 y1 y2 y3
   unfold impl_gate.l0
   have im0 := @impl_table.mono; exact mo
theorem impl_gate.mono : ∀ a0 a1 a2 a3 k, LeO (impl_gate.f k a0 a1 a2 a3) (impl_gate.f (k + 1) a0 a1 a2 a3) := by
 intro a0 a1 a2 a3 k
 have ih0 := impl_gate.mono_l k
 unfold impl_gate.f
 have im0 := @impl_table.mono; exact mo
set_option maxHeartbeats 8000000 in
set_option maxRecDepth 100000 in
theorem impl_gate.calls (k : Nat) (a0 : ByteArray) (A1 : Option Addr) (c1 : Nat) (l1 : List Int) (a2 : Int) (a3 : ByteArray) (r : Int) (w : World) (hr1 : Kd.C (Kd.int .i64) w A1 l1.length l1) (hc1 : l1.length ≤ c1) (h : impl_gate.f k a0 l1 a2 a3 = some r) :
  Calls Tryz.prog 74 #[.string a0, .slice A1 l1.length c1, .int .i64 a2, .string a3] w fun e w' => e = .returned (.int .i64 r) ∧ Below w.heap.size w w' := by
 have HR1 := am hr1
 have HC1 := am hc1
 clear hr1 hc1
 have HB := am (Below.refl w.heap.size w)
 have H : ((impl_table.f k a0 l1 (([a2] : List Int)) a3).bind fun t104 => (impl_gate.l0 k 0 t104 (t104.length : Int) 0)) = some r := h
 clear h
 obtain ⟨y101, hy_⟩ : ∃ y_ : List Int, y_ = (([a2] : List Int)) := ⟨_, rfl⟩
 replace H : ((impl_table.f k a0 l1 y101 a3).bind fun t104 => (impl_gate.l0 k 0 t104 (t104.length : Int) 0)) = some r := aq3
 have Ny101 := am hy_
 clear hy_
 obtain ⟨t104, A50, H⟩ := Option.bind_eq_some_iff.mp H
 have A5 := am A50
 clear A50
 have H' := am H
 clear H
 go_enter Tryz.func74, Tryz.ntmps74
 go_wp2_with (first | ((with_reducible refine gate_dst (N := 15) rfl ?_); refine Kd.R_lit (Kd.int .i64) _ 3 ?hg (N := 15) ?hd (xs := ([a2] : List Int)) (inner := [.int .i64 a2]) (ok := fun _ => True) (okp := fun _ => True) ?hr ?hp (fun _ hk => hk) trivial (Below.refl _ _) (Nat.le_refl _) (by simp) ?_; (case hd => rfl); (case hg => rfl); (case hr => exact aq16); (case hp => exact aq70); intro v102 w6 ho7 hb hg_ hnew_; clear hg_ hnew_; (first | rw [← Ny101.out] at ho7 | (simp only [Int.reduceToNat] at ho7; rw [← Ny101.out] at ho7)); have n0_ := am (Kd.R_lower ho7 (below_size aq1)); have n1_ := am (below_step aq1 hb); clear HB; have HO103 := n0_; have HB := n1_; clear n0_ n1_; clear hb ho7; obtain ⟨Ao8, co8, eo8⟩ := Kd.R_slice HO103.out; subst eo8) | ((with_reducible refine gate_callee (f := 66) rfl ?_); refine goesL_ (some 17) rfl rfl Tryz.func66 (by kernel_rfl) rfl #[.string a0, .slice A1 l1.length c1, .slice Ao8 y101.length co8, .string a3] rfl aq5 ?_; (with_reducible refine (impl_table.calls k a0 _ _ l1 _ _ y101 a3 t104 _ ?side1 ?side2 ?side3 ?side4 A5.out).mono ?_); (case side1 => exact aq15); (case side2 => exact HC1.out); (case side3 => exact aq67); (case side4 => exact (Kd.R_reads' HO103.out).2.1); rintro e w9 ⟨v105, rfl, ho0, hb⟩; refine ⟨_, rfl, ?_⟩; have n0_ := am (Kd.R_elder' aq26 (Kd.R_base ho0) hb); have n1_ := am (Kd.R_lower (Kd.R_new' ho0 (Kd.R_lt aq26)) (below_size aq1)); have n2_ := am (below_step aq1 hb); clear HO103; clear HB; have HO103 := n0_; have HO106 := n1_; have HB := n2_; clear n0_ n1_ n2_; (try clear hb); (try clear hb2); (try clear hk); (try clear hi); (try clear ho0); obtain ⟨Ao10, co10, eo10⟩ := Kd.R_slice HO106.out; subst eo10))
 go_loopg [9, 19] k (fun kq v9 v19 w' => ∃ (x9_1 : Int) (x19_1 : Int), v9 = .int .i64 x9_1 ∧ v19 = .int .i64 x19_1 ∧ Aside0 (impl_gate.l0 kq x9_1 t104 (t104.length : Int) x19_1 = some r) ∧ Aside0 (kq ≤ k) ∧ Aside0 (Kd.R (Kd.int .i64) 3 w' w.heap.size (fun _ => True) (.slice Ao10 t104.length co10) t104) ∧ Aside0 (Below w.heap.size w w'))
 case atStart => exact ⟨(0), (0), aq7, aq7, H', ⟨Nat.le_refl _⟩, ⟨by (with_reducible repeat (first | apply Kd.R_alloc | apply Kd.R_drewN | apply Kd.R_drew)); exact Kd.R_mono HO106.out (fun _ hk => trivial)⟩, ⟨aq1⟩⟩
 case round =>
  clear H'
  try clear c1
  try clear p2
  try clear c6
  try clear c7
  obtain ⟨x9_1, x19_1, rfl, rfl, HA, HK1, HO_17, HB⟩ := hrel
  cases gk with
  | zero => exact absurd HA.out (by simp [impl_gate.l0])
  | succ k1 =>
   have H := HA.out
   clear HA
   simp only [impl_gate.l0] at H
   by_cases c11 : x19_1 < (t104.length : Int)
   ·rw [if_pos c11] at H
    have c11b0 := decide_eq_true c11
    clear c11
    by_cases c12 : 0 ≤ x19_1
    ·rw [if_pos c12] at H
     have c12b0 := decide_eq_true c12
     clear c12
     by_cases c13 : x19_1 < (t104.length : Int)
     ·rw [if_pos c13] at H
      have c13b0 := decide_eq_true c13
      clear c13
      have H' := am H
      clear H
      have p107 : 0 ≤ (x19_1 : Int) := of_decide_eq_true aq4
      have q107 : x19_1 < (t104.length : Int) := of_decide_eq_true aq4
      obtain ⟨ad107, e107, hx107_0⟩ := Kd.at_int (Kd.R_reads' HO_17.out).2.2 x19_1 p107 q107
      cases e107
      replace p107 := eq_true p107
      replace q107 := eq_true q107
      go_wp2
      go_roundg k1
      case measure => have := HK1.out; omega
      case rel => exact ⟨(wrap64 ((wrap64 (2 * x9_1)) + (rd t104 x19_1))), (wrap64 (x19_1 + 1)), aq7, aq7, H', ⟨aq73⟩, ⟨aq56⟩, ⟨aq1⟩⟩
     ·rw [if_neg c13] at H
      exact absurd H (by simp)
    ·rw [if_neg c12] at H
     exact absurd H (by simp)
   ·rw [if_neg c11] at H
    have c11b0 := decide_eq_false c11
    clear c11
    obtain rfl := Option.some.inj H
    go_wp2
    go_ret
    exact ⟨aq8, aq1⟩
def impl_isTwo.f (k : Nat) (a0 : ByteArray) (l1 : List Int) (a2 : Int) : Option (Bool) := if (l1.length : Int) = 2 then ((impl_isGate.f k a0 l1 (([a2] : List Int))).bind fun t104 => (some t104)) else (some false)
theorem impl_isTwo.mono : ∀ a0 a1 a2 k, LeO (impl_isTwo.f k a0 a1 a2) (impl_isTwo.f (k + 1) a0 a1 a2) := by
 intro a0 a1 a2 k
 unfold impl_isTwo.f
 have im0 := @impl_isGate.mono; exact mo
set_option maxHeartbeats 8000000 in
set_option maxRecDepth 100000 in
theorem impl_isTwo.calls (k : Nat) (a0 : ByteArray) (A1 : Option Addr) (c1 : Nat) (l1 : List Int) (a2 : Int) (r : Bool) (w : World) (hr1 : Kd.C (Kd.int .i64) w A1 l1.length l1) (hc1 : l1.length ≤ c1) (h : impl_isTwo.f k a0 l1 a2 = some r) :
  Calls Tryz.prog 73 #[.string a0, .slice A1 l1.length c1, .int .i64 a2] w fun e w' => e = .returned (.bool r) ∧ Below w.heap.size w w' := by
 have HR1 := am hr1
 have HC1 := am hc1
 clear hr1 hc1
 have HB := am (Below.refl w.heap.size w)
 have H : (if (l1.length : Int) = 2 then ((impl_isGate.f k a0 l1 (([a2] : List Int))).bind fun t104 => (some t104)) else (some false)) = some r := h
 clear h
 by_cases c4 : (l1.length : Int) = 2
 ·rw [if_pos c4] at H
  have c4b0 := beq_iff_eq.mpr c4
  have c4b1 := bne_eq_false_iff_eq.mpr c4
  clear c4
  obtain ⟨y101, hy_⟩ : ∃ y_ : List Int, y_ = (([a2] : List Int)) := ⟨_, rfl⟩
  replace H : ((impl_isGate.f k a0 l1 y101).bind fun t104 => (some t104)) = some r := aq3
  have Ny101 := am hy_
  clear hy_
  obtain ⟨t104, A50, H⟩ := Option.bind_eq_some_iff.mp H
  have A5 := am A50
  clear A50
  obtain rfl := Option.some.inj H
  go_enter Tryz.func73, Tryz.ntmps73
  go_wp2_with (first | ((with_reducible refine gate_dst (N := 14) rfl ?_); (try (refine gate_guard (by rfl) ?_; dsimp only)); refine Kd.R_lit (Kd.int .i64) _ 3 ?hg (N := 14) ?hd (xs := ([a2] : List Int)) (inner := [.int .i64 a2]) (ok := fun _ => True) (okp := fun _ => True) ?hr ?hp (fun _ hk => hk) trivial (Below.refl _ _) (Nat.le_refl _) (by simp) ?_; (case hd => rfl); (case hg => rfl); (case hr => exact aq16); (case hp => exact aq70); intro v102 w6 ho7 hb hg_ hnew_; clear hg_ hnew_; (first | rw [← Ny101.out] at ho7 | (simp only [Int.reduceToNat] at ho7; rw [← Ny101.out] at ho7)); have n0_ := am (Kd.R_lower ho7 (below_size aq1)); have n1_ := am (below_step aq1 hb); clear HB; have HO103 := n0_; have HB := n1_; clear n0_ n1_; clear hb ho7; obtain ⟨Ao8, co8, eo8⟩ := Kd.R_slice HO103.out; subst eo8) | (go_at_call 64; (with_reducible refine (impl_isGate.calls k a0 _ _ l1 _ _ y101 t104 _ ?side1 ?side2 ?side3 ?side4 A5.out).mono ?_); (case side1 => exact aq15); (case side2 => exact HC1.out); (case side3 => exact aq67); (case side4 => exact (Kd.R_reads' HO103.out).2.1); rintro e w9 ⟨rfl, hb⟩; have n0_ := am (Kd.R_below aq26 hb); have n1_ := am (below_step aq1 hb); clear HO103; clear HB; have HO103 := n0_; have HB := n1_; clear n0_ n1_; (try clear hb); (try clear hb2); (try clear hk); (try clear hi)))
  go_ret
  exact ⟨aq8, aq1⟩
 ·rw [if_neg c4] at H
  have c4b0 := beq_eq_false_iff_ne.mpr c4
  have c4b1 := bne_iff_ne.mpr c4
  obtain rfl := Option.some.inj H
  go_enter Tryz.func73, Tryz.ntmps73
  go_wp2
  go_ret
  exact ⟨aq8, aq1⟩
def spec_mcNumber.l0 : Nat → Int → List Int → Int → Int → Option (Int)
 | 0, _, _, _, _ => none
 | k + 1, x9, x17, x18, x19 => if x19 < x18 then (if 0 ≤ x19 then (if x19 < (x17.length : Int) then (spec_mcNumber.l0 k (wrap64 ((wrap64 (2 * x9)) + (rd x17 x19))) x17 x18 (wrap64 (x19 + 1))) else (none)) else (none)) else (some x9)
def spec_mcNumber.f (k : Nat) (a0_0 : Int) (a0_1 : Int) (l0_2 : List Int) (l1 : List Int) (a2 : Int) (a3 : ByteArray) : Option (Int) := (spec_mcTable.f k a0_0 a0_1 l0_2 l1 (([a2] : List Int)) a3).bind fun t105 => (spec_mcNumber.l0 k 0 t105 (t105.length : Int) 0)
theorem spec_mcNumber.mono_l : ∀ k, (∀ y0 y1 y2 y3, LeO (spec_mcNumber.l0 k y0 y1 y2 y3) (spec_mcNumber.l0 (k + 1) y0 y1 y2 y3))
 | 0 => fun _ _ _ _ r h => by simp [spec_mcNumber.l0] at h
 | k + 1 => by
  have ih0 := spec_mcNumber.mono_l k
  ·intro y0 y1 y2 y3
   unfold spec_mcNumber.l0
   have im0 := @spec_mcTable.mono; exact mo
theorem spec_mcNumber.mono : ∀ a0 a1 a2 a3 a4 a5 k, LeO (spec_mcNumber.f k a0 a1 a2 a3 a4 a5) (spec_mcNumber.f (k + 1) a0 a1 a2 a3 a4 a5) := by
 intro a0 a1 a2 a3 a4 a5 k
 have ih0 := spec_mcNumber.mono_l k
 unfold spec_mcNumber.f
 have im0 := @spec_mcTable.mono; exact mo
set_option maxHeartbeats 8000000 in
set_option maxRecDepth 100000 in
theorem spec_mcNumber.calls (k : Nat) (a0_0 : Int) (a0_1 : Int) (A0_2 : Option Addr) (c0_2 : Nat) (l0_2 : List Int) (A1 : Option Addr) (c1 : Nat) (l1 : List Int) (a2 : Int) (a3 : ByteArray) (r : Int) (w : World) (hr0_2 : Kd.C (Kd.int .u8) w A0_2 l0_2.length l0_2) (hc0_2 : l0_2.length ≤ c0_2) (hr1 : Kd.C (Kd.int .i64) w A1 l1.length l1) (hc1 : l1.length ≤ c1) (h : spec_mcNumber.f k a0_0 a0_1 l0_2 l1 a2 a3 = some r) :
  Calls Tryz.prog 72 #[.agg #[.int .i64 a0_0, .int .i64 a0_1, .slice A0_2 l0_2.length c0_2], .slice A1 l1.length c1, .int .i64 a2, .string a3] w fun e w' => e = .returned (.int .i64 r) ∧ Below w.heap.size w w' := by
 have hu62 := Tryz.underlying62
 have HR0_2 := am hr0_2
 have HC0_2 := am hc0_2
 clear hr0_2 hc0_2
 have HR1 := am hr1
 have HC1 := am hc1
 clear hr1 hc1
 have HB := am (Below.refl w.heap.size w)
 have H : ((spec_mcTable.f k a0_0 a0_1 l0_2 l1 (([a2] : List Int)) a3).bind fun t105 => (spec_mcNumber.l0 k 0 t105 (t105.length : Int) 0)) = some r := h
 clear h
 obtain ⟨y102, hy_⟩ : ∃ y_ : List Int, y_ = (([a2] : List Int)) := ⟨_, rfl⟩
 replace H : ((spec_mcTable.f k a0_0 a0_1 l0_2 l1 y102 a3).bind fun t105 => (spec_mcNumber.l0 k 0 t105 (t105.length : Int) 0)) = some r := aq3
 have Ny102 := am hy_
 clear hy_
 obtain ⟨t105, A50, H⟩ := Option.bind_eq_some_iff.mp H
 have A5 := am A50
 clear A50
 have H' := am H
 clear H
 go_enter Tryz.func72, Tryz.ntmps72
 go_wp2_with (first | ((with_reducible refine gate_dst (N := 4) rfl ?_); refine box_event ?hg (N := 4) ?hd (cs := #[.int .i64 a0_0, .int .i64 a0_1, .slice A0_2 l0_2.length c0_2]) (t := 62) ?hr ?_; (case hd => rfl); (case hg => rfl); (case hr => exact aq16); intro gb101 hg w6 hbox hb; have n0_ := am (below_step aq1 hb); have n1_ := am (hbox); have n2_ := am ((by rw [hg]; exact (below_size aq1) : w.heap.size ≤ gb101)); have n3_ := am ((by rw [hg]; exact (below_size aq1) : w.heap.size ≤ gb101)); clear HB; have HB := n0_; have BK101 := n1_; have GW101 := n2_; have GE101 := n3_; clear n0_ n1_ n2_ n3_; clear hb hbox hg; obtain ⟨hcz7_0, hcz7_1, hcz7_2, hfz7_0, hfz7_1, hfz7_2⟩ := blk3_ BK101.out) | ((with_reducible refine gate_dst (N := 15) rfl ?_); refine Kd.R_lit (Kd.int .i64) _ 3 ?hg (N := 15) ?hd (xs := ([a2] : List Int)) (inner := [.int .i64 a2]) (ok := fun _ => True) (okp := fun _ => True) ?hr ?hp (fun _ hk => hk) trivial (Below.refl _ _) (Nat.le_refl _) (by simp) ?_; (case hd => rfl); (case hg => rfl); (case hr => exact aq16); (case hp => exact aq70); intro v103 w8 ho9 hb hg_ hnew_; clear hg_ hnew_; (first | rw [← Ny102.out] at ho9 | (simp only [Int.reduceToNat] at ho9; rw [← Ny102.out] at ho9)); have n0_ := am (Kd.R_lower ho9 (below_size aq0)); have n1_ := am (blk_below (g := gb101) (o := .cells #[.int .i64 a0_0, .int .i64 a0_1, .slice A0_2 l0_2.length c0_2] 62 (0, 0)) aq2 hb); have n2_ := am (below_step aq0 hb); clear BK101; clear HB; have HO104 := n0_; have BK101 := n1_; have HB := n2_; clear n0_ n1_ n2_; clear hb ho9; obtain ⟨Ao10, co10, eo10⟩ := Kd.R_slice HO104.out; subst eo10) | ((with_reducible refine gate_callee (f := 63) rfl ?_); refine goesL_ (some 17) rfl rfl Tryz.func63 (by kernel_rfl) rfl #[.agg #[.int .i64 a0_0, .int .i64 a0_1, .slice A0_2 l0_2.length c0_2], .slice A1 l1.length c1, .slice Ao10 y102.length co10, .string a3] rfl aq5 ?_; (with_reducible refine (spec_mcTable.calls k a0_0 a0_1 _ _ l0_2 _ _ l1 _ _ y102 a3 t105 _ ?side1 ?side2 ?side3 ?side4 ?side5 ?side6 A5.out).mono ?_); (case side1 => exact aq9); (case side2 => exact HC0_2.out); (case side3 => exact aq15); (case side4 => exact HC1.out); (case side5 => exact aq51); (case side6 => exact (Kd.R_reads' HO104.out).2.1); rintro e w11 ⟨v106, rfl, ho0, hb⟩; refine ⟨_, rfl, ?_⟩; have n0_ := am (Kd.R_elder' aq30 (Kd.R_base ho0) hb); have n1_ := am (Kd.R_lower (Kd.R_new' ho0 (Kd.R_lt aq30)) (below_size aq0)); have n2_ := am (blk_below (g := gb101) (o := .cells #[.int .i64 a0_0, .int .i64 a0_1, .slice A0_2 l0_2.length c0_2] 62 (0, 0)) aq2 hb); have n3_ := am (below_step aq0 hb); clear HO104; clear BK101; clear HB; have HO104 := n0_; have HO107 := n1_; have BK101 := n2_; have HB := n3_; clear n0_ n1_ n2_ n3_; (try clear hb); (try clear hb2); (try clear hk); (try clear hi); (try clear ho0); obtain ⟨Ao12, co12, eo12⟩ := Kd.R_slice HO107.out; subst eo12))
 go_loopg [9, 19] k (fun kq v9 v19 w' => ∃ (x9_1 : Int) (x19_1 : Int), v9 = .int .i64 x9_1 ∧ v19 = .int .i64 x19_1 ∧ Aside0 (spec_mcNumber.l0 kq x9_1 t105 (t105.length : Int) x19_1 = some r) ∧ Aside0 (kq ≤ k) ∧ Aside0 (Kd.R (Kd.int .i64) 3 w' w.heap.size (fun _ => True) (.slice Ao12 t105.length co12) t105) ∧ Aside0 (w'.heap[gb101]? = some (.cells #[.int .i64 a0_0, .int .i64 a0_1, (.slice A0_2 l0_2.length c0_2)] 62 (0, 0))) ∧ Aside0 (Below w.heap.size w w'))
 case atStart => exact ⟨(0), (0), aq7, aq7, H', ⟨Nat.le_refl _⟩, ⟨by (with_reducible repeat (first | apply Kd.R_alloc | apply Kd.R_drewN | apply Kd.R_drew)); exact Kd.R_mono HO107.out (fun _ hk => trivial)⟩, ⟨aq2⟩, ⟨aq0⟩⟩
 case round =>
  clear H'
  try clear c1
  try clear p2
  try clear c6
  try clear c7
  try clear hcz7_0
  try clear hcz7_1
  try clear hcz7_2
  try clear hfz7_0
  try clear hfz7_1
  try clear hfz7_2
  obtain ⟨x9_1, x19_1, rfl, rfl, HA, HK1, HO_17, BK101, HB⟩ := hrel
  cases gk with
  | zero => exact absurd HA.out (by simp [spec_mcNumber.l0])
  | succ k1 =>
   have H := HA.out
   clear HA
   simp only [spec_mcNumber.l0] at H
   by_cases c13 : x19_1 < (t105.length : Int)
   ·rw [if_pos c13] at H
    have c13b0 := decide_eq_true c13
    clear c13
    by_cases c14 : 0 ≤ x19_1
    ·rw [if_pos c14] at H
     have c14b0 := decide_eq_true c14
     clear c14
     by_cases c15 : x19_1 < (t105.length : Int)
     ·rw [if_pos c15] at H
      have c15b0 := decide_eq_true c15
      clear c15
      have H' := am H
      clear H
      have p108 : 0 ≤ (x19_1 : Int) := of_decide_eq_true aq4
      have q108 : x19_1 < (t105.length : Int) := of_decide_eq_true aq4
      obtain ⟨ad108, e108, hx108_0⟩ := Kd.at_int (Kd.R_reads' HO_17.out).2.2 x19_1 p108 q108
      cases e108
      replace p108 := eq_true p108
      replace q108 := eq_true q108
      go_wp2
      go_roundg k1
      case measure => have := HK1.out; omega
      case rel => exact ⟨(wrap64 ((wrap64 (2 * x9_1)) + (rd t105 x19_1))), (wrap64 (x19_1 + 1)), aq7, aq7, H', ⟨aq73⟩, ⟨aq56⟩, ⟨aq2⟩, ⟨aq0⟩⟩
     ·rw [if_neg c15] at H
      exact absurd H (by simp)
    ·rw [if_neg c14] at H
     exact absurd H (by simp)
   ·rw [if_neg c13] at H
    have c13b0 := decide_eq_false c13
    clear c13
    obtain rfl := Option.some.inj H
    go_wp2
    go_ret
    exact ⟨aq8, aq0⟩
end Go.Proofs.YtdffgeoegdkiaaaGreatDoor.F

namespace Go.Proofs.YtdffgeoegdkiaaaGreatDoor.F
open Go.RowKit Go.Proofs.YtdffgeoegdkiaaaGreatDoor Go.Proofs.YtdffgeoegdkiaaaGreatDoorW.PrintWords Go.Proofs.YtdffgeoegdkiaaaGreatDoorW.PrintMore
theorem gateB_grid' {t : ByteArray} {l1 l2 : List Int} (h : gateB t l1 l2 = true) : ∃ w h cs, tyGrid (bytesOf t) = some (w, h, cs) ∧ cellsOk freeC cs l1 = true ∧ cellsOk isOpenC cs l2 = true := by
  unfold gateB at h
  cases hg : tyGrid (bytesOf t) with
  | none => rw [hg] at h; cases h
  | some g =>
    rw [hg] at h
    obtain ⟨w, h', cs⟩ := g
    rw [Bool.and_eq_true] at h
    exact ⟨w, h', cs, rfl, h.1, h.2⟩
def numL (l : List Int) (m : Nat) : Int := (l.take m).foldl (fun a x => 2 * a + x) 0
theorem numL_succ {l : List Int} {m : Nat} (h : m < l.length) : numL l (m + 1) = 2 * numL l m + l.getD m 0 := by
  unfold numL
  rw [List.take_succ_eq_append_getElem h, List.foldl_append, List.getD_eq_getElem?_getD, List.getElem?_eq_getElem h]; rfl
theorem numL_small {l : List Int} (hs : ∀ x ∈ l, 0 ≤ x ∧ x < 8) : ∀ m, m ≤ l.length → m ≤ 8 → 0 ≤ numL l m ∧ numL l m ≤ 8 * (2 ^ m - 1)
  | 0, _, _ => by unfold numL; simp
  | m + 1, h, h8 => by
    obtain ⟨i1, i2⟩ := numL_small hs m (by omega) (by omega)
    have hx := hs (l.getD m 0) (by rw [List.getD_eq_getElem?_getD, List.getElem?_eq_getElem h]; exact List.getElem_mem h)
    rw [numL_succ h, Int.pow_succ]
    omega
theorem numL_big {l : List Int} (hs : ∀ x ∈ l, 0 ≤ x ∧ x < 8) {m : Nat} (h : m ≤ l.length) (h8 : m ≤ 8) : 0 ≤ numL l m ∧ numL l m ≤ 100000 := by
  obtain ⟨i1, i2⟩ := numL_small hs m h h8
  have : m = 0 ∨ m = 1 ∨ m = 2 ∨ m = 3 ∨ m = 4 ∨ m = 5 ∨ m = 6 ∨ m = 7 ∨ m = 8 := by omega
  rcases this with rfl | rfl | rfl | rfl | rfl | rfl | rfl | rfl | rfl <;> simp at i2 <;> omega
theorem tableL_small (w h : Nat) (cs l1 l2 : List Int) (ds : List Nat) (m : Nat) (h2 : l2.length ≤ 3) : ∀ x ∈ tableL w h cs l1 l2 ds m, 0 ≤ x ∧ x < 8 := by
  intro x hx
  obtain ⟨n, _, rfl⟩ := List.mem_map.1 hx
  have := outN_lt (runD w h (setIn cs l1 n l1.length) ds) l2 l2.length
  have := pow_le8 h2
  unfold tableN
  omega
theorem impl_num_l0 {l : List Int} (hl : l.length ≤ 8) (hs : ∀ x ∈ l, 0 ≤ x ∧ x < 8) : ∀ (d m : Nat), m + d = l.length → Ev (fun k => impl_gate.l0 k (numL l m) l (l.length : Int) (m : Int)) (numL l l.length)
  | 0, m, hm => by
    obtain rfl : m = l.length := by omega
    exact Ev.step (fun k => by rw [impl_gate.l0, if_neg (by omega)]) (Ev.now _)
  | d + 1, m, hm => by
    have hml : m < l.length := by omega
    have HW : Aside0 (wrap64 ((m : Int) + 1) = ((m + 1 : Nat) : Int)) := ⟨by rw [w64 (by omega) (by omega)]; rfl⟩
    have hb := numL_big hs (show m ≤ l.length by omega) (by omega)
    have hx := hs (l.getD m 0) (by rw [List.getD_eq_getElem?_getD, List.getElem?_eq_getElem hml]; exact List.getElem_mem hml)
    have ih := impl_num_l0 hl hs d (m + 1) (by omega)
    rw [numL_succ hml] at ih
    refine Ev.step (fun k => ?_) ih
    rw [impl_gate.l0, if_pos (by omega), if_pos (by omega), if_pos (by omega), rdN, HW.out, w64 (n := 2 * numL l m) (by omega) (by omega), w64 (n := 2 * numL l m + l.getD m 0) (by omega) (by omega)]
theorem spec_num_l0 {l : List Int} (hl : l.length ≤ 8) (hs : ∀ x ∈ l, 0 ≤ x ∧ x < 8) : ∀ (d m : Nat), m + d = l.length → Ev (fun k => spec_mcNumber.l0 k (numL l m) l (l.length : Int) (m : Int)) (numL l l.length)
  | 0, m, hm => by
    obtain rfl : m = l.length := by omega
    exact Ev.step (fun k => by rw [spec_mcNumber.l0, if_neg (by omega)]) (Ev.now _)
  | d + 1, m, hm => by
    have hml : m < l.length := by omega
    have HW : Aside0 (wrap64 ((m : Int) + 1) = ((m + 1 : Nat) : Int)) := ⟨by rw [w64 (by omega) (by omega)]; rfl⟩
    have hb := numL_big hs (show m ≤ l.length by omega) (by omega)
    have hx := hs (l.getD m 0) (by rw [List.getD_eq_getElem?_getD, List.getElem?_eq_getElem hml]; exact List.getElem_mem hml)
    have ih := spec_num_l0 hl hs d (m + 1) (by omega)
    rw [numL_succ hml] at ih
    refine Ev.step (fun k => ?_) ih
    rw [spec_mcNumber.l0, if_pos (by omega), if_pos (by omega), if_pos (by omega), rdN, HW.out, w64 (n := 2 * numL l m) (by omega) (by omega), w64 (n := 2 * numL l m + l.getD m 0) (by omega) (by omega)]
def gN (w h : Nat) (cs l1 : List Int) (o : Int) (u : List Nat) : Int := numL (tableL w h cs l1 [o] u (2 ^ l1.length)) (2 ^ l1.length)
theorem gN_short {w h : Nat} {cs l1 : List Int} {o : Int} (hl : cs.length = w * h) {u : List Nat} (hu : ∀ d ∈ u, d < 4) : gN w h cs l1 o (shortD u) = gN w h cs l1 o u := by
  unfold gN
  congr 1
  unfold tableL
  refine List.map_congr_left fun n _ => ?_
  unfold tableN
  rw [shortD_run u hu _ (by rw [setIn_length]; exact hl)]
section
variable {t wd : ByteArray} {w h : Nat} {cs l1 : List Int} {o : Int} (hg : tyGrid (bytesOf t) = some (w, h, cs)) (hs : isWordB (bytesOf wd) = true) (c1 : cellsOk freeC cs l1 = true) (c2 : cellsOk isOpenC cs [o] = true)
include hg hs c1 c2
theorem impl_gate_num : Ev (fun k => impl_gate.f k t l1 o wd) (gN w h cs l1 o (wordD wd)) := by
  have hT := impl_table_ev hg hs (ok_in c1) (ok_in c2)
  have hlen := tableL_length w h cs l1 [o] (wordD wd) (2 ^ l1.length)
  have h8 := pow_le8 (ok_in c1).1.2
  have hN := impl_num_l0 (l := tableL w h cs l1 [o] (wordD wd) (2 ^ l1.length)) (by omega) (tableL_small w h cs l1 [o] (wordD wd) _ (ok_in c2).1.2) _ 0 (Nat.zero_add _)
  rw [hlen] at hN
  exact Ev.bind hT (Ev.congr (fun k => by rw [hlen]; rfl) hN)
theorem spec_gate_num : Ev (fun k => spec_mcNumber.f k w h cs l1 o wd) (gN w h cs l1 o (wordD wd)) := by
  have hT := spec_table_ev hg hs (ok_in c1) (ok_in c2)
  have hlen := tableL_length w h cs l1 [o] (wordD wd) (2 ^ l1.length)
  have h8 := pow_le8 (ok_in c1).1.2
  have hN := spec_num_l0 (l := tableL w h cs l1 [o] (wordD wd) (2 ^ l1.length)) (by omega) (tableL_small w h cs l1 [o] (wordD wd) _ (ok_in c2).1.2) _ 0 (Nat.zero_add _)
  rw [hlen] at hN
  exact Ev.bind hT (Ev.congr (fun k => by rw [hlen]; rfl) hN)
end
theorem impl_isTwo_ev (t : ByteArray) (ht : t.size < 4294967281) (l1 : List Int) (h1 : l1.length ≤ 2000000) (o : Int) : Ev (fun k => impl_isTwo.f k t l1 o) (decide (l1.length = 2) && gateB t l1 [o]) := by
  unfold impl_isTwo.f
  by_cases h2 : l1.length = 2
  · rw [decide_eq_true h2, Bool.true_and]
    exact Ev.congr (fun k => if_pos (by omega)) (Ev.bind (impl_isGate_ev t ht l1 [o] h1 (by simp)) (Ev.now _))
  · rw [decide_eq_false h2, Bool.false_and]
    exact Ev.congr (fun k => if_neg (by omega)) (Ev.now _)
theorem wordB_nil : isWordB (bytesOf ByteArray.empty) = true := by rw [isWordB_iff]; exact ⟨by decide, by intro c hc; cases hc⟩
end Go.Proofs.YtdffgeoegdkiaaaGreatDoor.F

namespace Go.Proofs.YtdffgeoegdkiaaaGreatDoor
open Go.RowKit Go.Proofs.YtdffgeoegdkiaaaGreatDoorW.PrintWords Go.Proofs.YtdffgeoegdkiaaaGreatDoorW.PrintLast Go.Proofs.YtdffgeoegdkiaaaGreatDoorW.PrintMore Go.Lib Go.Proofs.YtdffgeoegdkiaaaGreatDoor.F
attribute [local go_sem] max2_int min2_int
structure Held (F : Nat → Prop) (w w' : World) : Prop where
  os : w'.os = w.os
  tape : w'.tape = w.tape
  output : w'.output = w.output
  size : w.heap.size ≤ w'.heap.size
  block : ∀ k, k < w.heap.size → ¬ F k → w'.heap[k]? = w.heap[k]?
theorem Held.refl (F : Nat → Prop) (w : World) : Held F w w := ⟨rfl, rfl, rfl, Nat.le_refl _, fun _ _ _ => rfl⟩
theorem Held.trans {F F' : Nat → Prop} {w w1 w2 : World} (h : Held F w w1) (h' : Held F' w1 w2) (hs : ∀ k, F' k → F k ∨ w.heap.size ≤ k) : Held F w w2 :=
  ⟨h'.os.trans h.os, h'.tape.trans h.tape, h'.output.trans h.output, Nat.le_trans h.size h'.size, fun k hk hn => (h'.block k (Nat.lt_of_lt_of_le hk h.size) (fun hf => (hs k hf).elim hn (fun h1 => by omega))).trans (h.block k hk hn)⟩
theorem Held.of_below {F : Nat → Prop} {w w1 : World} (h : Below w.heap.size w w1) : Held F w w1 := ⟨h.os, h.tape, h.output, h.size, fun k hk _ => h.block k hk⟩
theorem Held.of_grown {F : Nat → Prop} {w w1 : World} {r : Option Nat} (h : w.grownBy w1 r) (hr : ∀ k, r = some k → F k) : Held F w w1 := ⟨h.os, h.tape, h.output, h.size, fun k hk hn => h.block k hk (fun e => hn (hr k e.symm))⟩
theorem Held.below {F : Nat → Prop} {w0 w w1 : World} {base : Nat} (hb : Below base w0 w) (h : Held F w w1) (hs : base ≤ w.heap.size) (hF : ∀ k, F k → base ≤ k) : Below base w0 w1 :=
  ⟨h.os.trans hb.os, h.tape.trans hb.tape, h.output.trans hb.output, Nat.le_trans hb.size h.size, fun k hk => (h.block k (Nat.lt_of_lt_of_le hk hs) (fun hf => by have := hF k hf; omega)).trans (hb.block k hk)⟩
theorem Held.setCell {F : Nat → Prop} {w w1 : World} (h : Held F w w1) {p : Addr} (u : Value) (hp : F p.block) : Held F w (w1.setCell p u) :=
  ⟨h.os, h.tape, h.output, by rw [World.size_setCell]; exact h.size, fun k hk hn => (Below.heap_setCell w1 p u k (fun e => hn (e ▸ hp))).trans (h.block k hk hn)⟩
theorem R_held {α : Type} {d : Kd α} {e base : Nat} {w w1 : World} {ok : Nat → Prop} {v : Value} {xs : List α} {F F' : Nat → Prop} (h : d.R e w base (fun k => ¬ F k ∧ ok k) v xs) (hh : Held F w w1) (hs : ∀ k, F' k → F k ∨ w.heap.size ≤ k) : d.R e w1 base (fun k => ¬ F' k ∧ ok k) v xs := by
  have h1 := Kd.R_bound h
  refine Kd.R_mono (Kd.R_move h1 (fun k hk => hh.block k hk.2.2.1 hk.1.1)) (fun k hk => ⟨fun hf => ?_, hk.1.2⟩)
  rcases hs k hf with h2 | h2
  · exact hk.1.1 h2
  · have := hk.2.2.1; omega
def dirBytes : List Int := [117, 114, 100, 108]
def dirCells : Array Value := #[.int .u8 117, .int .u8 114, .int .u8 100, .int .u8 108]
theorem dirCells_at {p : Nat} (h : p < 4) : dirCells[p]? = some (.int .u8 (dirBytes.getD p 0)) := by
  have : p = 0 ∨ p = 1 ∨ p = 2 ∨ p = 3 := by omega
  rcases this with rfl | rfl | rfl | rfl <;> rfl
theorem blkx_lt {w : World} {g : Nat} {o : Obj} (h : w.heap[g]? = some o) : g < w.heap.size := (Array.getElem?_eq_some_iff.1 h).1
def kidsTo (x : ByteArray) (j : Nat) : List ByteArray := (dirBytes.take j).map fun c => x ++ strOfNums [c]
def kidsB (x : ByteArray) : List ByteArray := kidsTo x 4
theorem kidsTo_succ (x : ByteArray) {j : Nat} (h : j < 4) : kidsTo x (j + 1) = kidsTo x j ++ [x ++ strOfNums [dirBytes.getD j 0]] := by
  unfold kidsTo
  rw [List.take_succ_eq_append_getElem (by exact h), List.map_append, List.getD_eq_getElem?_getD, List.getElem?_eq_getElem (by exact h)]; rfl
theorem kidsTo_len (x : ByteArray) (j : Nat) : (kidsTo x j).length ≤ 4 := by
  unfold kidsTo; rw [List.length_map, List.length_take]; exact Nat.min_le_right _ _
theorem strOf_one (c : Int) : (strOfNums [c]).size = 1 := rfl
theorem kidsTo_size (x : ByteArray) (j : Nat) : ∀ y ∈ kidsTo x j, y.size = x.size + 1 := by
  intro y hy
  obtain ⟨c, _, rfl⟩ := List.mem_map.1 hy
  rw [ByteArray.size_append, strOf_one]
def wordsGo {σ : Type} (step : σ → ByteArray → Option (σ × Bool)) : σ → List ByteArray → List ByteArray → Option (σ × Option (List ByteArray))
  | s, [], o => some (s, some o)
  | s, x :: l, o => (step s x).bind fun r => if r.2 = true then wordsGo step r.1 l (o ++ kidsB x) else some (r.1, none)
def wordsF {σ : Type} (step : σ → ByteArray → Option (σ × Bool)) : Nat → σ → List ByteArray → Option σ
  | 0, s, _ => some s
  | m + 1, s, l => (wordsGo step s l []).bind fun r => match r.2 with
    | none => some r.1
    | some o => wordsF step m r.1 o
theorem wordsGo_mono {σ : Type} {f g : σ → ByteArray → Option (σ × Bool)} (h : ∀ s x, LeO (f s x) (g s x)) : ∀ (l : List ByteArray) (s : σ) (o : List ByteArray), LeO (wordsGo f s l o) (wordsGo g s l o)
  | [], s, o => LeO.refl _
  | x :: l, s, o => LeO.bind (h s x) (fun r => LeO.ite (wordsGo_mono h l r.1 (o ++ kidsB x)) (LeO.refl _))
theorem wordsF_mono {σ : Type} {f g : σ → ByteArray → Option (σ × Bool)} (h : ∀ s x, LeO (f s x) (g s x)) : ∀ (n : Nat) (s : σ) (l : List ByteArray), LeO (wordsF f n s l) (wordsF g n s l)
  | 0, s, l => LeO.refl _
  | n + 1, s, l => LeO.bind (wordsGo_mono h l s []) (fun r => by
    obtain ⟨r1, r2⟩ := r
    cases r2 with
    | none => exact LeO.refl _
    | some o => exact wordsF_mono h n r1 o)
set_option maxRecDepth 100000 in
set_option maxHeartbeats 8000000 in
theorem words_calls {σ : Type} (step : σ → ByteArray → Option (σ × Bool)) (Inv : σ → (Nat → Prop) → World → Prop) (f : FuncId) (cap : Array Value)
    (he : ∀ args w, (callFunc f args).run Tryz.prog w = .ok (.enter f args) w)
    (hlt : ∀ s F W, Inv s F W → ∀ k, F k → k < W.heap.size)
    (hcl : ∀ s F W x s' b, Inv s F W → step s x = some (s', b) → Calls Tryz.prog f (#[.string x] ++ cap) W fun e W' => e = .returned (.bool b) ∧ ∃ F', Inv s' F' W' ∧ Held F W W' ∧ ∀ k, F' k → F k ∨ W.heap.size ≤ k)
    (n : Nat) (hn : n ≤ 6) (s0 s1 : σ) (F0 : Nat → Prop) (w : World) (hst : ∀ s F W W', Inv s F W → Held (fun k => ¬ F k ∧ w.heap.size ≤ k) W W' → Inv s F W') (hi : Inv s0 F0 w) (hw : wordsF step (n + 1) s0 [ByteArray.empty] = some s1) :
    Calls Tryz.prog 57 #[.int .i64 n, .func (.func f) #[] cap] w fun e w' => e = .returned (.tuple #[]) ∧ ∃ F', Inv s1 F' w' ∧ Held F0 w w' ∧ ∀ k, F' k → F0 k ∨ w.heap.size ≤ k := by
  have HE := am he
  have HLT := am hlt
  have HST := am hst
  have HCL := am hcl
  have HN := am hn
  have HI := am hi
  have HW := am hw
  have hn1 : IntKind.i64.wrap ((n : Int) + 1) = ((n + 1 : Nat) : Int) := by rw [IntKind.wrap_i64]; omega
  clear he hlt hst hcl hn hi hw
  go_enter Tryz.func57, Tryz.ntmps57
  go_wp2_with (first | ((with_reducible refine gate_dst (N := 10) rfl ?_); refine Kd.R_lit Kd.string _ 9 ?hg (N := 10) ?hd (xs := ([(⟨#[]⟩ : ByteArray)] : List ByteArray)) (inner := [.string (⟨#[]⟩ : ByteArray)]) (ok := fun _ => True) (okp := fun _ => True) ?hr ?hp (fun _ hk => hk) trivial (Below.refl _ _) (Nat.le_refl _) (by simp) ?_; (case hd => rfl); (case hg => rfl); (case hr => first | (go_simp; done) | (go_simp; rfl)); (case hp => exact (Reps.one (show Kd.M Kd.string _ _ _ (⟨#[]⟩ : ByteArray) [.string (⟨#[]⟩ : ByteArray)] from rfl) (Reps.none _ _))); intro v4 w1 ho hb hg_ hnew_; have HO4 := am (show Kd.string.R 9 w1 w.heap.size (fun k => ¬ F0 k ∧ True) v4 [ByteArray.empty] from Kd.R_mono (Kd.R_bound ho) (fun k hk => ⟨fun hf => by have h1 := HLT.out _ _ _ HI.out k hf; have h2 := hk.2.1; omega, trivial⟩)); have HI1 := am (HST.out _ _ _ _ HI.out (Held.of_below hb)); have HH := am (Held.of_below (F := F0) hb); clear ho hb hg_ hnew_ HI))
  go_loopw [4, 13] (fun v4 v13 wr => ∃ (j : Nat) (s : σ) (F : Nat → Prop) (l : List ByteArray), j ≤ n + 1 ∧ v13 = .int .i64 j ∧ Aside0 (wordsF step (n + 1 - j) s l = some s1) ∧ Aside0 (l.length ≤ 4 ^ j ∧ ∀ x ∈ l, x.size ≤ j) ∧ Aside0 (Inv s F wr) ∧ Aside0 (∀ k, F k → F0 k ∨ w.heap.size ≤ k) ∧ Aside0 (Held F0 w wr) ∧ Aside0 (Kd.string.R 9 wr w.heap.size (fun k => ¬ F k ∧ True) v4 l)) (fun _ v13 _ => n + 1 - (intOf v13).toNat)
  case atStart => exact ⟨0, s0, F0, [ByteArray.empty], Nat.zero_le _, rfl, HW, ⟨by simp, by intro x hx; simp at hx; subst hx; exact Nat.le_refl _⟩, HI1, ⟨fun k hk => .inl hk⟩, HH, HO4⟩
  case round =>
    obtain ⟨j, s, F, l, hj, rfl, HA, HL, HI, HS, HH, HO⟩ := hrel
    by_cases hlt : j < n + 1
    · have hltI : (j : Int) < ((n + 1 : Nat) : Int) := by omega
      obtain ⟨Al, cl, el⟩ := Kd.R_slice HO.out
      subst el
      obtain ⟨m, hm⟩ : ∃ m, n + 1 - j = m + 1 := ⟨n - j, by omega⟩
      have HM := am hm
      have HJ := am hlt
      have HA2 := am (show (wordsGo step s l []).bind (fun r => match r.2 with | none => some r.1 | some o => wordsF step m r.1 o) = some s1 by have := HA.out; rw [hm] at this; exact this)
      clear HA hm hlt hj
      go_wp2_with (first | ((with_reducible refine gate_dst (N := 15) rfl ?_); refine Kd.R_lit Kd.string _ 9 ?hg (N := 15) ?hd (xs := ([] : List ByteArray)) (inner := []) (ok := fun _ => True) (okp := fun _ => True) ?hr ?hp (fun _ hk => hk) trivial (Below.refl _ _) (Nat.le_refl _) (by simp) ?_; (case hd => rfl); (case hg => rfl); (case hr => first | (go_simp; done) | (go_simp; rfl)); (case hp => exact (Reps.none _ _)); intro v5 w2 ho hb hg_ hnew_; have HO5 := am (show Kd.string.R 9 w2 w.heap.size (fun k => ¬ F k ∧ some k ≠ (.slice Al l.length cl : Value).ownBlock) v5 [] from Kd.R_lower (Kd.R_mono (Kd.R_bound ho) (fun k hk => ⟨fun hf => by have h1 := HLT.out _ _ _ HI.out k hf; have h2 := hk.2.1; omega, fun e => by have h1 := Kd.R_lt HO.out k e.symm; have h2 := hk.2.1; omega⟩)) HH.out.size); have HI2 := am (HST.out _ _ _ _ HI.out (Held.of_below hb)); have HH2 := am (Held.trans HH.out (Held.of_below (F := F) hb) HS.out); have HO2 := am (show Kd.string.R 9 w2 w.heap.size (fun k => ¬ F k ∧ some k ≠ (v5 : Value).ownBlock) (.slice Al l.length cl) l from Kd.R_mono (Kd.R_below (Kd.R_bound HO.out) hb) (fun k hk => ⟨hk.1.1, fun e => by obtain ⟨b, eb, hb2⟩ := hnew_; rw [eb] at e; injection e with e; have h1 := hk.2.2.1; omega⟩)); clear ho hb hg_ hnew_ HI HH HO))
      go_loopw [5, 18] (fun v5 v18 wr => ∃ (i : Nat) (s' : σ) (F : Nat → Prop) (o : List ByteArray), i ≤ l.length ∧ v18 = .int .i64 i ∧ Aside0 ((wordsGo step s' (l.drop i) o).bind (fun r => match r.2 with | none => some r.1 | some o => wordsF step m r.1 o) = some s1) ∧ Aside0 (o.length ≤ 4 * i ∧ ∀ x ∈ o, x.size ≤ j + 1) ∧ Aside0 (Inv s' F wr) ∧ Aside0 (∀ k, F k → F0 k ∨ w.heap.size ≤ k) ∧ Aside0 (Held F0 w wr) ∧ Aside0 (Kd.string.R 9 wr w.heap.size (fun k => ¬ F k ∧ some k ≠ (v5 : Value).ownBlock) (.slice Al l.length cl) l) ∧ Aside0 (Kd.string.R 9 wr w.heap.size (fun k => ¬ F k ∧ some k ≠ (.slice Al l.length cl : Value).ownBlock) v5 o)) (fun _ v18 _ => l.length - (intOf v18).toNat)
      case atStart => exact ⟨0, s, F, [], Nat.zero_le _, rfl, ⟨by rw [List.drop_zero]; exact HA2.out⟩, ⟨by simp, by simp⟩, HI2, HS, HH2, HO2, HO5⟩
      case round =>
        clear HI2 HS HH2 HO2 HO5 HA2
        obtain ⟨i, s', F, o, hi, rfl, HA, HLo, HI, HS, HH, HO, HO5⟩ := hrel
        by_cases hlt2 : i < l.length
        · have hltI2 : (i : Int) < (l.length : Int) := by omega
          have hxs := HL.out.2 _ (List.getElem_mem hlt2)
          have hA := HA.out
          rw [List.drop_eq_getElem_cons hlt2] at hA
          have hrd : rdOf ByteArray.empty l (i : Int) = l[i] := by unfold rdOf; rw [Int.toNat_natCast, List.getD_eq_getElem?_getD, List.getElem?_eq_getElem hlt2]; rfl
          obtain ⟨ad, e1, hx⟩ := Kd.at_string (Kd.R_reads' HO.out).2.2 (i : Int) (by omega) hltI2
          rw [hrd] at hx
          simp only [Int.toNat_natCast] at hx
          generalize hxx : l[i] = x at *
          have HXS := am hxs
          have HI2' := am (And.intro hi hlt2)
          subst e1
          clear HA hrd hxs hxx hi hlt2
          cases hsx : step s' x with
          | none =>
            unfold wordsGo at hA
            rw [hsx] at hA
            cases hA
          | some q =>
            obtain ⟨s2, b⟩ := q
            cases b with
            | false =>
              have es : s2 = s1 := by
                unfold wordsGo at hA
                rw [hsx] at hA
                exact Option.some.inj hA
              subst es
              clear hA
              go_wp2_with (first | (rw [HE.out, Oper.upon_enter]; refine (HCL.out s' F _ x s2 false HI.out hsx).mono ?_; rintro e w3 ⟨rfl, F', hinv, hheld, hsub⟩; have HI3 := am hinv; have HS3 := am hsub; have HH3 := am (Held.trans HH.out hheld HS.out); clear hinv hheld))
              (try simp only [Exit.inBlock, Exit.then]); refine bodyPost_ret (results_none rfl _ _ _) rfl ?_
              exact ⟨rfl, F', HI3.out, HH3.out, fun k hk => by
                rcases HS3.out k hk with h | h
                · exact HS.out k h
                · exact .inr (Nat.le_trans HH.out.size h)⟩
            | true =>
              have hA' : (wordsGo step s2 (l.drop (i + 1)) (o ++ kidsB x)).bind (fun r => match r.2 with | none => some r.1 | some o => wordsF step m r.1 o) = some s1 := by
                have := hA
                unfold wordsGo at this
                rw [hsx] at this
                exact this
              have HA' := am hA'
              have kc := fun (w : World) (C : Array Value) (n c : Nat) => Lib.run_convert_bytes_const (P := Tryz.prog) w 60 5 C n c Tryz.underlying60 Tryz.underlying5
              clear hA hA'
              go_wp2_with (first
                | (rw [HE.out, Oper.upon_enter]; refine (HCL.out s' F _ x s2 true HI.out hsx).mono ?_; rintro e w3 ⟨rfl, F', hinv, hheld, hsub⟩; have HI3 := am hinv; have HS3 := am (show ∀ k, F' k → F0 k ∨ w.heap.size ≤ k from fun k hk => (hsub k hk).elim (HS.out k) (fun h => .inr (Nat.le_trans HH.out.size h))); have HH3 := am (Held.trans HH.out hheld HS.out); have HO3 := am (R_held HO.out hheld hsub); have HO53 := am (R_held HO5.out hheld hsub); clear hinv hheld hsub HI HH HO HO5))
              have hal : Below w3.heap.size w3 (w3.alloc (.cells dirCells 5 (4, 5))) := (Below.refl _ w3).alloc (Nat.le_refl _) _
              go_loopw [5, 29] (fun v5 v29 wr => ∃ (p : Nat), p ≤ 4 ∧ v29 = .int .i64 p ∧ Aside0 (Inv s2 F' wr) ∧ Aside0 (Held F0 w wr) ∧ Aside0 (Kd.string.R 9 wr w.heap.size (fun k => ¬ F' k ∧ some k ≠ (v5 : Value).ownBlock) (.slice (some ad) l.length cl) l) ∧ Aside0 (Kd.string.R 9 wr w.heap.size (fun k => ¬ F' k ∧ some k ≠ (.slice (some ad) l.length cl : Value).ownBlock) v5 (o ++ kidsTo x p)) ∧ Aside0 (wr.heap[w3.heap.size]? = some (.cells dirCells 5 (4, 5)))) (fun _ v29 _ => 4 - (intOf v29).toNat)
              case atStart => exact ⟨0, by omega, rfl, ⟨HST.out _ _ _ _ HI3.out (Held.of_below hal)⟩, ⟨Held.trans HH3.out (Held.of_below (F := F') hal) HS3.out⟩, ⟨Kd.R_below HO3.out hal⟩, ⟨by rw [show kidsTo x 0 = [] from rfl, List.append_nil]; exact Kd.R_below HO53.out hal⟩, ⟨heap_alloc_new _ _⟩⟩
              case round =>
                clear HI3 HH3 HO3 HO53 hal kc hx
                obtain ⟨p, hp, rfl, HI, HH, HO, HO5, HD⟩ := hrel
                by_cases hlt3 : p < 4
                · have hltI3 : (p : Int) < 4 := by omega
                  have hxb : wr.cell? ⟨w3.heap.size, p, none⟩ = some (.int .u8 (dirBytes.getD p 0)) := (cell_of_row wr _ p _ _ _ HD.out).trans (dirCells_at hlt3)
                  have hks := kidsTo_succ x hlt3
                  generalize dirBytes.getD p 0 = c at *
                  have hsz : x.size + (strOfNums [c]).size ≤ 9223372036854775807 := by rw [strOf_one]; have := HXS.out; have := HN.out; omega
                  have hszF : (9223372036854775807 < x.size + (strOfNums [c]).size) = False := eq_false (Nat.not_lt.2 hsz)
                  have hszD : decide (x.size + (strOfNums [c]).size ≤ 9223372036854775807) = true := decide_eq_true hsz
                  have HKS := am hks
                  have HP := am hlt3
                  have HLB := am (show (o ++ kidsTo x p).length < 65536 by
                    rw [List.length_append]; have h1 := HLo.out.1; have h2 := kidsTo_len x p; have h3 := HI2'.out.2; have h4 := HL.out.1; have h5 := HN.out; have h6 := HJ.out
                    have h7 : 4 ^ j ≤ 4 ^ 6 := Nat.pow_le_pow_right (by decide) (by omega)
                    have h8 : 4 ^ 6 = 4096 := rfl
                    omega)
                  clear hks hp hlt3
                  go_wp2_with (first
                    | ((with_reducible refine gate_dst (N := 36) rfl ?_); refine Kd.R_lit (Kd.int .u8) _ 5 ?hg (N := 36) ?hd (xs := ([c] : List Int)) (inner := [.int .u8 c]) (ok := fun _ => True) (okp := fun _ => True) ?hr ?hp (fun _ hk => hk) trivial (Below.refl _ _) (Nat.le_refl _) (by simp) ?_; (case hd => rfl); (case hg => rfl); (case hr => first | (go_simp; done) | (go_simp; rfl)); (case hp => exact (Reps.one (show Kd.M (Kd.int .u8) _ _ _ c [.int .u8 c] from rfl) (Reps.none _ _))); intro v36 w5 ho hb hg_ hnew_; have hcv := own_string (P := Tryz.prog) Tryz.underlying60 Tryz.underlying5 Tryz.underlying9 (Kd.own_of_R ho); have HI5 := am (HST.out _ _ _ _ HI.out (Held.of_below hb)); have HH5 := am (Held.trans HH.out (Held.of_below (F := F') hb) HS3.out); have HO6 := am (Kd.R_below HO.out hb); have HO56 := am (Kd.R_below HO5.out hb); have HD6 := am ((hb.block _ (blkx_lt HD.out)).trans HD.out); clear ho hb hg_ hnew_ HI HH HO HO5 HD)
                    | ((with_reducible refine gate_builtin (b := .append) (xs := #[.tmp 33, .tmp 39]) rfl ?_); at_builtin; refine Kd.R_append Kd.string (w0 := w5) w.heap.size rfl (.tmp 33) (.tmp 39) 22 9 (.string ⟨#[]⟩) 16 rfl Tryz.underlying22 info9 rfl (by decide) (by omega) _ (o ++ kidsTo x p) (x ++ strOfNums [c]) [.string (x ++ strOfNums [c])] (fun k => ¬ F' k ∧ some k ≠ (.slice (some ad) l.length cl : Value).ownBlock) (fun _ => False) rfl rfl ?aP (fun _ hk => hk.elim) ?aF ?aO ?aB ?aS ?aL ?_; (case aP => exact rfl); (case aB => exact Below.refl _ _); (case aF => exact (fun k hk => ⟨fun hf => by have := HLT.out _ _ _ HI5.out k hf; omega, fun e => by have := Kd.R_lt HO6.out k e.symm; omega⟩)); (case aO => exact HO56.out); (case aS => exact HH5.out.size); (case aL => have := HLB.out; omega); intro v7 w7 ho hb hg hat; rw [List.append_assoc, ← HKS.out] at ho; have HI7 := am (HST.out _ _ _ _ HI5.out (Held.of_grown hg (fun k e => ⟨(HO56.out.1 k e).1, Kd.R_base HO56.out k e⟩))); have HH7 := am (show Held F0 w w7 from ⟨hg.os.trans HH5.out.os, hg.tape.trans HH5.out.tape, hg.output.trans HH5.out.output, Nat.le_trans HH5.out.size hg.size, fun k hk hn => (hg.block k (Nat.lt_of_lt_of_le hk HH5.out.size) (fun e => by have := Kd.R_base HO56.out k e.symm; omega)).trans (HH5.out.block k hk hn)⟩); have HO7 := am (Kd.R_after (ok := fun k => ¬ F' k) HO6.out hg hat); have HD7 := am ((hg.block _ (blkx_lt HD6.out) (fun e => by obtain ⟨cs, hc⟩ := Kd.R_typed HO56.out _ e.symm; rw [HD6.out] at hc; injection hc with hc; injection hc with _ hc _; exact absurd hc (by decide))).trans HD6.out); have HO57 := am ho; clear ho hb hg hat HI5 HH5 HO6 HO56 HD6))
                  go_roundw
                  case rel => exact ⟨p + 1, by have := HP.out; omega, by first | rfl | simp, HI7, HH7, HO7, HO57, HD7⟩
                  case measure => have := HP.out; simp [intOf]; omega
                · have hge3 : ¬ (p : Int) < 4 := by omega
                  obtain rfl : p = 4 := by omega
                  have hw1 : IntKind.i64.wrap ((i : Int) + 1) = ((i + 1 : Nat) : Int) := by rw [IntKind.wrap_i64]; have h2 := HI2'.out.2; have h4 := HL.out.1; have h5 := HN.out; have h6 := HJ.out; have h7 : 4 ^ j ≤ 4 ^ 6 := Nat.pow_le_pow_right (by decide) (by omega); have h8 : 4 ^ 6 = 4096 := rfl; omega
                  go_wp2
                  go_roundw
                  case rel => exact ⟨i + 1, s2, F', o ++ kidsB x, by have := HI2'.out.2; omega, by first | rfl | simp, HA', ⟨by rw [List.length_append]; have h1 := HLo.out.1; have h2 := kidsTo_len x 4; have h3 : (kidsB x).length = (kidsTo x 4).length := rfl; omega, fun y hy => (List.mem_append.1 hy).elim (HLo.out.2 y) (fun h => by rw [kidsTo_size x 4 y h]; have := HXS.out; omega)⟩, HI, HS3, HH, HO, HO5⟩
                  case measure => have := HI2'.out.2; simp [intOf]; omega
        · have hge2 : ¬ (i : Int) < (l.length : Int) := by omega
          have hA := HA.out
          rw [List.drop_eq_nil_of_le (by omega)] at hA
          have HA' := am (show wordsF step m s' o = some s1 from hA)
          have hw1 : IntKind.i64.wrap ((j : Int) + 1) = ((j + 1 : Nat) : Int) := by rw [IntKind.wrap_i64]; have := HJ.out; have := HN.out; omega
          have hm' : n + 1 - (j + 1) = m := by have := HM.out; omega
          have HM' := am hm'
          have hil : i = l.length := by omega
          have HIL := am hil
          clear HA hA hi hm' hil hlt2
          go_wp2
          go_roundw
          case rel => exact ⟨j + 1, s', F, o, by have := HJ.out; omega, by first | rfl | simp, ⟨by rw [HM'.out]; exact HA'.out⟩, ⟨by have h1 := HLo.out.1; have h2 := HL.out.1; have h3 := HIL.out; rw [Nat.pow_succ]; omega, HLo.out.2⟩, HI, HS, HH, ⟨Kd.R_mono HO5.out (fun k hk => ⟨hk.1, trivial⟩)⟩⟩
          case measure => have := HJ.out; simp [intOf]; omega
    · have hge : ¬ (j : Int) < ((n + 1 : Nat) : Int) := by omega
      have hA := HA.out
      rw [show n + 1 - j = 0 by omega] at hA
      obtain rfl : s = s1 := Option.some.inj hA
      go_wp2
      go_end0
      exact ⟨rfl, F, HI.out, HH.out, HS.out⟩
end Go.Proofs.YtdffgeoegdkiaaaGreatDoor

namespace Go.Proofs.YtdffgeoegdkiaaaGreatDoor.F
open Go.Proofs.YtdffgeoegdkiaaaGreatDoor
open Go.RowKit Go.Proofs.YtdffgeoegdkiaaaGreatDoorW.PrintWords Go.Proofs.YtdffgeoegdkiaaaGreatDoorW.PrintLast Go.Proofs.YtdffgeoegdkiaaaGreatDoorW.PrintMore
attribute [local go_sem] max2_int min2_int max_two min_two max_three min_three max_four min_four
mutual
def spec_mcWords.l0 : Nat → Int → List ByteArray → Option (List ByteArray)
 | 0, _, _ => none
 | k + 1, x0, x3 => if x0 > 0 then (spec_mcWords.l1 k x0 ([] : List ByteArray) x3 (x3.length : Int) 0) else (some x3)
def spec_mcWords.l1 : Nat → Int → List ByteArray → List ByteArray → Int → Int → Option (List ByteArray)
 | 0, _, _, _, _, _ => none
 | k + 1, x0, x4, x14, x15, x16 => if x16 < x15 then (if 0 ≤ x16 then (if x16 < (x14.length : Int) then (spec_mcWords.l2 k x0 x4 (rdOf ByteArray.empty x14 x16) 0 x14 x15 x16) else (none)) else (none)) else (spec_mcWords.l0 k (wrap64 (x0 - 1)) x4)
def spec_mcWords.l2 : Nat → Int → List ByteArray → ByteArray → Int → List ByteArray → Int → Int → Option (List ByteArray)
 | 0, _, _, _, _, _, _, _ => none
 | k + 1, x0, x4, x6, x7, x14, x15, x16 => if x7 < 4 then ((spec_tiDirs.f).bind fun t105 => (if 0 ≤ x7 then (if x7 ≤ (wrap64 (x7 + 1)) then (if (wrap64 (x7 + 1)) ≤ (t105.size : Int) then (if (x6.size : Int) = 0 then (if x6.size + (t105.extract (x7 : Int).toNat ((wrap64 (x7 + 1)) : Int).toNat).size ≤ 9223372036854775807 then (if x4.length < 8796093022208 then (spec_mcWords.l2 k x0 (x4 ++ [x6 ++ (t105.extract (x7 : Int).toNat ((wrap64 (x7 + 1)) : Int).toNat)]) x6 (wrap64 (x7 + 1)) x14 x15 x16) else (none)) else (none)) else (if 0 ≤ (wrap64 ((x6.size : Int) - 1)) then (if (wrap64 ((x6.size : Int) - 1)) ≤ (x6.size : Int) then (if (x6.extract ((wrap64 ((x6.size : Int) - 1)) : Int).toNat x6.size).toList = (t105.extract (x7 : Int).toNat ((wrap64 (x7 + 1)) : Int).toNat).toList then (spec_mcWords.l2 k x0 x4 x6 (wrap64 (x7 + 1)) x14 x15 x16) else (if x6.size + (t105.extract (x7 : Int).toNat ((wrap64 (x7 + 1)) : Int).toNat).size ≤ 9223372036854775807 then (if x4.length < 8796093022208 then (spec_mcWords.l2 k x0 (x4 ++ [x6 ++ (t105.extract (x7 : Int).toNat ((wrap64 (x7 + 1)) : Int).toNat)]) x6 (wrap64 (x7 + 1)) x14 x15 x16) else (none)) else (none))) else (none)) else (none))) else (none)) else (none)) else (none))) else (spec_mcWords.l1 k x0 x4 x14 x15 (wrap64 (x16 + 1)))
end
def spec_mcWords.f (k : Nat) (a0 : Int) : Option (List ByteArray) := spec_mcWords.l0 k a0 (([(⟨#[]⟩ : ByteArray)] : List ByteArray))
theorem spec_mcWords.mono_l : ∀ k, (∀ y0 y1, LeO (spec_mcWords.l0 k y0 y1) (spec_mcWords.l0 (k + 1) y0 y1)) ∧ (∀ y0 y1 y2 y3 y4, LeO (spec_mcWords.l1 k y0 y1 y2 y3 y4) (spec_mcWords.l1 (k + 1) y0 y1 y2 y3 y4)) ∧ (∀ y0 y1 y2 y3 y4 y5 y6, LeO (spec_mcWords.l2 k y0 y1 y2 y3 y4 y5 y6) (spec_mcWords.l2 (k + 1) y0 y1 y2 y3 y4 y5 y6))
 | 0 => ⟨fun _ _ r h => by simp [spec_mcWords.l0] at h, fun _ _ _ _ _ r h => by simp [spec_mcWords.l1] at h, fun _ _ _ _ _ _ _ r h => by simp [spec_mcWords.l2] at h⟩
 | k + 1 => by
  obtain ⟨ih0, ih1, ih2⟩ := spec_mcWords.mono_l k
  refine ⟨?_, ?_, ?_⟩
  ·intro y0 y1
   unfold spec_mcWords.l0
   exact mo
  ·intro y0 y1 y2 y3 y4
   unfold spec_mcWords.l1
   exact mo
  ·intro y0 y1 y2 y3 y4 y5 y6
   unfold spec_mcWords.l2
   exact mo
theorem spec_mcWords.mono : ∀ a0 k, LeO (spec_mcWords.f k a0) (spec_mcWords.f (k + 1) a0) := by
 intro a0 k
 obtain ⟨ih0, ih1, ih2⟩ := spec_mcWords.mono_l k
 unfold spec_mcWords.f
 exact mo
set_option maxHeartbeats 8000000 in
set_option maxRecDepth 100000 in
theorem spec_mcWords.calls (k : Nat) (a0 : Int) (r : List ByteArray) (w : World) (h : spec_mcWords.f k a0 = some r) :
  Calls Tryz.prog 53 #[.int .i64 a0] w fun e w' => ∃ v0_ : Value, e = .returned (v0_) ∧ Kd.R Kd.string 9 w' w.heap.size (fun _ => True) v0_ r ∧ Below w.heap.size w w' := by
 have HB := am (Below.refl w.heap.size w)
 have H : (spec_mcWords.l0 k a0 (([(⟨#[]⟩ : ByteArray)] : List ByteArray))) = some r := h
 clear h
 obtain ⟨y101, hy_⟩ : ∃ y_ : List ByteArray, y_ = (([(⟨#[]⟩ : ByteArray)] : List ByteArray)) := ⟨_, rfl⟩
 replace H : (spec_mcWords.l0 k a0 y101) = some r := aq3
 have Ny101 := am hy_
 clear hy_
 have H' := am H
 clear H
 go_enter Tryz.func53, Tryz.ntmps53
 go_wp2_with (first | ((with_reducible refine gate_dst (N := 9) rfl ?_); (try (refine gate_guard (by rfl) ?_; dsimp only)); refine Kd.R_lit Kd.string _ 9 ?hg (N := 9) ?hd (xs := ([(⟨#[]⟩ : ByteArray)] : List ByteArray)) (inner := [.string (⟨#[]⟩ : ByteArray)]) (ok := fun _ => True) (okp := fun _ => True) ?hr ?hp (fun _ hk => hk) trivial (Below.refl _ _) (Nat.le_refl _) (by simp) ?_; (case hd => rfl); (case hg => rfl); (case hr => exact aq16); (case hp => exact (Reps.one (show Kd.M Kd.string _ _ _ (⟨#[]⟩ : ByteArray) [.string (⟨#[]⟩ : ByteArray)] from rfl) (Reps.none _ _))); intro v102 w2 ho3 hb hg_ hnew_; clear hg_ hnew_; (first | rw [← Ny101.out] at ho3 | (simp only [Int.reduceToNat] at ho3; rw [← Ny101.out] at ho3)); have n0_ := am (Kd.R_lower ho3 (below_size aq1)); have n1_ := am (below_step aq1 hb); clear HB; have HO103 := n0_; have HB := n1_; clear n0_ n1_; clear hb ho3))
 go_loopg [0, 3] k (fun kq v0 v3 w' => ∃ (x0_1 : Int) (x3_1 : List ByteArray), v0 = .int .i64 x0_1 ∧ Aside0 (spec_mcWords.l0 kq x0_1 x3_1 = some r) ∧ Aside0 (kq ≤ k) ∧ Aside0 (Kd.R Kd.string 9 w' w.heap.size (fun _ => True) v3 x3_1) ∧ Aside0 (Below w.heap.size w w'))
 case atStart => exact ⟨(a0), (y101), aq7, H', ⟨Nat.le_refl _⟩, ⟨aq26⟩, ⟨aq1⟩⟩
 case round =>
  clear H'
  try clear p2
  obtain ⟨x0_1, x3_1, rfl, HA, HK1, HO_3, HB⟩ := hrel
  cases gk with
  | zero => exact absurd HA.out (by simp [spec_mcWords.l0])
  | succ k1 =>
   have H := HA.out
   clear HA
   simp only [spec_mcWords.l0] at H
   by_cases c4 : x0_1 > 0
   ·rw [if_pos c4] at H
    have c4b0 := decide_eq_true c4
    clear c4
    have H' := am H
    clear H
    obtain ⟨Ao5, co5, eo5⟩ := Kd.R_slice HO_3.out
    subst eo5
    go_wp2
    go_loopg [4, 16] k1 (fun kq v4 v16 w' => ∃ (x4_2 : List ByteArray) (x16_2 : Int), v16 = .int .i64 x16_2 ∧ Aside0 (spec_mcWords.l1 kq x0_1 x4_2 x3_1 (x3_1.length : Int) x16_2 = some r) ∧ Aside0 (kq ≤ k1) ∧ Aside0 (Kd.R Kd.string 9 w' w.heap.size (fun k_ => some k_ ≠ ((.slice Ao5 x3_1.length co5) : Value).ownBlock) v4 x4_2) ∧ Aside0 (Kd.R Kd.string 9 w' w.heap.size (fun k_ => some k_ ≠ (v4 : Value).ownBlock) (.slice Ao5 x3_1.length co5) x3_1) ∧ Aside0 (Below w.heap.size w w'))
    case atStart => exact ⟨(([] : List ByteArray)), (0), aq7, H', ⟨Nat.le_refl _⟩, ⟨aq23⟩, ⟨by (with_reducible repeat (first | apply Kd.R_alloc | apply Kd.R_drewN | apply Kd.R_drew)); exact Kd.R_mono HO_3.out (fun _ hk => (by simp [Value.ownBlock]))⟩, ⟨aq1⟩⟩
    case round =>
     clear H'
     try clear p2
     try clear c4
     try clear c4b0
     try clear c5
     try clear p2
     obtain ⟨x4_2, x16_2, rfl, HA, HK2, HO_4, HO_14, HB⟩ := hrel
     cases gk with
     | zero => exact absurd HA.out (by simp [spec_mcWords.l1])
     | succ k2 =>
      have H := HA.out
      clear HA
      simp only [spec_mcWords.l1] at H
      by_cases c6 : x16_2 < (x3_1.length : Int)
      ·rw [if_pos c6] at H
       have c6b0 := decide_eq_true c6
       clear c6
       by_cases c7 : 0 ≤ x16_2
       ·rw [if_pos c7] at H
        have c7b0 := decide_eq_true c7
        clear c7
        by_cases c8 : x16_2 < (x3_1.length : Int)
        ·rw [if_pos c8] at H
         have c8b0 := decide_eq_true c8
         clear c8
         have H' := am H
         clear H
         have p104 : 0 ≤ (x16_2 : Int) := of_decide_eq_true aq4
         have q104 : x16_2 < (x3_1.length : Int) := of_decide_eq_true aq4
         obtain ⟨ad104, e104, hx104_0⟩ := Kd.at_string (Kd.R_reads' HO_14.out).2.2 x16_2 p104 q104
         cases e104
         replace p104 := eq_true p104
         replace q104 := eq_true q104
         go_wp2
         go_loopg [4, 7] k2 (fun kq v4 v7 w' => ∃ (x4_3 : List ByteArray) (x7_3 : Int), v7 = .int .i64 x7_3 ∧ Aside0 (spec_mcWords.l2 kq x0_1 x4_3 (rdOf ByteArray.empty x3_1 x16_2) x7_3 x3_1 (x3_1.length : Int) x16_2 = some r) ∧ Aside0 (kq ≤ k2) ∧ Aside0 (Kd.R Kd.string 9 w' w.heap.size (fun k_ => some k_ ≠ ((.slice (some ad104) x3_1.length co5) : Value).ownBlock) v4 x4_3) ∧ Aside0 (Kd.R Kd.string 9 w' w.heap.size (fun k_ => some k_ ≠ (v4 : Value).ownBlock) (.slice (some ad104) x3_1.length co5) x3_1) ∧ Aside0 (Below w.heap.size w w'))
         case atStart => exact ⟨(x4_2), (0), aq7, H', ⟨Nat.le_refl _⟩, ⟨aq59⟩, ⟨aq57⟩, ⟨aq1⟩⟩
         case round =>
          clear H'
          try clear p1
          try clear q1
          try clear hx1
          try clear p2
          try clear c4
          try clear c4b0
          try clear c5
          try clear c6
          try clear c6b0
          try clear c7
          try clear c7b0
          try clear c8
          try clear c8b0
          try clear hx104_0
          try clear p104
          try clear p2
          try clear q104
          obtain ⟨x4_3, x7_3, rfl, HA, HK3, HO_4, HO_14, HB⟩ := hrel
          cases gk with
          | zero => exact absurd HA.out (by simp [spec_mcWords.l2])
          | succ k3 =>
           have H := HA.out
           clear HA
           simp only [spec_mcWords.l2] at H
           by_cases c9 : x7_3 < 4
           ·rw [if_pos c9] at H
            have c9b0 := decide_eq_true c9
            clear c9
            obtain ⟨t105, A100, H⟩ := Option.bind_eq_some_iff.mp H
            have A10 := am A100
            clear A100
            by_cases c11 : 0 ≤ x7_3
            ·rw [if_pos c11] at H
             have c11b0 := eq_true c11
             have c11b1 := decide_eq_true c11
             clear c11
             by_cases c12 : x7_3 ≤ (wrap64 (x7_3 + 1))
             ·rw [if_pos c12] at H
              have c12b0 := eq_true c12
              have c12b1 := decide_eq_true c12
              by_cases c13 : (wrap64 (x7_3 + 1)) ≤ (t105.size : Int)
              ·rw [if_pos c13] at H
               have c13b0 := eq_true c13
               have c13b1 := decide_eq_true c13
               by_cases c14 : ((rdOf ByteArray.empty x3_1 x16_2).size : Int) = 0
               ·rw [if_pos c14] at H
                have c14b0 := beq_iff_eq.mpr c14
                have c14b1 := bne_eq_false_iff_eq.mpr c14
                clear c14
                by_cases c15 : (rdOf ByteArray.empty x3_1 x16_2).size + (t105.extract (x7_3 : Int).toNat ((wrap64 (x7_3 + 1)) : Int).toNat).size ≤ 9223372036854775807
                ·rw [if_pos c15] at H
                 have c15b0 := eq_true c15
                 have c15b1 := decide_eq_true c15
                 try have c15b2 : (9223372036854775807 < (rdOf ByteArray.empty x3_1 x16_2).size + (t105.extract (x7_3 : Int).toNat ((wrap64 (x7_3 + 1)) : Int).toNat).size) = False := eq_false (Nat.not_lt.2 c15)
                 by_cases c16 : x4_3.length < 8796093022208
                 ·rw [if_pos c16] at H
                  have LMc16 := am c16
                  clear c16
                  obtain ⟨y106, hy_⟩ : ∃ y_ : List ByteArray, y_ = (x4_3 ++ [(rdOf ByteArray.empty x3_1 x16_2) ++ (t105.extract (x7_3 : Int).toNat ((wrap64 (x7_3 + 1)) : Int).toNat)]) := ⟨_, rfl⟩
                  replace H : (spec_mcWords.l2 k3 x0_1 y106 (rdOf ByteArray.empty x3_1 x16_2) (wrap64 (x7_3 + 1)) x3_1 (x3_1.length : Int) x16_2) = some r := aq3
                  have Ny106 := am hy_
                  clear hy_
                  have H' := am H
                  clear H
                  go_wp2_with (first | ((with_reducible refine gate_callee (f := 98) rfl ?_); refine goesL_ (some 24) rfl rfl Tryz.func98 (by kernel_rfl) rfl #[] rfl aq5 ?_; (with_reducible refine (spec_tiDirs.calls  t105 _ A10.out).mono ?_); rintro e w' ⟨rfl, ⟨nd, rfl⟩⟩; refine ⟨_, rfl, ?_⟩) | ((with_reducible refine gate_builtin (b := .append) (xs := #[.tmp 41, .tmp 45]) rfl ?_); (try (refine gate_guard (by rfl) ?_; dsimp only)); at_builtin; refine Kd.R_append Kd.string (w0 := w) w.heap.size rfl (.tmp 41) (.tmp 45) 22 9 (.string ⟨#[]⟩) 16 rfl Tryz.underlying22 info9 rfl (by decide) (by omega) u4 x4_3 ((rdOf ByteArray.empty x3_1 x16_2) ++ (t105.extract (x7_3 : Int).toNat ((wrap64 (x7_3 + 1)) : Int).toNat)) [.string ((rdOf ByteArray.empty x3_1 x16_2) ++ (t105.extract (x7_3 : Int).toNat ((wrap64 (x7_3 + 1)) : Int).toNat))] (fun k_ => some k_ ≠ (.slice (some ad104) x3_1.length co5 : Value).ownBlock) (fun _ => False) rfl rfl ?aP (fun _ hk => hk.elim) ?aF ?aO ?aB ?aS ?aL ?_; (case aP => exact rfl); (case aB => exact aq1); (case aF => exact (fun k_ hk => Kd.fresh' (Kd.R_lt aq57) k_ hk)); (case aO => exact aq59); (case aS => exact (below_size aq1)); (case aL => have := LMc16.out; omega); intro v107 w17 ho hb hg hat; rw [← Ny106.out] at ho; have n0_ := am (Kd.R_after (ok := (fun _ => True)) aq101 hg hat); have n1_ := am (hb); have n2_ := am (ho); clear HO_14; clear HB; clear HO_4; have HO_14 := n0_; have HB := n1_; have HO108 := n2_; clear n0_ n1_ n2_; clear ho hb hg hat))
                  go_roundg k3
                  case measure => have := HK1.out; have := HK2.out; have := HK3.out; omega
                  case rel => exact ⟨(y106), (wrap64 (x7_3 + 1)), aq7, H', ⟨aq52⟩, ⟨by (with_reducible repeat (first | apply Kd.R_alloc | apply Kd.R_drewN | apply Kd.R_drew)); exact HO108.out⟩, ⟨aq105⟩, ⟨aq1⟩⟩
                 ·rw [if_neg c16] at H
                  exact absurd H (by simp)
                ·rw [if_neg c15] at H
                 exact absurd H (by simp)
               ·rw [if_neg c14] at H
                have c14b0 := beq_eq_false_iff_ne.mpr c14
                have c14b1 := bne_iff_ne.mpr c14
                obtain ⟨ji18, hji18⟩ : ∃ j_ : Int, (wrap64 (((rdOf ByteArray.empty x3_1 x16_2).size : Int) - 1)) = j_ := ⟨_, rfl⟩
                first | rw [hji18] at H | simp only [hji18] at H
                (try rw [hji18] at A10)
                have hji18w : (IntKind.i64.wrap (((rdOf ByteArray.empty x3_1 x16_2).size : Int) - 1)) = ji18 := (i64_w _).trans hji18
                by_cases c19 : 0 ≤ (ji18)
                ·rw [if_pos c19] at H
                 have c19b0 := eq_true c19
                 have c19b1 := decide_eq_true c19
                 clear c19
                 by_cases c20 : (ji18) ≤ ((rdOf ByteArray.empty x3_1 x16_2).size : Int)
                 ·rw [if_pos c20] at H
                  have c20b0 := eq_true c20
                  have c20b1 := decide_eq_true c20
                  clear c20
                  by_cases c21 : ((rdOf ByteArray.empty x3_1 x16_2).extract ((ji18) : Int).toNat (rdOf ByteArray.empty x3_1 x16_2).size).toList = (t105.extract (x7_3 : Int).toNat ((wrap64 (x7_3 + 1)) : Int).toNat).toList
                  ·rw [if_pos c21] at H
                   have c21b0 := beq_iff_eq.mpr c21
                   have c21b1 := bne_eq_false_iff_eq.mpr c21
                   clear c21
                   have H' := am H
                   clear H
                   go_wp2_with (first | ((with_reducible refine gate_callee (f := 98) rfl ?_); refine goesL_ (some 24) rfl rfl Tryz.func98 (by kernel_rfl) rfl #[] rfl aq5 ?_; (with_reducible refine (spec_tiDirs.calls  t105 _ A10.out).mono ?_); rintro e w' ⟨rfl, ⟨nd, rfl⟩⟩; refine ⟨_, rfl, ?_⟩))
                   go_roundg k3
                   case measure => have := HK1.out; have := HK2.out; have := HK3.out; omega
                   case rel => exact ⟨(x4_3), (wrap64 (x7_3 + 1)), aq7, H', ⟨aq52⟩, ⟨aq59⟩, ⟨aq57⟩, ⟨aq1⟩⟩
                  ·rw [if_neg c21] at H
                   have c21b0 := beq_eq_false_iff_ne.mpr c21
                   have c21b1 := bne_iff_ne.mpr c21
                   by_cases c22 : (rdOf ByteArray.empty x3_1 x16_2).size + (t105.extract (x7_3 : Int).toNat ((wrap64 (x7_3 + 1)) : Int).toNat).size ≤ 9223372036854775807
                   ·rw [if_pos c22] at H
                    have c22b0 := eq_true c22
                    have c22b1 := decide_eq_true c22
                    try have c22b2 : (9223372036854775807 < (rdOf ByteArray.empty x3_1 x16_2).size + (t105.extract (x7_3 : Int).toNat ((wrap64 (x7_3 + 1)) : Int).toNat).size) = False := eq_false (Nat.not_lt.2 c22)
                    by_cases c23 : x4_3.length < 8796093022208
                    ·rw [if_pos c23] at H
                     have LMc23 := am c23
                     clear c23
                     obtain ⟨y109, hy_⟩ : ∃ y_ : List ByteArray, y_ = (x4_3 ++ [(rdOf ByteArray.empty x3_1 x16_2) ++ (t105.extract (x7_3 : Int).toNat ((wrap64 (x7_3 + 1)) : Int).toNat)]) := ⟨_, rfl⟩
                     replace H : (spec_mcWords.l2 k3 x0_1 y109 (rdOf ByteArray.empty x3_1 x16_2) (wrap64 (x7_3 + 1)) x3_1 (x3_1.length : Int) x16_2) = some r := aq3
                     have Ny109 := am hy_
                     clear hy_
                     have H' := am H
                     clear H
                     go_wp2_with (first | ((with_reducible refine gate_callee (f := 98) rfl ?_); refine goesL_ (some 24) rfl rfl Tryz.func98 (by kernel_rfl) rfl #[] rfl aq5 ?_; (with_reducible refine (spec_tiDirs.calls  t105 _ A10.out).mono ?_); rintro e w' ⟨rfl, ⟨nd, rfl⟩⟩; refine ⟨_, rfl, ?_⟩) | ((with_reducible refine gate_builtin (b := .append) (xs := #[.tmp 41, .tmp 45]) rfl ?_); (try (refine gate_guard (by rfl) ?_; dsimp only)); at_builtin; refine Kd.R_append Kd.string (w0 := w) w.heap.size rfl (.tmp 41) (.tmp 45) 22 9 (.string ⟨#[]⟩) 16 rfl Tryz.underlying22 info9 rfl (by decide) (by omega) u4 x4_3 ((rdOf ByteArray.empty x3_1 x16_2) ++ (t105.extract (x7_3 : Int).toNat ((wrap64 (x7_3 + 1)) : Int).toNat)) [.string ((rdOf ByteArray.empty x3_1 x16_2) ++ (t105.extract (x7_3 : Int).toNat ((wrap64 (x7_3 + 1)) : Int).toNat))] (fun k_ => some k_ ≠ (.slice (some ad104) x3_1.length co5 : Value).ownBlock) (fun _ => False) rfl rfl ?aP (fun _ hk => hk.elim) ?aF ?aO ?aB ?aS ?aL ?_; (case aP => exact rfl); (case aB => exact aq1); (case aF => exact (fun k_ hk => Kd.fresh' (Kd.R_lt aq57) k_ hk)); (case aO => exact aq59); (case aS => exact (below_size aq1)); (case aL => have := LMc23.out; omega); intro v110 w24 ho hb hg hat; rw [← Ny109.out] at ho; have n0_ := am (Kd.R_after (ok := (fun _ => True)) aq101 hg hat); have n1_ := am (hb); have n2_ := am (ho); clear HO_14; clear HB; clear HO_4; have HO_14 := n0_; have HB := n1_; have HO111 := n2_; clear n0_ n1_ n2_; clear ho hb hg hat))
                     go_roundg k3
                     case measure => have := HK1.out; have := HK2.out; have := HK3.out; omega
                     case rel => exact ⟨(y109), (wrap64 (x7_3 + 1)), aq7, H', ⟨aq52⟩, ⟨by (with_reducible repeat (first | apply Kd.R_alloc | apply Kd.R_drewN | apply Kd.R_drew)); exact HO111.out⟩, ⟨aq105⟩, ⟨aq1⟩⟩
                    ·rw [if_neg c23] at H
                     exact absurd H (by simp)
                   ·rw [if_neg c22] at H
                    exact absurd H (by simp)
                 ·rw [if_neg c20] at H
                  exact absurd H (by simp)
                ·rw [if_neg c19] at H
                 exact absurd H (by simp)
              ·rw [if_neg c13] at H
               exact absurd H (by simp)
             ·rw [if_neg c12] at H
              exact absurd H (by simp)
            ·rw [if_neg c11] at H
             exact absurd H (by simp)
           ·rw [if_neg c9] at H
            have c9b0 := decide_eq_false c9
            clear c9
            have H' := am H
            clear H
            go_wp2
            go_roundg k3
            case measure => have := HK1.out; have := HK2.out; have := HK3.out; omega
            case rel => exact ⟨(x4_3), (wrap64 (x16_2 + 1)), aq7, H', ⟨aq52⟩, ⟨aq59⟩, ⟨aq57⟩, ⟨aq1⟩⟩
        ·rw [if_neg c8] at H
         exact absurd H (by simp)
       ·rw [if_neg c7] at H
        exact absurd H (by simp)
      ·rw [if_neg c6] at H
       have c6b0 := decide_eq_false c6
       clear c6
       have H' := am H
       clear H
       go_wp2
       go_roundg k2
       case measure => have := HK1.out; have := HK2.out; omega
       case rel => exact ⟨(wrap64 (x0_1 - 1)), (x4_2), aq7, H', ⟨aq64⟩, ⟨by (with_reducible repeat (first | apply Kd.R_alloc | apply Kd.R_drewN | apply Kd.R_drew)); exact Kd.R_mono HO_4.out (fun _ hk => trivial)⟩, ⟨aq1⟩⟩
   ·rw [if_neg c4] at H
    have c4b0 := decide_eq_false c4
    clear c4
    obtain rfl := Option.some.inj H
    go_wp2
    go_ret
    exact ⟨_, aq8, aq49, aq1⟩
end Go.Proofs.YtdffgeoegdkiaaaGreatDoor.F

namespace Go.Proofs.YtdffgeoegdkiaaaGreatDoor.F
open Go.RowKit Go.Proofs.YtdffgeoegdkiaaaGreatDoor Go.Proofs.YtdffgeoegdkiaaaGreatDoorW.PrintWords Go.Proofs.YtdffgeoegdkiaaaGreatDoorW.PrintMore
def txtW (u : List Nat) : ByteArray := strOfNums (u.map dirB)
theorem dirB_ok {d : Nat} (h : d < 4) : isDirC (dirB d) = true ∧ (dirIx (dirB d)).toNat = d ∧ 0 ≤ dirB d ∧ dirB d < 256 := by
  have : d = 0 ∨ d = 1 ∨ d = 2 ∨ d = 3 := by omega
  rcases this with rfl | rfl | rfl | rfl <;> exact ⟨by decide, by decide, by decide, by decide⟩
theorem bytes_txtW {u : List Nat} (hu : ∀ d ∈ u, d < 4) : bytesOf (txtW u) = u.map dirB := by
  refine bytesOf_str fun c hc => ?_
  obtain ⟨d, hd, rfl⟩ := List.mem_map.1 hc
  exact (dirB_ok (hu d hd)).2.2
theorem wordD_txtW {u : List Nat} (hu : ∀ d ∈ u, d < 4) : wordD (txtW u) = u := by
  unfold wordD dirsL
  rw [bytes_txtW hu, List.map_map]
  conv => rhs; rw [← List.map_id u]
  exact List.map_congr_left fun d hd => (dirB_ok (hu d hd)).2.1
theorem word_txtW {u : List Nat} (hu : ∀ d ∈ u, d < 4) (hl : u.length ≤ 40) : isWordB (bytesOf (txtW u)) = true := by
  rw [isWordB_iff, bytes_txtW hu]
  refine ⟨by rw [List.length_map]; exact hl, fun c hc => ?_⟩
  obtain ⟨d, hd, rfl⟩ := List.mem_map.1 hc
  exact (dirB_ok (hu d hd)).1
theorem txtW_size (u : List Nat) : (txtW u).size = u.length := by unfold txtW; rw [strOfNums_len, List.length_map]
theorem txtW_snoc (u : List Nat) (d : Nat) : txtW (u ++ [d]) = txtW u ++ strOfNums [dirB d] := by
  unfold txtW; rw [List.map_append, strOfNums_app]; rfl
theorem kids_txtW (u : List Nat) : kidsB (txtW u) = ([0, 1, 2, 3].map fun d => u ++ [d]).map txtW := by
  rw [List.map_map]
  show ([117, 114, 100, 108] : List Int).map (fun c => txtW u ++ strOfNums [c]) = [0, 1, 2, 3].map (fun d => txtW (u ++ [d]))
  simp only [txtW_snoc, List.map_cons, List.map_nil]; rfl
theorem kids_level (l : List (List Nat)) : (l.map txtW).flatMap kidsB = (grow l).map txtW := by
  unfold grow
  induction l with
  | nil => rfl
  | cons u l ih => rw [List.map_cons, List.flatMap_cons, List.flatMap_cons, List.map_append, ih, kids_txtW]
theorem level_len : ∀ n, (level n).length = 4 ^ n
  | 0 => rfl
  | n + 1 => by
    show (grow (level n)).length = _
    rw [Nat.pow_succ, ← level_len n]
    unfold grow
    induction level n with
    | nil => rfl
    | cons u l ih => rw [List.flatMap_cons, List.length_append, ih]; simp only [List.length_map, List.length_cons, List.length_nil]; omega
section
variable {σ : Type} {step : Nat → σ → ByteArray → Option (σ × Bool)}
theorem go_hit {hit : ByteArray → Bool} {a0 : σ} {a1 : ByteArray → σ} : ∀ (l o : List ByteArray), (∀ x ∈ l, Ev (fun k => step k a0 x) (if hit x = true then (a1 x, false) else (a0, true))) →
    Ev (fun k => wordsGo (step k) a0 l o) (match l.find? hit with | some x => (a1 x, none) | none => (a0, some (o ++ l.flatMap kidsB)))
  | [], o, _ => by rw [List.find?_nil, List.flatMap_nil, List.append_nil]; exact Ev.now _
  | x :: l, o, hs => by
    have h1 := hs x List.mem_cons_self
    have ih := go_hit l (o ++ kidsB x) (fun y hy => hs y (List.mem_cons_of_mem _ hy))
    refine Ev.congr (f := fun k => (step k a0 x).bind fun r => if r.2 = true then wordsGo (step k) r.1 l (o ++ kidsB x) else some (r.1, none)) (fun k => rfl) (Ev.bind h1 ?_)
    by_cases hh : hit x = true
    · rw [if_pos hh, List.find?_cons_of_pos hh]
      exact Ev.congr (fun k => if_neg Bool.false_ne_true) (Ev.now _)
    · rw [if_neg hh, List.find?_cons_of_neg (by simpa using hh), List.flatMap_cons, ← List.append_assoc]
      exact Ev.congr (fun k => if_pos rfl) ih
theorem words_hit {hit : ByteArray → Bool} {a0 : σ} {a1 : ByteArray → σ} (hs : ∀ u : List Nat, (∀ d ∈ u, d < 4) → u.length ≤ 6 → Ev (fun k => step k a0 (txtW u)) (if hit (txtW u) = true then (a1 (txtW u), false) else (a0, true))) : ∀ (n j : Nat), j + n ≤ 7 →
    Ev (fun k => wordsF (step k) n a0 ((level j).map txtW)) (match (((List.range n).flatMap fun i => level (j + i)).map txtW).find? hit with | some x => a1 x | none => a0)
  | 0, j, hj => Ev.now _
  | n + 1, j, hj => by
    have h1 := go_hit (hit := hit) (a0 := a0) (a1 := a1) (step := step) ((level j).map txtW) [] (fun x hx => by
      obtain ⟨u, hu, rfl⟩ := List.mem_map.1 hx
      obtain ⟨q1, q2⟩ := (mem_level j u).1 hu
      exact hs u q2 (by omega))
    rw [List.nil_append, kids_level] at h1
    have ih := words_hit hs n (j + 1) (by omega)
    rw [List.range_succ_eq_map, List.flatMap_cons, List.map_append, List.find?_append, Nat.add_zero, List.flatMap_map]
    have e : (fun a : Nat => level (j + a.succ)) = fun i => level (j + 1 + i) := by funext i; congr 1; omega
    rw [e]
    refine Ev.bind h1 ?_
    cases hf : ((level j).map txtW).find? hit with
    | some x => exact Ev.now _
    | none => exact ih
end
theorem levels_map (n : Nat) : (((List.range (n + 1)).flatMap fun i => level (0 + i)).map txtW) = (levels n).map txtW := by
  unfold levels
  congr 2
  funext i
  rw [Nat.zero_add]
theorem level0_map : (level 0).map txtW = [ByteArray.empty] := rfl
theorem dirs_ex {d : Nat} (h : d < 4) : (⟨#[117, 114, 100, 108]⟩ : ByteArray).extract d (d + 1) = strOfNums [dirB d] := by
  have : d = 0 ∨ d = 1 ∨ d = 2 ∨ d = 3 := by omega
  rcases this with rfl | rfl | rfl | rfl <;> decide +kernel
theorem last_ex {u : List Nat} (hu : ∀ d ∈ u, d < 4) (hl : u ≠ []) {d : Nat} (hd : d < 4) : ((txtW u).extract (u.length - 1) u.length).toList = ((⟨#[117, 114, 100, 108]⟩ : ByteArray).extract d (d + 1)).toList ↔ u.getLast? = some d := by
  obtain ⟨v, e, rfl⟩ : ∃ v e, u = v ++ [e] := ⟨u.dropLast, u.getLast hl, (List.dropLast_concat_getLast hl).symm⟩
  have he : e < 4 := hu e (by simp)
  rw [dirs_ex hd, List.getLast?_append, List.length_append, List.length_singleton, Nat.add_sub_cancel, txtW_snoc]
  have hx : (txtW v ++ strOfNums [dirB e]).extract v.length (v.length + 1) = strOfNums [dirB e] := by
    apply ByteArray.ext
    apply Array.toList_inj.1
    rw [Lib.extract_data, ByteArray.data_append, Array.toList_append]
    have h1 : (txtW v).data.toList.length = v.length := by
      have := txtW_size v
      rw [← this, Array.length_toList]; rfl
    have h2 : (strOfNums [dirB e]).data.toList.length = 1 := rfl
    rw [show (txtW v).data.toList ++ (strOfNums [dirB e]).data.toList = _ from rfl, ← h1]
    simp [h2]
    exact List.take_of_length_le (by rw [h2]; exact Nat.le_refl _)
  rw [hx]
  have h4 : ∀ a b : Fin 4, ((strOfNums [dirB a.1]).toList = (strOfNums [dirB b.1]).toList ↔ a.1 = b.1) := by decide +kernel
  have := h4 ⟨e, he⟩ ⟨d, hd⟩
  simp only at this
  rw [this]
  simp
def kidsS (u : List Nat) (j : Nat) : List (List Nat) := (((List.range j).filter fun d => u.getLast? != some d)).map fun d => u ++ [d]
theorem kidsS_succ (u : List Nat) (j : Nat) : kidsS u (j + 1) = if u.getLast? = some j then kidsS u j else kidsS u j ++ [u ++ [j]] := by
  unfold kidsS
  rw [List.range_succ, List.filter_append, List.map_append]
  by_cases h : u.getLast? = some j
  · rw [if_pos h]
    rw [List.filter_cons, if_neg (by simp [h])]; simp
  · rw [if_neg h]
    rw [List.filter_cons, if_pos (by simpa using h)]; simp
theorem kidsS_len (u : List Nat) (j : Nat) : (kidsS u j).length ≤ j := by
  unfold kidsS; rw [List.length_map]; exact Nat.le_trans (List.length_filter_le _ _) (by simp)
theorem mc_l2 {x0 : Int} {u : List Nat} (hu : ∀ d ∈ u, d < 4) (hul : u.length ≤ 10) {o : List (List Nat)} (ho : o.length ≤ 100000) {x14 : List ByteArray} {x15 x16 : Int} {R : List ByteArray} : ∀ (n j : Nat), j + n = 4 →
    Ev (fun k => spec_mcWords.l1 k x0 ((o ++ kidsS u 4).map txtW) x14 x15 (wrap64 (x16 + 1))) R →
    Ev (fun k => spec_mcWords.l2 k x0 ((o ++ kidsS u j).map txtW) (txtW u) (j : Int) x14 x15 x16) R
  | 0, j, hj, h => by
    obtain rfl : j = 4 := by omega
    exact Ev.step (fun k => by rw [spec_mcWords.l2, if_neg (by omega)]) h
  | n + 1, j, hj, h => by
    have hj4 : j < 4 := by omega
    have ih := mc_l2 hu hul ho n (j + 1) (by omega) h
    have HW : Aside0 (wrap64 ((j : Int) + 1) = ((j + 1 : Nat) : Int)) := ⟨by rw [w64 (by omega) (by omega)]; rfl⟩
    have hsz4 : ((⟨#[117, 114, 100, 108]⟩ : ByteArray).size : Int) = 4 := rfl
    have hk := kidsS_len u j
    have hsz := txtW_size u
    have hone : ((⟨#[117, 114, 100, 108]⟩ : ByteArray).extract j (j + 1)).size = 1 := by rw [dirs_ex hj4]; rfl
    have hlen : ((o ++ kidsS u j).map txtW).length < 8796093022208 := by rw [List.length_map, List.length_append]; omega
    have hadd : (o ++ kidsS u j).map txtW ++ [txtW u ++ (⟨#[117, 114, 100, 108]⟩ : ByteArray).extract j (j + 1)] = (o ++ (kidsS u j ++ [u ++ [j]])).map txtW := by
      rw [dirs_ex hj4, ← txtW_snoc, ← List.append_assoc, List.map_append (l₂ := [u ++ [j]])]; rfl
    refine Ev.step (fun k => ?_) ih
    rw [spec_mcWords.l2, if_pos (by omega), show spec_tiDirs.f = some (⟨#[117, 114, 100, 108]⟩ : ByteArray) from rfl, Option.bind_some, if_pos (by omega), HW.out, if_pos (by omega), hsz4, if_pos (by omega), Int.toNat_natCast, Int.toNat_natCast, kidsS_succ]
    by_cases h0 : u = []
    · subst h0
      rw [if_pos (by rw [hsz]; rfl), if_pos (by rw [hone, hsz]; simp), if_pos hlen, hadd, if_neg (by simp)]
    · have hpos : 0 < u.length := List.length_pos_iff.2 h0
      have HS : Aside0 (wrap64 (((txtW u).size : Int) - 1) = ((u.length - 1 : Nat) : Int)) := ⟨by rw [hsz, w64 (by omega) (by omega)]; omega⟩
      rw [if_neg (by rw [hsz]; omega), HS.out, if_pos (by omega), if_pos (by rw [hsz]; omega), Int.toNat_natCast, hsz]
      by_cases he : u.getLast? = some j
      · rw [if_pos ((last_ex hu h0 hj4).2 he), if_pos he]
      · rw [if_neg (fun q => he ((last_ex hu h0 hj4).1 q)), if_pos (by rw [hone]; omega), if_pos hlen, hadd, if_neg he]
theorem mc_l1 {x0 : Int} {L : List (List Nat)} (hL : L.length ≤ 10000) (hm : ∀ u ∈ L, (∀ d ∈ u, d < 4) ∧ u.length ≤ 10) {R : List ByteArray} : ∀ (n i : Nat), i + n = L.length →
    Ev (fun k => spec_mcWords.l0 k (wrap64 (x0 - 1)) ((L.flatMap fun u => kidsS u 4).map txtW)) R →
    Ev (fun k => spec_mcWords.l1 k x0 (((L.take i).flatMap fun u => kidsS u 4).map txtW) (L.map txtW) ((L.map txtW).length : Int) (i : Int)) R
  | 0, i, hi, h => by
    rw [List.take_of_length_le (by omega)]
    exact Ev.step (fun k => by rw [spec_mcWords.l1, if_neg (by rw [List.length_map]; omega)]) h
  | n + 1, i, hi, h => by
    have hil : i < L.length := by omega
    have HW : Aside0 (wrap64 ((i : Int) + 1) = ((i + 1 : Nat) : Int)) := ⟨by rw [w64 (by omega) (by omega)]; rfl⟩
    have ih := mc_l1 hL hm n (i + 1) (by omega) h
    obtain ⟨q1, q2⟩ := hm _ (List.getElem_mem hil)
    rw [List.take_succ_eq_append_getElem hil, List.flatMap_append, List.flatMap_cons, List.flatMap_nil, List.append_nil] at ih
    have hlen : ((L.take i).flatMap fun u => kidsS u 4).length ≤ 4 * i := by
      have : ∀ l : List (List Nat), (l.flatMap fun u => kidsS u 4).length ≤ 4 * l.length := fun l => by
        induction l with
        | nil => simp
        | cons a l ih => rw [List.flatMap_cons, List.length_append, List.length_cons]; have := kidsS_len a 4; omega
      refine Nat.le_trans (this _) ?_
      rw [List.length_take]; omega
    have hrd : rdOf ByteArray.empty (L.map txtW) (i : Int) = txtW L[i] := by unfold rdOf; rw [Int.toNat_natCast, List.getD_eq_getElem?_getD, List.getElem?_map, List.getElem?_eq_getElem hil]; rfl
    have h2 := mc_l2 (x0 := x0) (x14 := L.map txtW) (x15 := ((L.map txtW).length : Int)) (x16 := (i : Int)) q1 q2 (o := (L.take i).flatMap fun u => kidsS u 4) (by omega) 4 0 rfl (by rw [HW.out]; exact ih)
    rw [show kidsS L[i] 0 = [] from rfl, List.append_nil] at h2
    refine Ev.step (fun k => ?_) h2
    rw [spec_mcWords.l1, if_pos (by rw [List.length_map]; omega), if_pos (by omega), if_pos (by rw [List.length_map]; omega), hrd]; rfl
theorem levelS_sub (n : Nat) : (levelS n).length ≤ 4 ^ n ∧ ∀ u ∈ levelS n, (∀ d ∈ u, d < 4) ∧ u.length = n := by
  rw [levelS_eq]
  exact ⟨Nat.le_trans (List.length_filter_le _ _) (by rw [level_len]; exact Nat.le_refl _), fun u hu => by
    obtain ⟨h1, h2⟩ := (mem_level n u).1 (List.mem_filter.1 hu).1
    exact ⟨h2, h1⟩⟩
theorem mc_l0 : ∀ (n j : Nat), n + j ≤ 6 → Ev (fun k => spec_mcWords.l0 k (n : Int) ((levelS j).map txtW)) ((levelS (j + n)).map txtW)
  | 0, j, _ => Ev.step (f := fun _ => some ((levelS j).map txtW)) (fun k => by rw [spec_mcWords.l0, if_neg (by omega)]) (Ev.now _)
  | n + 1, j, hj => by
    obtain ⟨h1, h2⟩ := levelS_sub j
    have h6 : 4 ^ j ≤ 4 ^ 6 := Nat.pow_le_pow_right (by decide) (by omega)
    have h7 : 4 ^ 6 = 4096 := rfl
    have ih := mc_l0 n (j + 1) (by omega)
    rw [show j + (n + 1) = j + 1 + n by omega]
    have HW : Aside0 (wrap64 (((n + 1 : Nat) : Int) - 1) = (n : Int)) := ⟨by rw [w64 (by omega) (by omega)]; omega⟩
    have hl := mc_l1 (x0 := ((n + 1 : Nat) : Int)) (L := levelS j) (by omega) (fun u hu => ⟨(h2 u hu).1, by have := (h2 u hu).2; omega⟩) (levelS j).length 0 (by omega) (by rw [HW.out]; exact ih)
    refine Ev.step (fun k => ?_) hl
    rw [spec_mcWords.l0, if_pos (by omega)]; rfl
theorem mcWords_ev {n : Nat} (hn : n ≤ 6) : Ev (fun k => spec_mcWords.f k (n : Int)) ((levelS n).map txtW) := by
  have := mc_l0 n 0 (by omega)
  rw [Nat.zero_add] at this
  exact this
end Go.Proofs.YtdffgeoegdkiaaaGreatDoor.F

namespace Go.Proofs.YtdffgeoegdkiaaaGreatDoor.F
open Go.Proofs.YtdffgeoegdkiaaaGreatDoor
open Go.RowKit Go.Proofs.YtdffgeoegdkiaaaGreatDoorW.PrintWords Go.Proofs.YtdffgeoegdkiaaaGreatDoorW.PrintLast Go.Proofs.YtdffgeoegdkiaaaGreatDoorW.PrintMore
attribute [local go_sem] max2_int min2_int max_two min_two max_three min_three max_four min_four
def impl_isGateNumber.f (a0 : Int) : Option (Bool) := (impl_within.f a0 0 15).bind fun t101 => (some t101)
set_option maxHeartbeats 8000000 in
set_option maxRecDepth 100000 in
theorem impl_isGateNumber.calls (a0 : Int) (r : Bool) (w : World) (h : impl_isGateNumber.f a0 = some r) :
  Calls Tryz.prog 77 #[.int .i64 a0] w fun e w' => e = .returned (.bool r) ∧ Drawn0 w w' := by
 have H : ((impl_within.f a0 0 15).bind fun t101 => (some t101)) = some r := h
 clear h
 obtain ⟨t101, A20, H⟩ := Option.bind_eq_some_iff.mp H
 have A2 := am A20
 clear A20
 obtain rfl := Option.some.inj H
 go_enter Tryz.func77, Tryz.ntmps77
 go_wp2_with (first | ((with_reducible refine gate_callee (f := 56) rfl ?_); refine goesL_ (some 4) rfl rfl Tryz.func56 (by kernel_rfl) rfl #[.int .i64 a0, .int .i64 0, .int .i64 15] rfl aq5 ?_; (with_reducible refine (impl_within.calls a0 0 15 t101 _ A2.out).mono ?_); rintro e w' ⟨rfl, ⟨nd, rfl⟩⟩; refine ⟨_, rfl, ?_⟩))
 go_ret
 exact ⟨aq7, aq11⟩
end Go.Proofs.YtdffgeoegdkiaaaGreatDoor.F
