/- The proof that the law's row holds, part 3: the kit's words, the printed walks and the plain law. No conditions beyond the card's own. -/
import Derived.Test.YtipjmlcbbimfpaaGreatDoorM0
import Derived.Test.YtipjmlcbbimfpaaGreatDoorM1
import Derived.Test.YtipjmlcbbimfpaaGreatDoorM2
namespace Go.Proofs.YtipjmlcbbimfpaaGreatDoor.F
open Go.Proofs.YtipjmlcbbimfpaaGreatDoor
open Go.RowKit Go.Proofs.YtipjmlcbbimfpaaGreatDoorW.PrintWords Go.Proofs.YtipjmlcbbimfpaaGreatDoorW.PrintLast Go.Proofs.YtipjmlcbbimfpaaGreatDoorW.PrintMore
attribute [local go_sem] max2_int min2_int max_two min_two max_three min_three max_four min_four   -- for this text's walks alone
set_option linter.unusedVariables false
set_option linter.unusedSimpArgs false
def spec_tyLeast.l0 : Nat → ByteArray → List (S66) → Int → Int → Option (ByteArray)
 | 0, _, _, _, _ => none
 | k + 1, x3, x10, x11, x12 => if x12 < x11 then (if 0 ≤ x12 then (if x12 < (x10.length : Int) then ((spec_tyText.f k ((rd_T66 x10 x12).f0) ((rd_T66 x10 x12).f1) ((rd_T66 x10 x12).f2)).bind fun t108 => (if (Op.bytesLess t108.toList x3.toList) = true then (spec_tyLeast.l0 k t108 x10 x11 (wrap64 (x12 + 1))) else (spec_tyLeast.l0 k x3 x10 x11 (wrap64 (x12 + 1))))) else (none)) else (none)) else (some x3)
def spec_tyLeast.f (k : Nat) (a0_0 : Int) (a0_1 : Int) (l0_2 : List Int) : Option (ByteArray) := (spec_tyText.f k a0_0 a0_1 l0_2).bind fun t102 => ((spec_tyEight.f k a0_0 a0_1 l0_2).bind fun t103 => (spec_tyLeast.l0 k t102 t103 (t103.length : Int) 0))
set_option maxHeartbeats 8000000 in
set_option maxRecDepth 100000 in
theorem spec_tyLeast.calls (k : Nat) (a0_0 : Int) (a0_1 : Int) (A0_2 : Option Addr) (c0_2 : Nat) (l0_2 : List Int) (r : ByteArray) (w : World) (hr0_2 : Kd.C (Kd.int .u8) w A0_2 l0_2.length l0_2) (hc0_2 : l0_2.length ≤ c0_2) (h : spec_tyLeast.f k a0_0 a0_1 l0_2 = some r) :
  Calls Tryz.prog 73 #[.agg #[.int .i64 a0_0, .int .i64 a0_1, .slice A0_2 l0_2.length c0_2]] w fun e w' => e = .returned (.string r) ∧ Below w.heap.size w w' := by
 have hu66 := Tryz.underlying66
 have HR0_2 := Aside0.mk hr0_2
 have HC0_2 := Aside0.mk hc0_2
 clear hr0_2 hc0_2
 have HB := Aside0.mk (Below.refl w.heap.size w)
 have H : ((spec_tyText.f k a0_0 a0_1 l0_2).bind fun t102 => ((spec_tyEight.f k a0_0 a0_1 l0_2).bind fun t103 => (spec_tyLeast.l0 k t102 t103 (t103.length : Int) 0))) = some r := h
 clear h
 replace H := Option.bind_eq_some_iff.mp H
 obtain ⟨t102, A20, H⟩ := H
 replace H : ((spec_tyEight.f k a0_0 a0_1 l0_2).bind fun t103 => (spec_tyLeast.l0 k t102 t103 (t103.length : Int) 0)) = some r := H
 have A2 := Aside0.mk A20
 clear A20
 replace H := Option.bind_eq_some_iff.mp H
 obtain ⟨t103, A30, H⟩ := H
 replace H : (spec_tyLeast.l0 k t102 t103 (t103.length : Int) 0) = some r := H
 have A3 := Aside0.mk A30
 clear A30
 have H' := Aside0.mk H
 clear H
 go_enter Tryz.func73, Tryz.ntmps73
 go_wp2_with (first | ((with_reducible refine gate_dst (N := 1) rfl ?_); refine box_event ?hg (N := 1) ?hd (cs := #[.int .i64 a0_0, .int .i64 a0_1, .slice A0_2 l0_2.length c0_2]) (t := 66) ?hr ?_; (case hd => rfl); (case hg => rfl); (case hr => exact aq23); intro gb101 hg w4 hbox hb; have n0_ := Aside0.mk (below_step aq0 hb); have n1_ := Aside0.mk (hbox); have n2_ := Aside0.mk ((by rw [hg]; exact (below_size aq0) : w.heap.size ≤ gb101)); have n3_ := Aside0.mk ((by rw [hg]; exact (below_size aq0) : w.heap.size ≤ gb101)); clear HB; have HB := n0_; have BK101 := n1_; have GW101 := n2_; have GE101 := n3_; clear n0_ n1_ n2_ n3_; clear hb hbox hg; have hcz5_0 : w4.cell? ⟨gb101, 0, none⟩ = some (.int .i64 a0_0) := (blk_cell BK101.out 0).trans rfl; have hcz5_1 : w4.cell? ⟨gb101, 1, none⟩ = some (.int .i64 a0_1) := (blk_cell BK101.out 1).trans rfl; have hcz5_2 : w4.cell? ⟨gb101, 2, none⟩ = some (.slice A0_2 l0_2.length c0_2) := (blk_cell BK101.out 2).trans rfl; have hfz5_0 := blk_frozen BK101.out 0; have hfz5_1 := blk_frozen BK101.out 1; have hfz5_2 := blk_frozen BK101.out 2) | ((with_reducible refine gate_callee (f := 76) rfl ?_); refine goesL_ (some 8) rfl rfl Tryz.func76 (by kernel_rfl) rfl #[.agg #[.int .i64 a0_0, .int .i64 a0_1, .slice A0_2 l0_2.length c0_2]] rfl aq1 ?_; (with_reducible refine (spec_tyText.calls k a0_0 a0_1 _ _ l0_2 t102 _ ?side1 ?side2 A2.out).mono ?_); (case side1 => exact aq73); (case side2 => exact HC0_2.out); rintro e w6 ⟨rfl, hb⟩; refine ⟨_, rfl, ?_⟩; have n0_ := Aside0.mk (blk_below (g := gb101) (o := .cells #[.int .i64 a0_0, .int .i64 a0_1, .slice A0_2 l0_2.length c0_2] 66 (0, 0)) aq5 hb); have n1_ := Aside0.mk (below_step aq6 hb); clear BK101; clear HB; have BK101 := n0_; have HB := n1_; clear n0_ n1_; (try clear hb); (try clear hb2); (try clear hk); (try clear hi); have hcz7_0 : w6.cell? ⟨gb101, 0, none⟩ = some (.int .i64 a0_0) := (blk_cell BK101.out 0).trans rfl; have hcz7_1 : w6.cell? ⟨gb101, 1, none⟩ = some (.int .i64 a0_1) := (blk_cell BK101.out 1).trans rfl; have hcz7_2 : w6.cell? ⟨gb101, 2, none⟩ = some (.slice A0_2 l0_2.length c0_2) := (blk_cell BK101.out 2).trans rfl; have hfz7_0 := blk_frozen BK101.out 0; have hfz7_1 := blk_frozen BK101.out 1; have hfz7_2 := blk_frozen BK101.out 2) | ((with_reducible refine gate_callee (f := 75) rfl ?_); refine goesL_ (some 10) rfl rfl Tryz.func75 (by kernel_rfl) rfl #[.agg #[.int .i64 a0_0, .int .i64 a0_1, .slice A0_2 l0_2.length c0_2]] rfl aq1 ?_; (with_reducible refine (spec_tyEight.calls k a0_0 a0_1 (fun k_ => k_ < w.heap.size) _ _ l0_2 t103 _ ?side1 A3.out).mono ?_); (case side1 => exact Kd.V_mk HC0_2.out (Kd.F_below (Kd.C_F (Kd.heap_int .u8) HR0_2.out) aq6)); rintro e w8 ⟨v104, rfl, ho0, hb⟩; refine ⟨_, rfl, ?_⟩; have n0_ := Aside0.mk (Kd.N_lower (Kd.N_mono (ok' := fun k_ => k_ ≠ gb101) ho0 (fun k_ hk_ => Or.elim hk_ (fun hs_ => fun e_ => Nat.not_le.2 hs_ (by rw [e_]; exact GW101.out)) (fun hn_ => (Kd.freshB (g := gb101) (o := .cells #[.int .i64 a0_0, .int .i64 a0_1, .slice A0_2 l0_2.length c0_2] 66 (0, 0)) aq5 k_ hn_)))) (below_size aq6)); have n1_ := Aside0.mk (blk_below (g := gb101) (o := .cells #[.int .i64 a0_0, .int .i64 a0_1, .slice A0_2 l0_2.length c0_2] 66 (0, 0)) aq5 hb); have n2_ := Aside0.mk (below_step aq6 hb); clear BK101; clear HB; have HO105 := n0_; have BK101 := n1_; have HB := n2_; clear n0_ n1_ n2_; (try clear hb); (try clear hb2); (try clear hk); (try clear hi); (try clear ho0); obtain ⟨Ao9, co9, eo9⟩ := Kd.N_slice HO105.out; subst eo9))
 go_loopg [3, 12] k (fun kq v3 v12 w' => ∃ (x3_1 : ByteArray) (x12_1 : Int), v3 = .string x3_1 ∧ v12 = .int .i64 x12_1 ∧ Aside0 (spec_tyLeast.l0 kq x3_1 t103 (t103.length : Int) x12_1 = some r) ∧ Aside0 (kq ≤ k) ∧ Aside0 (Kd.N k66 66 w' w.heap.size (fun k_ => k_ ≠ gb101) (.slice Ao9 t103.length co9) t103) ∧ Aside0 (w'.heap[gb101]? = some (.cells #[.int .i64 a0_0, .int .i64 a0_1, (.slice A0_2 l0_2.length c0_2)] 66 (0, 0))) ∧ Aside0 (Below w.heap.size w w'))
 case atStart => exact ⟨(t102), (0), aq11, aq11, H', ⟨Nat.le_refl _⟩, ⟨by (with_reducible repeat (first | apply Kd.N_alloc | apply Kd.N_drewN | apply Kd.N_drew)); exact HO105.out⟩, ⟨aq5⟩, ⟨aq6⟩⟩
 case round =>
  clear H'
  try clear p2
  try clear c7
  try clear hcz5_0
  try clear hcz5_1
  try clear hcz5_2
  try clear hcz7_0
  try clear hcz7_1
  try clear hcz7_2
  try clear hfz5_0
  try clear hfz5_1
  try clear hfz5_2
  try clear hfz7_0
  try clear hfz7_1
  try clear hfz7_2
  obtain ⟨x3_1, x12_1, rfl, rfl, HA, HK1, HO_10, BK101, HB⟩ := hrel
  cases gk with
  | zero => exact absurd HA.out (by simp [spec_tyLeast.l0])
  | succ k1 =>
   have H := HA.out
   clear HA
   simp only [spec_tyLeast.l0] at H
   by_cases c10 : x12_1 < (t103.length : Int)
   ·rw [if_pos c10] at H
    have c10b0 : decide (x12_1 < (t103.length : Int)) = true := decide_eq_true c10
    clear c10
    by_cases c11 : 0 ≤ x12_1
    ·rw [if_pos c11] at H
     have c11b0 : decide (0 ≤ x12_1) = true := decide_eq_true c11
     clear c11
     by_cases c12 : x12_1 < (t103.length : Int)
     ·rw [if_pos c12] at H
      have c12b0 : decide (x12_1 < (t103.length : Int)) = true := decide_eq_true c12
      clear c12
      replace H := Option.bind_eq_some_iff.mp H
      obtain ⟨t108, A130, H⟩ := H
      replace H : (if (Op.bytesLess t108.toList x3_1.toList) = true then (spec_tyLeast.l0 k1 t108 t103 (t103.length : Int) (wrap64 (x12_1 + 1))) else (spec_tyLeast.l0 k1 x3_1 t103 (t103.length : Int) (wrap64 (x12_1 + 1)))) = some r := H
      have A13 := Aside0.mk A130
      clear A130
      by_cases c14 : (Op.bytesLess t108.toList x3_1.toList) = true
      ·rw [if_pos c14] at H
       have c14b0 : (Op.bytesLess t108.toList x3_1.toList) = true := c14
       clear c14
       have H' := Aside0.mk H
       clear H
       have p106 : 0 ≤ (x12_1 : Int) := of_decide_eq_true aq9
       have q106 : x12_1 < (t103.length : Int) := of_decide_eq_true aq9
       obtain ⟨ad106, A106_2, c106_2, e106, hx106_0, hx106_1, hx106_2, hl106_2, hi106_2⟩ := at_T66 (Kd.N_reads' HO_10.out).2.2 x12_1 p106 q106
       cases e106
       obtain ⟨ce106, hce106, hMe106, hcc106⟩ := Kd.N_get HO_10.out z66 x12_1 p106 (by first | exact q106 | exact of_decide_eq_true aq9 | (have e_ := (Kd.N_reads' HO_10.out).1; omega))
       obtain ⟨ua106_2, uc106_2, rfl, ul106_2, ge106_2⟩ := k66_openF hMe106
       have hv106_2 := hcc106 2 _ rfl
       rw [add_field _ _ 2 (by omega)] at hv106_2
       replace hv106_2 := Option.some.inj (hv106_2.symm.trans hx106_2)
       injection hv106_2 with hva_ hvn_ hvc_
       rw [hva_] at ge106_2
       rw [hvc_] at ul106_2
       have HL106_2 := Aside0.mk (show Kd.V (Kd.int .u8) 5 _ w.heap.size _ _ ((rd_T66 t103 x12_1).f2) from Kd.V_mk ul106_2 ge106_2)
       clear hva_ hvn_ hvc_ ge106_2 ul106_2
       clear hcc106 hce106
       have HR106_2 := Aside0.mk hi106_2
       have HC106_2 := Aside0.mk hl106_2
       clear hi106_2 hl106_2
       replace p106 := eq_true p106
       replace q106 := eq_true q106
       go_wp2_with (first | ((with_reducible refine gate_dst (N := 5) rfl ?_); refine box_event ?hg (N := 5) ?hd (cs := #[.int .i64 0, .int .i64 0, .slice none 0 0]) (t := 66) ?hr ?_; (case hd => rfl); (case hg => rfl); (case hr => exact aq23); intro gb107 hg w15 hbox hb; have n0_ := Aside0.mk (Kd.N_below (Kd.N_elderB (by (with_reducible repeat (first | apply Kd.N_alloc | apply Kd.N_drewN | apply Kd.N_drew)); exact HO_10.out) gb107 (Nat.le_of_eq hg.symm)) hb); have n1_ := Aside0.mk (Kd.V_below (Kd.V_elderB (by (with_reducible repeat (first | apply Kd.V_alloc | apply Kd.V_drewN | apply Kd.V_drew)); exact HL106_2.out) gb107 (Nat.le_of_eq hg.symm)) hb); have n2_ := Aside0.mk (blk_below (g := gb101) (o := .cells #[.int .i64 a0_0, .int .i64 a0_1, .slice A0_2 l0_2.length c0_2] 66 (0, 0)) aq5 hb); have n3_ := Aside0.mk (Kd.C_below aq95 hb); have n4_ := Aside0.mk (below_step aq6 hb); have n5_ := Aside0.mk (hbox); have n6_ := Aside0.mk ((by rw [hg]; exact (below_size aq6) : w.heap.size ≤ gb107)); have n7_ := Aside0.mk ((by rw [hg]; exact (below_size aq6) : w.heap.size ≤ gb107)); have n8_ := Aside0.mk ((by rw [hg]; exact Nat.ne_of_lt (blk_lt (g := gb101) (o := .cells #[.int .i64 a0_0, .int .i64 a0_1, .slice A0_2 l0_2.length c0_2] 66 (0, 0)) aq5) : gb101 ≠ gb107)); have n9_ := Aside0.mk ((by rw [hg]; exact Nat.ne_of_gt (blk_lt (g := gb101) (o := .cells #[.int .i64 a0_0, .int .i64 a0_1, .slice A0_2 l0_2.length c0_2] 66 (0, 0)) aq5) : gb107 ≠ gb101)); clear HO_10; clear HL106_2; clear BK101; clear HR106_2; clear HB; have HO_10 := n0_; have HL106_2 := n1_; have BK101 := n2_; have HR106_2 := n3_; have HB := n4_; have BK107 := n5_; have GW107 := n6_; have GE107 := n7_; have NB101_107 := n8_; have NB107_101 := n9_; clear n0_ n1_ n2_ n3_ n4_ n5_ n6_ n7_ n8_ n9_; clear hb hbox hg; have hnb16 := NB107_101.out; have hnc16 := NB101_107.out; have hcz17_0 : w15.cell? ⟨gb107, 0, none⟩ = some (.int .i64 0) := (blk_cell BK107.out 0).trans rfl; have hcz17_1 : w15.cell? ⟨gb107, 1, none⟩ = some (.int .i64 0) := (blk_cell BK107.out 1).trans rfl; have hcz17_2 : w15.cell? ⟨gb107, 2, none⟩ = some (.slice none 0 0) := (blk_cell BK107.out 2).trans rfl; have hfz17_0 := blk_frozen BK107.out 0; have hfz17_1 := blk_frozen BK107.out 1; have hfz17_2 := blk_frozen BK107.out 2) | ((with_reducible refine gate_callee (f := 76) rfl ?_); refine goesL_ (some 17) rfl rfl Tryz.func76 (by kernel_rfl) rfl #[.agg #[.int .i64 ((rd_T66 t103 x12_1).f0), .int .i64 ((rd_T66 t103 x12_1).f1), .slice A106_2 ((rd_T66 t103 x12_1).f2).length c106_2]] rfl aq1 ?_; (with_reducible refine (spec_tyText.calls k1 ((rd_T66 t103 x12_1).f0) ((rd_T66 t103 x12_1).f1) _ _ ((rd_T66 t103 x12_1).f2) t108 _ ?side1 ?side2 A13.out).mono ?_); (case side1 => exact aq100); (case side2 => exact HC106_2.out); rintro e w18 ⟨rfl, hb⟩; refine ⟨_, rfl, ?_⟩; have n0_ := Aside0.mk (Kd.N_below aq62 hb); have n1_ := Aside0.mk (Kd.V_below aq21 hb); have n2_ := Aside0.mk (blk_below (g := gb101) (o := .cells #[.int .i64 a0_0, .int .i64 a0_1, .slice A0_2 l0_2.length c0_2] 66 (0, 0)) aq55 hb); have n3_ := Aside0.mk (Kd.C_below ((Kd.V_reads' aq21).2.2) hb); have n4_ := Aside0.mk (blk_below (g := gb107) (o := .cells #[.int .i64 ((rd_T66 t103 x12_1).f0), .int .i64 ((rd_T66 t103 x12_1).f1), .slice A106_2 ((rd_T66 t103 x12_1).f2).length c106_2] 66 (0, 0)) aq75 hb); have n5_ := Aside0.mk (below_step aq51 hb); clear HO_10; clear HL106_2; clear BK101; clear HR106_2; clear BK107; clear HB; have HO_10 := n0_; have HL106_2 := n1_; have BK101 := n2_; have HR106_2 := n3_; have BK107 := n4_; have HB := n5_; clear n0_ n1_ n2_ n3_ n4_ n5_; (try clear hb); (try clear hb2); (try clear hk); (try clear hi)))
       go_roundg k1
       case measure => have := HK1.out; omega
       case rel => exact ⟨(t108), (wrap64 (x12_1 + 1)), aq11, aq11, H', ⟨aq83⟩, ⟨aq104⟩, ⟨aq5⟩, ⟨aq51⟩⟩
      ·rw [if_neg c14] at H
       have c14b0 : (Op.bytesLess t108.toList x3_1.toList) = false := by simpa using c14
       clear c14
       have H' := Aside0.mk H
       clear H
       have p106 : 0 ≤ (x12_1 : Int) := of_decide_eq_true aq9
       have q106 : x12_1 < (t103.length : Int) := of_decide_eq_true aq9
       obtain ⟨ad106, A106_2, c106_2, e106, hx106_0, hx106_1, hx106_2, hl106_2, hi106_2⟩ := at_T66 (Kd.N_reads' HO_10.out).2.2 x12_1 p106 q106
       cases e106
       obtain ⟨ce106, hce106, hMe106, hcc106⟩ := Kd.N_get HO_10.out z66 x12_1 p106 (by first | exact q106 | exact of_decide_eq_true aq9 | (have e_ := (Kd.N_reads' HO_10.out).1; omega))
       obtain ⟨ua106_2, uc106_2, rfl, ul106_2, ge106_2⟩ := k66_openF hMe106
       have hv106_2 := hcc106 2 _ rfl
       rw [add_field _ _ 2 (by omega)] at hv106_2
       replace hv106_2 := Option.some.inj (hv106_2.symm.trans hx106_2)
       injection hv106_2 with hva_ hvn_ hvc_
       rw [hva_] at ge106_2
       rw [hvc_] at ul106_2
       have HL106_2 := Aside0.mk (show Kd.V (Kd.int .u8) 5 _ w.heap.size _ _ ((rd_T66 t103 x12_1).f2) from Kd.V_mk ul106_2 ge106_2)
       clear hva_ hvn_ hvc_ ge106_2 ul106_2
       clear hcc106 hce106
       have HR106_2 := Aside0.mk hi106_2
       have HC106_2 := Aside0.mk hl106_2
       clear hi106_2 hl106_2
       replace p106 := eq_true p106
       replace q106 := eq_true q106
       go_wp2_with (first | ((with_reducible refine gate_dst (N := 5) rfl ?_); refine box_event ?hg (N := 5) ?hd (cs := #[.int .i64 0, .int .i64 0, .slice none 0 0]) (t := 66) ?hr ?_; (case hd => rfl); (case hg => rfl); (case hr => exact aq23); intro gb107 hg w19 hbox hb; have n0_ := Aside0.mk (Kd.N_below (Kd.N_elderB (by (with_reducible repeat (first | apply Kd.N_alloc | apply Kd.N_drewN | apply Kd.N_drew)); exact HO_10.out) gb107 (Nat.le_of_eq hg.symm)) hb); have n1_ := Aside0.mk (Kd.V_below (Kd.V_elderB (by (with_reducible repeat (first | apply Kd.V_alloc | apply Kd.V_drewN | apply Kd.V_drew)); exact HL106_2.out) gb107 (Nat.le_of_eq hg.symm)) hb); have n2_ := Aside0.mk (blk_below (g := gb101) (o := .cells #[.int .i64 a0_0, .int .i64 a0_1, .slice A0_2 l0_2.length c0_2] 66 (0, 0)) aq5 hb); have n3_ := Aside0.mk (Kd.C_below aq95 hb); have n4_ := Aside0.mk (below_step aq6 hb); have n5_ := Aside0.mk (hbox); have n6_ := Aside0.mk ((by rw [hg]; exact (below_size aq6) : w.heap.size ≤ gb107)); have n7_ := Aside0.mk ((by rw [hg]; exact (below_size aq6) : w.heap.size ≤ gb107)); have n8_ := Aside0.mk ((by rw [hg]; exact Nat.ne_of_lt (blk_lt (g := gb101) (o := .cells #[.int .i64 a0_0, .int .i64 a0_1, .slice A0_2 l0_2.length c0_2] 66 (0, 0)) aq5) : gb101 ≠ gb107)); have n9_ := Aside0.mk ((by rw [hg]; exact Nat.ne_of_gt (blk_lt (g := gb101) (o := .cells #[.int .i64 a0_0, .int .i64 a0_1, .slice A0_2 l0_2.length c0_2] 66 (0, 0)) aq5) : gb107 ≠ gb101)); clear HO_10; clear HL106_2; clear BK101; clear HR106_2; clear HB; have HO_10 := n0_; have HL106_2 := n1_; have BK101 := n2_; have HR106_2 := n3_; have HB := n4_; have BK107 := n5_; have GW107 := n6_; have GE107 := n7_; have NB101_107 := n8_; have NB107_101 := n9_; clear n0_ n1_ n2_ n3_ n4_ n5_ n6_ n7_ n8_ n9_; clear hb hbox hg; have hnb20 := NB107_101.out; have hnc20 := NB101_107.out; have hcz21_0 : w19.cell? ⟨gb107, 0, none⟩ = some (.int .i64 0) := (blk_cell BK107.out 0).trans rfl; have hcz21_1 : w19.cell? ⟨gb107, 1, none⟩ = some (.int .i64 0) := (blk_cell BK107.out 1).trans rfl; have hcz21_2 : w19.cell? ⟨gb107, 2, none⟩ = some (.slice none 0 0) := (blk_cell BK107.out 2).trans rfl; have hfz21_0 := blk_frozen BK107.out 0; have hfz21_1 := blk_frozen BK107.out 1; have hfz21_2 := blk_frozen BK107.out 2) | ((with_reducible refine gate_callee (f := 76) rfl ?_); refine goesL_ (some 17) rfl rfl Tryz.func76 (by kernel_rfl) rfl #[.agg #[.int .i64 ((rd_T66 t103 x12_1).f0), .int .i64 ((rd_T66 t103 x12_1).f1), .slice A106_2 ((rd_T66 t103 x12_1).f2).length c106_2]] rfl aq1 ?_; (with_reducible refine (spec_tyText.calls k1 ((rd_T66 t103 x12_1).f0) ((rd_T66 t103 x12_1).f1) _ _ ((rd_T66 t103 x12_1).f2) t108 _ ?side1 ?side2 A13.out).mono ?_); (case side1 => exact aq100); (case side2 => exact HC106_2.out); rintro e w22 ⟨rfl, hb⟩; refine ⟨_, rfl, ?_⟩; have n0_ := Aside0.mk (Kd.N_below aq62 hb); have n1_ := Aside0.mk (Kd.V_below aq21 hb); have n2_ := Aside0.mk (blk_below (g := gb101) (o := .cells #[.int .i64 a0_0, .int .i64 a0_1, .slice A0_2 l0_2.length c0_2] 66 (0, 0)) aq55 hb); have n3_ := Aside0.mk (Kd.C_below ((Kd.V_reads' aq21).2.2) hb); have n4_ := Aside0.mk (blk_below (g := gb107) (o := .cells #[.int .i64 ((rd_T66 t103 x12_1).f0), .int .i64 ((rd_T66 t103 x12_1).f1), .slice A106_2 ((rd_T66 t103 x12_1).f2).length c106_2] 66 (0, 0)) aq75 hb); have n5_ := Aside0.mk (below_step aq51 hb); clear HO_10; clear HL106_2; clear BK101; clear HR106_2; clear BK107; clear HB; have HO_10 := n0_; have HL106_2 := n1_; have BK101 := n2_; have HR106_2 := n3_; have BK107 := n4_; have HB := n5_; clear n0_ n1_ n2_ n3_ n4_ n5_; (try clear hb); (try clear hb2); (try clear hk); (try clear hi)))
       go_roundg k1
       case measure => have := HK1.out; omega
       case rel => exact ⟨(x3_1), (wrap64 (x12_1 + 1)), aq11, aq11, H', ⟨aq83⟩, ⟨aq104⟩, ⟨aq5⟩, ⟨aq51⟩⟩
     ·rw [if_neg c12] at H
      exact absurd H (by simp)
    ·rw [if_neg c11] at H
     exact absurd H (by simp)
   ·rw [if_neg c10] at H
    have c10b0 : decide (x12_1 < (t103.length : Int)) = false := decide_eq_false c10
    clear c10
    obtain rfl := Option.some.inj H
    go_wp2
    go_ret
    exact ⟨aq8, aq6⟩
end Go.Proofs.YtipjmlcbbimfpaaGreatDoor.F

namespace Go.Proofs.YtipjmlcbbimfpaaGreatDoor.F
open Go.Proofs.YtipjmlcbbimfpaaGreatDoor
open Go.RowKit Go.Proofs.YtipjmlcbbimfpaaGreatDoorW.PrintWords Go.Proofs.YtipjmlcbbimfpaaGreatDoorW.PrintLast Go.Proofs.YtipjmlcbbimfpaaGreatDoorW.PrintMore
attribute [local go_sem] max2_int min2_int max_two min_two max_three min_three max_four min_four   -- for this text's walks alone
set_option linter.unusedVariables false
set_option linter.unusedSimpArgs false
def spec_LeastTray.f (k : Nat) (a0 : ByteArray) : Option (ByteArray × Bool) := (spec_tyRead.f k a0).bind fun bt101 => (if bt101.2.2.2 = true then ((spec_tyLeast.f k bt101.1 bt101.2.1 bt101.2.2.1).bind fun t108 => (some (t108, true))) else (some ((⟨#[]⟩ : ByteArray), false)))
set_option maxHeartbeats 8000000 in
set_option maxRecDepth 100000 in
theorem spec_LeastTray.calls (k : Nat) (a0 : ByteArray) (r1 : ByteArray) (r2 : Bool) (w : World) (h : spec_LeastTray.f k a0 = some (r1, r2)) :
  Calls Tryz.prog 9 #[.string a0] w fun e w' => e = .returned (.tuple #[.string r1, .bool r2]) ∧ Below w.heap.size w w' := by
 have hu66 := Tryz.underlying66
 have HB := Aside0.mk (Below.refl w.heap.size w)
 have H : ((spec_tyRead.f k a0).bind fun bt101 => (if bt101.2.2.2 = true then ((spec_tyLeast.f k bt101.1 bt101.2.1 bt101.2.2.1).bind fun t108 => (some (t108, true))) else (some ((⟨#[]⟩ : ByteArray), false)))) = some (r1, r2) := h
 clear h
 replace H := Option.bind_eq_some_iff.mp H
 obtain ⟨⟨t101, t102, t103, t106⟩, A20, H⟩ := H
 replace H : (if t106 = true then ((spec_tyLeast.f k t101 t102 t103).bind fun t108 => (some (t108, true))) else (some ((⟨#[]⟩ : ByteArray), false))) = some (r1, r2) := H
 have A2 := Aside0.mk A20
 clear A20
 by_cases c3 : t106 = true
 ·subst c3
  have H1 : ((spec_tyLeast.f k t101 t102 t103).bind fun t108 => (some (t108, true))) = some (r1, r2) := by rw [if_pos rfl] at H; exact H
  clear H
  have H := H1
  clear H1
  replace H := Option.bind_eq_some_iff.mp H
  obtain ⟨t108, A40, H⟩ := H
  replace H : (some (t108, true)) = some (r1, r2) := H
  have A4 := Aside0.mk A40
  clear A40
  simp only [Option.some.injEq, Prod.mk.injEq] at H
  obtain ⟨rfl, rfl⟩ := H
  go_enter Tryz.func9, Tryz.ntmps9
  go_wp2_with (first | ((with_reducible refine gate_callee (f := 72) rfl ?_); refine goesL_ (some 8) rfl rfl Tryz.func72 (by kernel_rfl) rfl #[.string a0] rfl aq1 ?_; (with_reducible refine (spec_tyRead.calls k a0 t101 t102 t103 true _ A2.out).mono ?_); rintro e w5 ⟨v104, rfl, ho0, hb⟩; refine ⟨_, rfl, ?_⟩; have n0_ := Aside0.mk (Kd.R_lower ho0 (below_size aq0)); have n1_ := Aside0.mk (below_step aq0 hb); clear HB; have HO105 := n0_; have HB := n1_; clear n0_ n1_; (try clear hb); (try clear hb2); (try clear hk); (try clear hi); (try clear ho0)) | ((with_reducible refine gate_dst (N := 4) rfl ?_); refine box_event ?hg (N := 4) ?hd (cs := #[.int .i64 0, .int .i64 0, .slice none 0 0]) (t := 66) ?hr ?_; (case hd => rfl); (case hg => rfl); (case hr => exact aq23); intro gb107 hg w6 hbox hb; have n0_ := Aside0.mk (Kd.R_below aq15 hb); have n1_ := Aside0.mk (below_step aq0 hb); have n2_ := Aside0.mk (hbox); have n3_ := Aside0.mk ((by rw [hg]; exact (below_size aq0) : w.heap.size ≤ gb107)); have n4_ := Aside0.mk ((by rw [hg]; exact (below_size aq0) : w.heap.size ≤ gb107)); clear HO105; clear HB; have HO105 := n0_; have HB := n1_; have BK107 := n2_; have GW107 := n3_; have GE107 := n4_; clear n0_ n1_ n2_ n3_ n4_; clear hb hbox hg; have hcz7_0 : w6.cell? ⟨gb107, 0, none⟩ = some (.int .i64 0) := (blk_cell BK107.out 0).trans rfl; have hcz7_1 : w6.cell? ⟨gb107, 1, none⟩ = some (.int .i64 0) := (blk_cell BK107.out 1).trans rfl; have hcz7_2 : w6.cell? ⟨gb107, 2, none⟩ = some (.slice none 0 0) := (blk_cell BK107.out 2).trans rfl; have hfz7_0 := blk_frozen BK107.out 0; have hfz7_1 := blk_frozen BK107.out 1; have hfz7_2 := blk_frozen BK107.out 2; obtain ⟨Ao8, co8, eo8⟩ := Kd.R_slice HO105.out; subst eo8) | ((with_reducible refine gate_callee (f := 73) rfl ?_); refine goesL_ (some 14) rfl rfl Tryz.func73 (by kernel_rfl) rfl #[.agg #[.int .i64 t101, .int .i64 t102, .slice Ao8 t103.length co8]] rfl aq1 ?_; (with_reducible refine (spec_tyLeast.calls k t101 t102 _ _ t103 t108 _ ?side1 ?side2 A4.out).mono ?_); (case side1 => refine (Kd.R_reads' (e := 5) (base := w.heap.size) (ok := fun k_ => True) (n := t103.length) (c := co8) ?_).2.2; exact aq67); (case side2 => exact aq98); rintro e w9 ⟨rfl, hb⟩; refine ⟨_, rfl, ?_⟩; have n0_ := Aside0.mk (Kd.R_below aq67 hb); have n1_ := Aside0.mk (blk_below (g := gb107) (o := .cells #[.int .i64 t101, .int .i64 t102, .slice Ao8 t103.length co8] 66 (0, 0)) aq12 hb); have n2_ := Aside0.mk (below_step aq10 hb); clear HO105; clear BK107; clear HB; have HO105 := n0_; have BK107 := n1_; have HB := n2_; clear n0_ n1_ n2_; (try clear hb); (try clear hb2); (try clear hk); (try clear hi)))
  go_ret2
  exact ⟨aq8, aq10⟩
 ·replace c3 := Bool.eq_false_iff.mpr c3
  subst c3
  have H1 : (some ((⟨#[]⟩ : ByteArray), false)) = some (r1, r2) := by rw [if_neg (show ¬ (false = true) by decide)] at H; exact H
  clear H
  have H := H1
  clear H1
  simp only [Option.some.injEq, Prod.mk.injEq] at H
  obtain ⟨rfl, rfl⟩ := H
  go_enter Tryz.func9, Tryz.ntmps9
  go_wp2_with (first | ((with_reducible refine gate_callee (f := 72) rfl ?_); refine goesL_ (some 8) rfl rfl Tryz.func72 (by kernel_rfl) rfl #[.string a0] rfl aq1 ?_; (with_reducible refine (spec_tyRead.calls k a0 t101 t102 t103 false _ A2.out).mono ?_); rintro e w10 ⟨v104, rfl, ho0, hb⟩; refine ⟨_, rfl, ?_⟩; have n0_ := Aside0.mk (Kd.R_lower ho0 (below_size aq0)); have n1_ := Aside0.mk (below_step aq0 hb); clear HB; have HO105 := n0_; have HB := n1_; clear n0_ n1_; (try clear hb); (try clear hb2); (try clear hk); (try clear hi); (try clear ho0)) | ((with_reducible refine gate_dst (N := 4) rfl ?_); refine box_event ?hg (N := 4) ?hd (cs := #[.int .i64 0, .int .i64 0, .slice none 0 0]) (t := 66) ?hr ?_; (case hd => rfl); (case hg => rfl); (case hr => exact aq23); intro gb107 hg w11 hbox hb; have n0_ := Aside0.mk (Kd.R_below aq15 hb); have n1_ := Aside0.mk (below_step aq0 hb); have n2_ := Aside0.mk (hbox); have n3_ := Aside0.mk ((by rw [hg]; exact (below_size aq0) : w.heap.size ≤ gb107)); have n4_ := Aside0.mk ((by rw [hg]; exact (below_size aq0) : w.heap.size ≤ gb107)); clear HO105; clear HB; have HO105 := n0_; have HB := n1_; have BK107 := n2_; have GW107 := n3_; have GE107 := n4_; clear n0_ n1_ n2_ n3_ n4_; clear hb hbox hg; have hcz12_0 : w11.cell? ⟨gb107, 0, none⟩ = some (.int .i64 0) := (blk_cell BK107.out 0).trans rfl; have hcz12_1 : w11.cell? ⟨gb107, 1, none⟩ = some (.int .i64 0) := (blk_cell BK107.out 1).trans rfl; have hcz12_2 : w11.cell? ⟨gb107, 2, none⟩ = some (.slice none 0 0) := (blk_cell BK107.out 2).trans rfl; have hfz12_0 := blk_frozen BK107.out 0; have hfz12_1 := blk_frozen BK107.out 1; have hfz12_2 := blk_frozen BK107.out 2; obtain ⟨Ao13, co13, eo13⟩ := Kd.R_slice HO105.out; subst eo13))
  go_ret2
  exact ⟨aq8, aq10⟩
end Go.Proofs.YtipjmlcbbimfpaaGreatDoor.F

namespace Go.Proofs.YtipjmlcbbimfpaaGreatDoor.F
open Go.Proofs.YtipjmlcbbimfpaaGreatDoor
open Go.RowKit Go.Proofs.YtipjmlcbbimfpaaGreatDoorW.PrintWords Go.Proofs.YtipjmlcbbimfpaaGreatDoorW.PrintLast Go.Proofs.YtipjmlcbbimfpaaGreatDoorW.PrintMore
attribute [local go_sem] max2_int min2_int max_two min_two max_three min_three max_four min_four   -- for this text's walks alone
set_option linter.unusedVariables false
set_option linter.unusedSimpArgs false
def impl_bit.f (a0 : Bool) : Option (Int) := if a0 = true then (some 1) else (some 0)
set_option maxHeartbeats 8000000 in
set_option maxRecDepth 100000 in
theorem impl_bit.calls (a0 : Bool) (r : Int) (w : World) (h : impl_bit.f a0 = some r) :
  Calls Tryz.prog 74 #[.bool a0] w fun e w' => e = .returned (.int .i64 r) ∧ Drawn0 w w' := by
 have H : (if a0 = true then (some 1) else (some 0)) = some r := h
 clear h
 by_cases c2 : a0 = true
 ·subst c2
  have H1 : (some 1) = some r := by rw [if_pos rfl] at H; exact H
  clear H
  have H := H1
  clear H1
  obtain rfl := Option.some.inj H
  go_enter Tryz.func74, Tryz.ntmps74
  go_wp2
  go_ret
  exact ⟨aq11, aq29⟩
 ·replace c2 := Bool.eq_false_iff.mpr c2
  subst c2
  have H1 : (some 0) = some r := by rw [if_neg (show ¬ (false = true) by decide)] at H; exact H
  clear H
  have H := H1
  clear H1
  obtain rfl := Option.some.inj H
  go_enter Tryz.func74, Tryz.ntmps74
  go_wp2
  go_ret
  exact ⟨aq11, aq29⟩
end Go.Proofs.YtipjmlcbbimfpaaGreatDoor.F

namespace Go.Proofs.YtipjmlcbbimfpaaGreatDoor.F
open Go.Proofs.YtipjmlcbbimfpaaGreatDoor
open Go.RowKit Go.Proofs.YtipjmlcbbimfpaaGreatDoorW.PrintWords Go.Proofs.YtipjmlcbbimfpaaGreatDoorW.PrintLast Go.Proofs.YtipjmlcbbimfpaaGreatDoorW.PrintMore
attribute [local go_sem] max2_int min2_int max_two min_two max_three min_three max_four min_four   -- for this text's walks alone
set_option linter.unusedVariables false
set_option linter.unusedSimpArgs false
def impl_KeepersOf.l0 : Nat → ByteArray → Int → List ByteArray → Int → Int → Option (Int × Bool)
 | 0, _, _, _, _, _ => none
 | k + 1, x0, x4, x12, x13, x14 => if x14 < x13 then (if 0 ≤ x14 then (if x14 < (x12.length : Int) then ((impl_bit.f ((rdOf ByteArray.empty x12 x14).toList == x0.toList)).bind fun t111 => (impl_KeepersOf.l0 k x0 (wrap64 (x4 + t111)) x12 x13 (wrap64 (x14 + 1)))) else (none)) else (none)) else (some (x4, true))
def impl_KeepersOf.f (k : Nat) (a0 : ByteArray) : Option (Int × Bool) := (impl_IsTray.f k a0).bind fun t101 => (if t101 = true then ((impl_read.f a0).bind fun bt102 => ((impl_tray_eight.f k bt102.1 bt102.2.1 bt102.2.2).bind fun t107 => (impl_KeepersOf.l0 k a0 0 t107 (t107.length : Int) 0))) else (some (0, false)))
set_option maxHeartbeats 8000000 in
set_option maxRecDepth 100000 in
theorem impl_KeepersOf.calls (k : Nat) (a0 : ByteArray) (r1 : Int) (r2 : Bool) (w : World) (h : impl_KeepersOf.f k a0 = some (r1, r2)) :
  Calls Tryz.prog 10 #[.string a0] w fun e w' => e = .returned (.tuple #[.int .i64 r1, .bool r2]) ∧ Below w.heap.size w w' := by
 have HB := Aside0.mk (Below.refl w.heap.size w)
 have H : ((impl_IsTray.f k a0).bind fun t101 => (if t101 = true then ((impl_read.f a0).bind fun bt102 => ((impl_tray_eight.f k bt102.1 bt102.2.1 bt102.2.2).bind fun t107 => (impl_KeepersOf.l0 k a0 0 t107 (t107.length : Int) 0))) else (some (0, false)))) = some (r1, r2) := h
 clear h
 replace H := Option.bind_eq_some_iff.mp H
 obtain ⟨t101, A20, H⟩ := H
 replace H : (if t101 = true then ((impl_read.f a0).bind fun bt102 => ((impl_tray_eight.f k bt102.1 bt102.2.1 bt102.2.2).bind fun t107 => (impl_KeepersOf.l0 k a0 0 t107 (t107.length : Int) 0))) else (some (0, false))) = some (r1, r2) := H
 have A2 := Aside0.mk A20
 clear A20
 by_cases c3 : t101 = true
 ·subst c3
  have H1 : ((impl_read.f a0).bind fun bt102 => ((impl_tray_eight.f k bt102.1 bt102.2.1 bt102.2.2).bind fun t107 => (impl_KeepersOf.l0 k a0 0 t107 (t107.length : Int) 0))) = some (r1, r2) := by rw [if_pos rfl] at H; exact H
  clear H
  have H := H1
  clear H1
  replace H := Option.bind_eq_some_iff.mp H
  obtain ⟨⟨t102, t103, t104⟩, A40, H⟩ := H
  replace H : ((impl_tray_eight.f k t102 t103 t104).bind fun t107 => (impl_KeepersOf.l0 k a0 0 t107 (t107.length : Int) 0)) = some (r1, r2) := H
  have A4 := Aside0.mk A40
  clear A40
  replace H := Option.bind_eq_some_iff.mp H
  obtain ⟨t107, A50, H⟩ := H
  replace H : (impl_KeepersOf.l0 k a0 0 t107 (t107.length : Int) 0) = some (r1, r2) := H
  have A5 := Aside0.mk A50
  clear A50
  have H' := Aside0.mk H
  clear H
  go_enter Tryz.func10, Tryz.ntmps10
  go_wp2_with (first | ((with_reducible refine gate_callee (f := 18) rfl ?_); refine goesL_ (some 8) rfl rfl Tryz.func18 (by kernel_rfl) rfl #[.string a0] rfl aq1 ?_; (with_reducible refine (impl_IsTray.calls k a0 true _ A2.out).mono ?_); rintro e w6 ⟨rfl, hb⟩; refine ⟨_, rfl, ?_⟩; have n0_ := Aside0.mk (below_step aq0 hb); clear HB; have HB := n0_; clear n0_; (try clear hb); (try clear hb2); (try clear hk); (try clear hi)) | ((with_reducible refine gate_callee (f := 70) rfl ?_); refine goesL_ (some 11) rfl rfl Tryz.func70 (by kernel_rfl) rfl #[.string a0] rfl aq1 ?_; (with_reducible refine (impl_read.calls a0 t102 t103 t104 _ A4.out).mono ?_); rintro e w7 ⟨v105, rfl, ho0, hb⟩; refine ⟨_, rfl, ?_⟩; have n0_ := Aside0.mk (Kd.V_lower (Kd.V_mono (ok' := fun k_ => True) ho0 (fun k_ hk_ => trivial)) (below_size aq0)); have n1_ := Aside0.mk (below_step aq0 hb); clear HB; have HO106 := n0_; have HB := n1_; clear n0_ n1_; (try clear hb); (try clear hb2); (try clear hk); (try clear hi); (try clear ho0); obtain ⟨Ao8, co8, eo8⟩ := Kd.V_slice HO106.out; subst eo8) | ((with_reducible refine gate_callee (f := 71) rfl ?_); refine goesL_ (some 12) rfl rfl Tryz.func71 (by kernel_rfl) rfl #[.agg #[.int .i64 t102, .int .i64 t103, .slice Ao8 t104.length co8]] rfl aq1 ?_; (with_reducible refine (impl_tray_eight.calls k t102 t103 _ _ t104 t107 _ ?side1 ?side2 A5.out).mono ?_); (case side1 => exact aq47); (case side2 => exact (Kd.V_reads' HO106.out).2.1); rintro e w9 ⟨v108, rfl, ho0, hb⟩; refine ⟨_, rfl, ?_⟩; have n0_ := Aside0.mk (Kd.V_elder' aq33 (Kd.R_base ho0) hb); have n1_ := Aside0.mk (Kd.R_lower ho0 (below_size aq0)); have n2_ := Aside0.mk (below_step aq0 hb); clear HO106; clear HB; have HO106 := n0_; have HO109 := n1_; have HB := n2_; clear n0_ n1_ n2_; (try clear hb); (try clear hb2); (try clear hk); (try clear hi); (try clear ho0); obtain ⟨Ao10, co10, eo10⟩ := Kd.R_slice HO109.out; subst eo10))
  go_loopg [4, 14] k (fun kq v4 v14 w' => ∃ (x4_1 : Int) (x14_1 : Int), v4 = .int .i64 x4_1 ∧ v14 = .int .i64 x14_1 ∧ Aside0 (impl_KeepersOf.l0 kq a0 x4_1 t107 (t107.length : Int) x14_1 = some (r1, r2)) ∧ Aside0 (kq ≤ k) ∧ Aside0 (Kd.R Kd.string 9 w' w.heap.size (fun _ => True) (.slice Ao10 t107.length co10) t107) ∧ Aside0 (Below w.heap.size w w'))
  case atStart => exact ⟨(0), (0), aq11, aq11, H', ⟨Nat.le_refl _⟩, ⟨by (with_reducible repeat (first | apply Kd.R_alloc | apply Kd.R_drewN | apply Kd.R_drew)); exact HO109.out⟩, ⟨aq0⟩⟩
  case round =>
   clear H'
   try clear c1
   try clear p2
   try clear c3
   try clear c7
   try clear c10
   obtain ⟨x4_1, x14_1, rfl, rfl, HA, HK1, HO_12, HB⟩ := hrel
   cases gk with
   | zero => exact absurd HA.out (by simp [impl_KeepersOf.l0])
   | succ k1 =>
    have H := HA.out
    clear HA
    simp only [impl_KeepersOf.l0] at H
    by_cases c11 : x14_1 < (t107.length : Int)
    ·rw [if_pos c11] at H
     have c11b0 : decide (x14_1 < (t107.length : Int)) = true := decide_eq_true c11
     clear c11
     by_cases c12 : 0 ≤ x14_1
     ·rw [if_pos c12] at H
      have c12b0 : decide (0 ≤ x14_1) = true := decide_eq_true c12
      clear c12
      by_cases c13 : x14_1 < (t107.length : Int)
      ·rw [if_pos c13] at H
       have c13b0 : decide (x14_1 < (t107.length : Int)) = true := decide_eq_true c13
       clear c13
       replace H := Option.bind_eq_some_iff.mp H
       obtain ⟨t111, A140, H⟩ := H
       replace H : (impl_KeepersOf.l0 k1 a0 (wrap64 (x4_1 + t111)) t107 (t107.length : Int) (wrap64 (x14_1 + 1))) = some (r1, r2) := H
       have A14 := Aside0.mk A140
       clear A140
       have H' := Aside0.mk H
       clear H
       have p110 : 0 ≤ (x14_1 : Int) := of_decide_eq_true aq9
       have q110 : x14_1 < (t107.length : Int) := of_decide_eq_true aq9
       obtain ⟨ad110, e110, hx110_0⟩ := Kd.at_string (Kd.R_reads' HO_12.out).2.2 x14_1 p110 q110
       cases e110
       replace p110 := eq_true p110
       replace q110 := eq_true q110
       go_wp2_with (first | ((with_reducible refine gate_callee (f := 74) rfl ?_); refine goesL_ (some 22) rfl rfl Tryz.func74 (by kernel_rfl) rfl #[.bool ((rdOf ByteArray.empty t107 x14_1).toList == a0.toList)] rfl aq1 ?_; (with_reducible refine (impl_bit.calls ((rdOf ByteArray.empty t107 x14_1).toList == a0.toList) t111 _ A14.out).mono ?_); rintro e w' ⟨rfl, ⟨nd, rfl⟩⟩; refine ⟨_, rfl, ?_⟩))
       go_roundg k1
       case measure => have := HK1.out; omega
       case rel => exact ⟨(wrap64 (x4_1 + t111)), (wrap64 (x14_1 + 1)), aq11, aq11, H', ⟨aq83⟩, ⟨by (with_reducible repeat (first | apply Kd.R_alloc | apply Kd.R_drewN | apply Kd.R_drew)); exact HO_12.out⟩, ⟨aq0⟩⟩
      ·rw [if_neg c13] at H
       exact absurd H (by simp)
     ·rw [if_neg c12] at H
      exact absurd H (by simp)
    ·rw [if_neg c11] at H
     have c11b0 : decide (x14_1 < (t107.length : Int)) = false := decide_eq_false c11
     clear c11
     simp only [Option.some.injEq, Prod.mk.injEq] at H
     obtain ⟨rfl, rfl⟩ := H
     go_wp2
     go_ret2
     exact ⟨aq8, aq0⟩
 ·replace c3 := Bool.eq_false_iff.mpr c3
  subst c3
  have H1 : (some (0, false)) = some (r1, r2) := by rw [if_neg (show ¬ (false = true) by decide)] at H; exact H
  clear H
  have H := H1
  clear H1
  simp only [Option.some.injEq, Prod.mk.injEq] at H
  obtain ⟨rfl, rfl⟩ := H
  go_enter Tryz.func10, Tryz.ntmps10
  go_wp2_with (first | ((with_reducible refine gate_callee (f := 18) rfl ?_); refine goesL_ (some 8) rfl rfl Tryz.func18 (by kernel_rfl) rfl #[.string a0] rfl aq1 ?_; (with_reducible refine (impl_IsTray.calls k a0 false _ A2.out).mono ?_); rintro e w15 ⟨rfl, hb⟩; refine ⟨_, rfl, ?_⟩; have n0_ := Aside0.mk (below_step aq0 hb); clear HB; have HB := n0_; clear n0_; (try clear hb); (try clear hb2); (try clear hk); (try clear hi)))
  go_ret2
  exact ⟨aq8, aq0⟩
end Go.Proofs.YtipjmlcbbimfpaaGreatDoor.F

namespace Go.Proofs.YtipjmlcbbimfpaaGreatDoor.F
open Go.Proofs.YtipjmlcbbimfpaaGreatDoor
open Go.RowKit Go.Proofs.YtipjmlcbbimfpaaGreatDoorW.PrintWords Go.Proofs.YtipjmlcbbimfpaaGreatDoorW.PrintLast Go.Proofs.YtipjmlcbbimfpaaGreatDoorW.PrintMore
attribute [local go_sem] max2_int min2_int max_two min_two max_three min_three max_four min_four   -- for this text's walks alone
set_option linter.unusedVariables false
set_option linter.unusedSimpArgs false
def spec_KeepersOf.l0 : Nat → ByteArray → Int → List (S66) → Int → Int → Option (Int × Bool)
 | 0, _, _, _, _, _ => none
 | k + 1, x0, x6, x17, x18, x19 => if x19 < x18 then (if 0 ≤ x19 then (if x19 < (x17.length : Int) then ((spec_tyText.f k ((rd_T66 x17 x19).f0) ((rd_T66 x17 x19).f1) ((rd_T66 x17 x19).f2)).bind fun t113 => (if t113.toList = x0.toList then (spec_KeepersOf.l0 k x0 (wrap64 (x6 + 1)) x17 x18 (wrap64 (x19 + 1))) else (spec_KeepersOf.l0 k x0 x6 x17 x18 (wrap64 (x19 + 1))))) else (none)) else (none)) else (some (x6, true))
def spec_KeepersOf.f (k : Nat) (a0 : ByteArray) : Option (Int × Bool) := (spec_tyRead.f k a0).bind fun bt101 => (if bt101.2.2.2 = true then ((spec_tyEight.f k bt101.1 bt101.2.1 bt101.2.2.1).bind fun t108 => (spec_KeepersOf.l0 k a0 0 t108 (t108.length : Int) 0)) else (some (0, false)))
set_option maxHeartbeats 8000000 in
set_option maxRecDepth 100000 in
theorem spec_KeepersOf.calls (k : Nat) (a0 : ByteArray) (r1 : Int) (r2 : Bool) (w : World) (h : spec_KeepersOf.f k a0 = some (r1, r2)) :
  Calls Tryz.prog 11 #[.string a0] w fun e w' => e = .returned (.tuple #[.int .i64 r1, .bool r2]) ∧ Below w.heap.size w w' := by
 have hu66 := Tryz.underlying66
 have HB := Aside0.mk (Below.refl w.heap.size w)
 have H : ((spec_tyRead.f k a0).bind fun bt101 => (if bt101.2.2.2 = true then ((spec_tyEight.f k bt101.1 bt101.2.1 bt101.2.2.1).bind fun t108 => (spec_KeepersOf.l0 k a0 0 t108 (t108.length : Int) 0)) else (some (0, false)))) = some (r1, r2) := h
 clear h
 replace H := Option.bind_eq_some_iff.mp H
 obtain ⟨⟨t101, t102, t103, t106⟩, A20, H⟩ := H
 replace H : (if t106 = true then ((spec_tyEight.f k t101 t102 t103).bind fun t108 => (spec_KeepersOf.l0 k a0 0 t108 (t108.length : Int) 0)) else (some (0, false))) = some (r1, r2) := H
 have A2 := Aside0.mk A20
 clear A20
 by_cases c3 : t106 = true
 ·subst c3
  have H1 : ((spec_tyEight.f k t101 t102 t103).bind fun t108 => (spec_KeepersOf.l0 k a0 0 t108 (t108.length : Int) 0)) = some (r1, r2) := by rw [if_pos rfl] at H; exact H
  clear H
  have H := H1
  clear H1
  replace H := Option.bind_eq_some_iff.mp H
  obtain ⟨t108, A40, H⟩ := H
  replace H : (spec_KeepersOf.l0 k a0 0 t108 (t108.length : Int) 0) = some (r1, r2) := H
  have A4 := Aside0.mk A40
  clear A40
  have H' := Aside0.mk H
  clear H
  go_enter Tryz.func11, Tryz.ntmps11
  go_wp2_with (first | ((with_reducible refine gate_callee (f := 72) rfl ?_); refine goesL_ (some 11) rfl rfl Tryz.func72 (by kernel_rfl) rfl #[.string a0] rfl aq1 ?_; (with_reducible refine (spec_tyRead.calls k a0 t101 t102 t103 true _ A2.out).mono ?_); rintro e w5 ⟨v104, rfl, ho0, hb⟩; refine ⟨_, rfl, ?_⟩; have n0_ := Aside0.mk (Kd.R_lower ho0 (below_size aq0)); have n1_ := Aside0.mk (below_step aq0 hb); clear HB; have HO105 := n0_; have HB := n1_; clear n0_ n1_; (try clear hb); (try clear hb2); (try clear hk); (try clear hi); (try clear ho0)) | ((with_reducible refine gate_dst (N := 4) rfl ?_); refine box_event ?hg (N := 4) ?hd (cs := #[.int .i64 0, .int .i64 0, .slice none 0 0]) (t := 66) ?hr ?_; (case hd => rfl); (case hg => rfl); (case hr => exact aq23); intro gb107 hg w6 hbox hb; have n0_ := Aside0.mk (Kd.R_below aq15 hb); have n1_ := Aside0.mk (below_step aq0 hb); have n2_ := Aside0.mk (hbox); have n3_ := Aside0.mk ((by rw [hg]; exact (below_size aq0) : w.heap.size ≤ gb107)); have n4_ := Aside0.mk ((by rw [hg]; exact (below_size aq0) : w.heap.size ≤ gb107)); clear HO105; clear HB; have HO105 := n0_; have HB := n1_; have BK107 := n2_; have GW107 := n3_; have GE107 := n4_; clear n0_ n1_ n2_ n3_ n4_; clear hb hbox hg; have hcz7_0 : w6.cell? ⟨gb107, 0, none⟩ = some (.int .i64 0) := (blk_cell BK107.out 0).trans rfl; have hcz7_1 : w6.cell? ⟨gb107, 1, none⟩ = some (.int .i64 0) := (blk_cell BK107.out 1).trans rfl; have hcz7_2 : w6.cell? ⟨gb107, 2, none⟩ = some (.slice none 0 0) := (blk_cell BK107.out 2).trans rfl; have hfz7_0 := blk_frozen BK107.out 0; have hfz7_1 := blk_frozen BK107.out 1; have hfz7_2 := blk_frozen BK107.out 2; obtain ⟨Ao8, co8, eo8⟩ := Kd.R_slice HO105.out; subst eo8) | ((with_reducible refine gate_store (t := 66) (p := 4) rfl ?_); refine store_event (t := 66) (p := 4) (v := ?vo_w9) (w1 := (((w6.setCell ⟨gb107, 0, none⟩ (.int .i64 t101)).setCell ⟨gb107, 1, none⟩ (.int .i64 t102)).setCell ⟨gb107, 2, none⟩ (.slice Ao8 t103.length co8))) ?hg ?ho ?hn ?hr ?_; (case ho => rfl); (case hg => rfl); (case hn => rfl); (case hr => exact aq23); intro w9 hw; have n0_ : Aside0 (Kd.R (Kd.int .u8) 5 w9 w.heap.size (fun _ => True) (.slice Ao8 t103.length co8) t103) := ⟨(by rw [hw]; exact aq22)⟩; have n1_ : Aside0 (w9.heap[gb107]? = some (.cells #[.int .i64 t101, .int .i64 t102, .slice Ao8 t103.length co8] 66 (0, 0))) := ⟨(by rw [hw]; exact aq12)⟩; have n2_ : Aside0 (Below w.heap.size w w9) := ⟨(by rw [hw]; exact aq10)⟩; clear hw; clear HO105; clear BK107; clear HB; have HO105 := n0_; have BK107 := n1_; have HB := n2_; clear n0_ n1_ n2_; have hcz10_0 : w9.cell? ⟨gb107, 0, none⟩ = some (.int .i64 t101) := (blk_cell BK107.out 0).trans rfl; have hcz10_1 : w9.cell? ⟨gb107, 1, none⟩ = some (.int .i64 t102) := (blk_cell BK107.out 1).trans rfl; have hcz10_2 : w9.cell? ⟨gb107, 2, none⟩ = some (.slice Ao8 t103.length co8) := (blk_cell BK107.out 2).trans rfl; have hfz10_0 := blk_frozen BK107.out 0; have hfz10_1 := blk_frozen BK107.out 1; have hfz10_2 := blk_frozen BK107.out 2) | ((with_reducible refine gate_callee (f := 75) rfl ?_); refine goesL_ (some 17) rfl rfl Tryz.func75 (by kernel_rfl) rfl #[.agg #[.int .i64 t101, .int .i64 t102, .slice Ao8 t103.length co8]] rfl aq1 ?_; (with_reducible refine (spec_tyEight.calls k t101 t102 (fun k_ => some k_ = (.slice Ao8 t103.length co8 : Value).ownBlock) _ _ t103 t108 _ ?side1 A4.out).mono ?_); (case side1 => exact Kd.R_V (Kd.R_tight rfl (Kd.R_types (HO105.out) BK107.out (by decide)))); rintro e w11 ⟨v109, rfl, ho0, hb⟩; refine ⟨_, rfl, ?_⟩; have n0_ := Aside0.mk (Kd.R_below aq15 hb); have n1_ := Aside0.mk (Kd.N_lower (Kd.N_mono (ok' := fun k_ => k_ ≠ gb107) ho0 (fun k_ hk_ => Or.elim hk_ (fun hs_ => ((Kd.R_types (HO105.out) BK107.out (by decide)).1 k_ hs_.symm).2) (fun hn_ => (Kd.freshB (g := gb107) (o := .cells #[.int .i64 t101, .int .i64 t102, .slice Ao8 t103.length co8] 66 (0, 0)) aq39 k_ hn_)))) (below_size aq10)); have n2_ := Aside0.mk (blk_below (g := gb107) (o := .cells #[.int .i64 t101, .int .i64 t102, .slice Ao8 t103.length co8] 66 (0, 0)) aq39 hb); have n3_ := Aside0.mk (below_step aq10 hb); clear HO105; clear BK107; clear HB; have HO105 := n0_; have HO110 := n1_; have BK107 := n2_; have HB := n3_; clear n0_ n1_ n2_ n3_; (try clear hb); (try clear hb2); (try clear hk); (try clear hi); (try clear ho0); obtain ⟨Ao12, co12, eo12⟩ := Kd.N_slice HO110.out; subst eo12))
  go_loopg [6, 19] k (fun kq v6 v19 w' => ∃ (x6_1 : Int) (x19_1 : Int), v6 = .int .i64 x6_1 ∧ v19 = .int .i64 x19_1 ∧ Aside0 (spec_KeepersOf.l0 kq a0 x6_1 t108 (t108.length : Int) x19_1 = some (r1, r2)) ∧ Aside0 (kq ≤ k) ∧ Aside0 (Kd.N k66 66 w' w.heap.size (fun k_ => k_ ≠ gb107) (.slice Ao12 t108.length co12) t108) ∧ Aside0 (Kd.R (Kd.int .u8) 5 w' w.heap.size (fun _ => True) (.slice Ao8 t103.length co8) t103) ∧ Aside0 (w'.heap[gb107]? = some (.cells #[.int .i64 t101, .int .i64 t102, (.slice Ao8 t103.length co8)] 66 (0, 0))) ∧ Aside0 (Below w.heap.size w w'))
  case atStart => exact ⟨(0), (0), aq11, aq11, H', ⟨Nat.le_refl _⟩, ⟨by (with_reducible repeat (first | apply Kd.N_alloc | apply Kd.N_drewN | apply Kd.N_drew)); exact HO110.out⟩, ⟨aq15⟩, ⟨aq39⟩, ⟨aq10⟩⟩
  case round =>
   clear H'
   try clear c1
   try clear p2
   try clear c3
   try clear c7
   try clear c11
   try clear hcz10_0
   try clear hcz10_1
   try clear hcz10_2
   try clear hcz7_0
   try clear hcz7_1
   try clear hcz7_2
   try clear hfz10_0
   try clear hfz10_1
   try clear hfz10_2
   try clear hfz7_0
   try clear hfz7_1
   try clear hfz7_2
   obtain ⟨x6_1, x19_1, rfl, rfl, HA, HK1, HO_17, HO_108002, BK107, HB⟩ := hrel
   cases gk with
   | zero => exact absurd HA.out (by simp [spec_KeepersOf.l0])
   | succ k1 =>
    have H := HA.out
    clear HA
    simp only [spec_KeepersOf.l0] at H
    by_cases c13 : x19_1 < (t108.length : Int)
    ·rw [if_pos c13] at H
     have c13b0 : decide (x19_1 < (t108.length : Int)) = true := decide_eq_true c13
     clear c13
     by_cases c14 : 0 ≤ x19_1
     ·rw [if_pos c14] at H
      have c14b0 : decide (0 ≤ x19_1) = true := decide_eq_true c14
      clear c14
      by_cases c15 : x19_1 < (t108.length : Int)
      ·rw [if_pos c15] at H
       have c15b0 : decide (x19_1 < (t108.length : Int)) = true := decide_eq_true c15
       clear c15
       replace H := Option.bind_eq_some_iff.mp H
       obtain ⟨t113, A160, H⟩ := H
       replace H : (if t113.toList = a0.toList then (spec_KeepersOf.l0 k1 a0 (wrap64 (x6_1 + 1)) t108 (t108.length : Int) (wrap64 (x19_1 + 1))) else (spec_KeepersOf.l0 k1 a0 x6_1 t108 (t108.length : Int) (wrap64 (x19_1 + 1)))) = some (r1, r2) := H
       have A16 := Aside0.mk A160
       clear A160
       by_cases c17 : t113.toList = a0.toList
       ·rw [if_pos c17] at H
        have c17b0 : (t113.toList == a0.toList) = true := beq_iff_eq.mpr c17
        have c17b1 : (t113.toList != a0.toList) = false := bne_eq_false_iff_eq.mpr c17
        clear c17
        have H' := Aside0.mk H
        clear H
        have p111 : 0 ≤ (x19_1 : Int) := of_decide_eq_true aq9
        have q111 : x19_1 < (t108.length : Int) := of_decide_eq_true aq9
        obtain ⟨ad111, A111_2, c111_2, e111, hx111_0, hx111_1, hx111_2, hl111_2, hi111_2⟩ := at_T66 (Kd.N_reads' HO_17.out).2.2 x19_1 p111 q111
        cases e111
        obtain ⟨ce111, hce111, hMe111, hcc111⟩ := Kd.N_get HO_17.out z66 x19_1 p111 (by first | exact q111 | exact of_decide_eq_true aq9 | (have e_ := (Kd.N_reads' HO_17.out).1; omega))
        obtain ⟨ua111_2, uc111_2, rfl, ul111_2, ge111_2⟩ := k66_openF hMe111
        have hv111_2 := hcc111 2 _ rfl
        rw [add_field _ _ 2 (by omega)] at hv111_2
        replace hv111_2 := Option.some.inj (hv111_2.symm.trans hx111_2)
        injection hv111_2 with hva_ hvn_ hvc_
        rw [hva_] at ge111_2
        rw [hvc_] at ul111_2
        have HL111_2 := Aside0.mk (show Kd.V (Kd.int .u8) 5 _ w.heap.size _ _ ((rd_T66 t108 x19_1).f2) from Kd.V_mk ul111_2 ge111_2)
        clear hva_ hvn_ hvc_ ge111_2 ul111_2
        clear hcc111 hce111
        have HR111_2 := Aside0.mk hi111_2
        have HC111_2 := Aside0.mk hl111_2
        clear hi111_2 hl111_2
        replace p111 := eq_true p111
        replace q111 := eq_true q111
        go_wp2_with (first | ((with_reducible refine gate_dst (N := 8) rfl ?_); refine box_event ?hg (N := 8) ?hd (cs := #[.int .i64 0, .int .i64 0, .slice none 0 0]) (t := 66) ?hr ?_; (case hd => rfl); (case hg => rfl); (case hr => exact aq23); intro gb112 hg w18 hbox hb; have n0_ := Aside0.mk (Kd.N_below (Kd.N_elderB (by (with_reducible repeat (first | apply Kd.N_alloc | apply Kd.N_drewN | apply Kd.N_drew)); exact HO_17.out) gb112 (Nat.le_of_eq hg.symm)) hb); have n1_ := Aside0.mk (Kd.R_below aq35 hb); have n2_ := Aside0.mk (Kd.V_below (Kd.V_elderB (by (with_reducible repeat (first | apply Kd.V_alloc | apply Kd.V_drewN | apply Kd.V_drew)); exact HL111_2.out) gb112 (Nat.le_of_eq hg.symm)) hb); have n3_ := Aside0.mk (blk_below (g := gb107) (o := .cells #[.int .i64 t101, .int .i64 t102, .slice Ao8 t103.length co8] 66 (0, 0)) aq39 hb); have n4_ := Aside0.mk (Kd.C_below aq94 hb); have n5_ := Aside0.mk (below_step aq10 hb); have n6_ := Aside0.mk (hbox); have n7_ := Aside0.mk ((by rw [hg]; exact (below_size aq10) : w.heap.size ≤ gb112)); have n8_ := Aside0.mk ((by rw [hg]; exact (below_size aq10) : w.heap.size ≤ gb112)); have n9_ := Aside0.mk ((by rw [hg]; exact Nat.ne_of_lt (blk_lt (g := gb107) (o := .cells #[.int .i64 t101, .int .i64 t102, .slice Ao8 t103.length co8] 66 (0, 0)) aq39) : gb107 ≠ gb112)); have n10_ := Aside0.mk ((by rw [hg]; exact Nat.ne_of_gt (blk_lt (g := gb107) (o := .cells #[.int .i64 t101, .int .i64 t102, .slice Ao8 t103.length co8] 66 (0, 0)) aq39) : gb112 ≠ gb107)); clear HO_17; clear HO_108002; clear HL111_2; clear BK107; clear HR111_2; clear HB; have HO_17 := n0_; have HO_108002 := n1_; have HL111_2 := n2_; have BK107 := n3_; have HR111_2 := n4_; have HB := n5_; have BK112 := n6_; have GW112 := n7_; have GE112 := n8_; have NB107_112 := n9_; have NB112_107 := n10_; clear n0_ n1_ n2_ n3_ n4_ n5_ n6_ n7_ n8_ n9_ n10_; clear hb hbox hg; have hnb19 := NB112_107.out; have hnc19 := NB107_112.out; have hcz20_0 : w18.cell? ⟨gb112, 0, none⟩ = some (.int .i64 0) := (blk_cell BK112.out 0).trans rfl; have hcz20_1 : w18.cell? ⟨gb112, 1, none⟩ = some (.int .i64 0) := (blk_cell BK112.out 1).trans rfl; have hcz20_2 : w18.cell? ⟨gb112, 2, none⟩ = some (.slice none 0 0) := (blk_cell BK112.out 2).trans rfl; have hfz20_0 := blk_frozen BK112.out 0; have hfz20_1 := blk_frozen BK112.out 1; have hfz20_2 := blk_frozen BK112.out 2) | ((with_reducible refine gate_callee (f := 76) rfl ?_); refine goesL_ (some 24) rfl rfl Tryz.func76 (by kernel_rfl) rfl #[.agg #[.int .i64 ((rd_T66 t108 x19_1).f0), .int .i64 ((rd_T66 t108 x19_1).f1), .slice A111_2 ((rd_T66 t108 x19_1).f2).length c111_2]] rfl aq1 ?_; (with_reducible refine (spec_tyText.calls k1 ((rd_T66 t108 x19_1).f0) ((rd_T66 t108 x19_1).f1) _ _ ((rd_T66 t108 x19_1).f2) t113 _ ?side1 ?side2 A16.out).mono ?_); (case side1 => exact aq101); (case side2 => exact HC111_2.out); rintro e w21 ⟨rfl, hb⟩; refine ⟨_, rfl, ?_⟩; have n0_ := Aside0.mk (Kd.N_below aq61 hb); have n1_ := Aside0.mk (Kd.R_below aq63 hb); have n2_ := Aside0.mk (Kd.V_below aq20 hb); have n3_ := Aside0.mk (blk_below (g := gb107) (o := .cells #[.int .i64 t101, .int .i64 t102, .slice Ao8 t103.length co8] 66 (0, 0)) aq76 hb); have n4_ := Aside0.mk (Kd.C_below ((Kd.V_reads' aq20).2.2) hb); have n5_ := Aside0.mk (blk_below (g := gb112) (o := .cells #[.int .i64 ((rd_T66 t108 x19_1).f0), .int .i64 ((rd_T66 t108 x19_1).f1), .slice A111_2 ((rd_T66 t108 x19_1).f2).length c111_2] 66 (0, 0)) aq43 hb); have n6_ := Aside0.mk (below_step aq50 hb); clear HO_17; clear HO_108002; clear HL111_2; clear BK107; clear HR111_2; clear BK112; clear HB; have HO_17 := n0_; have HO_108002 := n1_; have HL111_2 := n2_; have BK107 := n3_; have HR111_2 := n4_; have BK112 := n5_; have HB := n6_; clear n0_ n1_ n2_ n3_ n4_ n5_ n6_; (try clear hb); (try clear hb2); (try clear hk); (try clear hi)))
        go_roundg k1
        case measure => have := HK1.out; omega
        case rel => exact ⟨(wrap64 (x6_1 + 1)), (wrap64 (x19_1 + 1)), aq11, aq11, H', ⟨aq83⟩, ⟨aq103⟩, ⟨aq35⟩, ⟨aq39⟩, ⟨aq50⟩⟩
       ·rw [if_neg c17] at H
        have c17b0 : (t113.toList == a0.toList) = false := beq_eq_false_iff_ne.mpr c17
        have c17b1 : (t113.toList != a0.toList) = true := bne_iff_ne.mpr c17
        have H' := Aside0.mk H
        clear H
        have p111 : 0 ≤ (x19_1 : Int) := of_decide_eq_true aq9
        have q111 : x19_1 < (t108.length : Int) := of_decide_eq_true aq9
        obtain ⟨ad111, A111_2, c111_2, e111, hx111_0, hx111_1, hx111_2, hl111_2, hi111_2⟩ := at_T66 (Kd.N_reads' HO_17.out).2.2 x19_1 p111 q111
        cases e111
        obtain ⟨ce111, hce111, hMe111, hcc111⟩ := Kd.N_get HO_17.out z66 x19_1 p111 (by first | exact q111 | exact of_decide_eq_true aq9 | (have e_ := (Kd.N_reads' HO_17.out).1; omega))
        obtain ⟨ua111_2, uc111_2, rfl, ul111_2, ge111_2⟩ := k66_openF hMe111
        have hv111_2 := hcc111 2 _ rfl
        rw [add_field _ _ 2 (by omega)] at hv111_2
        replace hv111_2 := Option.some.inj (hv111_2.symm.trans hx111_2)
        injection hv111_2 with hva_ hvn_ hvc_
        rw [hva_] at ge111_2
        rw [hvc_] at ul111_2
        have HL111_2 := Aside0.mk (show Kd.V (Kd.int .u8) 5 _ w.heap.size _ _ ((rd_T66 t108 x19_1).f2) from Kd.V_mk ul111_2 ge111_2)
        clear hva_ hvn_ hvc_ ge111_2 ul111_2
        clear hcc111 hce111
        have HR111_2 := Aside0.mk hi111_2
        have HC111_2 := Aside0.mk hl111_2
        clear hi111_2 hl111_2
        replace p111 := eq_true p111
        replace q111 := eq_true q111
        go_wp2_with (first | ((with_reducible refine gate_dst (N := 8) rfl ?_); refine box_event ?hg (N := 8) ?hd (cs := #[.int .i64 0, .int .i64 0, .slice none 0 0]) (t := 66) ?hr ?_; (case hd => rfl); (case hg => rfl); (case hr => exact aq23); intro gb112 hg w22 hbox hb; have n0_ := Aside0.mk (Kd.N_below (Kd.N_elderB (by (with_reducible repeat (first | apply Kd.N_alloc | apply Kd.N_drewN | apply Kd.N_drew)); exact HO_17.out) gb112 (Nat.le_of_eq hg.symm)) hb); have n1_ := Aside0.mk (Kd.R_below aq35 hb); have n2_ := Aside0.mk (Kd.V_below (Kd.V_elderB (by (with_reducible repeat (first | apply Kd.V_alloc | apply Kd.V_drewN | apply Kd.V_drew)); exact HL111_2.out) gb112 (Nat.le_of_eq hg.symm)) hb); have n3_ := Aside0.mk (blk_below (g := gb107) (o := .cells #[.int .i64 t101, .int .i64 t102, .slice Ao8 t103.length co8] 66 (0, 0)) aq39 hb); have n4_ := Aside0.mk (Kd.C_below aq94 hb); have n5_ := Aside0.mk (below_step aq10 hb); have n6_ := Aside0.mk (hbox); have n7_ := Aside0.mk ((by rw [hg]; exact (below_size aq10) : w.heap.size ≤ gb112)); have n8_ := Aside0.mk ((by rw [hg]; exact (below_size aq10) : w.heap.size ≤ gb112)); have n9_ := Aside0.mk ((by rw [hg]; exact Nat.ne_of_lt (blk_lt (g := gb107) (o := .cells #[.int .i64 t101, .int .i64 t102, .slice Ao8 t103.length co8] 66 (0, 0)) aq39) : gb107 ≠ gb112)); have n10_ := Aside0.mk ((by rw [hg]; exact Nat.ne_of_gt (blk_lt (g := gb107) (o := .cells #[.int .i64 t101, .int .i64 t102, .slice Ao8 t103.length co8] 66 (0, 0)) aq39) : gb112 ≠ gb107)); clear HO_17; clear HO_108002; clear HL111_2; clear BK107; clear HR111_2; clear HB; have HO_17 := n0_; have HO_108002 := n1_; have HL111_2 := n2_; have BK107 := n3_; have HR111_2 := n4_; have HB := n5_; have BK112 := n6_; have GW112 := n7_; have GE112 := n8_; have NB107_112 := n9_; have NB112_107 := n10_; clear n0_ n1_ n2_ n3_ n4_ n5_ n6_ n7_ n8_ n9_ n10_; clear hb hbox hg; have hnb23 := NB112_107.out; have hnc23 := NB107_112.out; have hcz24_0 : w22.cell? ⟨gb112, 0, none⟩ = some (.int .i64 0) := (blk_cell BK112.out 0).trans rfl; have hcz24_1 : w22.cell? ⟨gb112, 1, none⟩ = some (.int .i64 0) := (blk_cell BK112.out 1).trans rfl; have hcz24_2 : w22.cell? ⟨gb112, 2, none⟩ = some (.slice none 0 0) := (blk_cell BK112.out 2).trans rfl; have hfz24_0 := blk_frozen BK112.out 0; have hfz24_1 := blk_frozen BK112.out 1; have hfz24_2 := blk_frozen BK112.out 2) | ((with_reducible refine gate_callee (f := 76) rfl ?_); refine goesL_ (some 24) rfl rfl Tryz.func76 (by kernel_rfl) rfl #[.agg #[.int .i64 ((rd_T66 t108 x19_1).f0), .int .i64 ((rd_T66 t108 x19_1).f1), .slice A111_2 ((rd_T66 t108 x19_1).f2).length c111_2]] rfl aq1 ?_; (with_reducible refine (spec_tyText.calls k1 ((rd_T66 t108 x19_1).f0) ((rd_T66 t108 x19_1).f1) _ _ ((rd_T66 t108 x19_1).f2) t113 _ ?side1 ?side2 A16.out).mono ?_); (case side1 => exact aq101); (case side2 => exact HC111_2.out); rintro e w25 ⟨rfl, hb⟩; refine ⟨_, rfl, ?_⟩; have n0_ := Aside0.mk (Kd.N_below aq61 hb); have n1_ := Aside0.mk (Kd.R_below aq63 hb); have n2_ := Aside0.mk (Kd.V_below aq20 hb); have n3_ := Aside0.mk (blk_below (g := gb107) (o := .cells #[.int .i64 t101, .int .i64 t102, .slice Ao8 t103.length co8] 66 (0, 0)) aq76 hb); have n4_ := Aside0.mk (Kd.C_below ((Kd.V_reads' aq20).2.2) hb); have n5_ := Aside0.mk (blk_below (g := gb112) (o := .cells #[.int .i64 ((rd_T66 t108 x19_1).f0), .int .i64 ((rd_T66 t108 x19_1).f1), .slice A111_2 ((rd_T66 t108 x19_1).f2).length c111_2] 66 (0, 0)) aq43 hb); have n6_ := Aside0.mk (below_step aq50 hb); clear HO_17; clear HO_108002; clear HL111_2; clear BK107; clear HR111_2; clear BK112; clear HB; have HO_17 := n0_; have HO_108002 := n1_; have HL111_2 := n2_; have BK107 := n3_; have HR111_2 := n4_; have BK112 := n5_; have HB := n6_; clear n0_ n1_ n2_ n3_ n4_ n5_ n6_; (try clear hb); (try clear hb2); (try clear hk); (try clear hi)))
        go_roundg k1
        case measure => have := HK1.out; omega
        case rel => exact ⟨(x6_1), (wrap64 (x19_1 + 1)), aq11, aq11, H', ⟨aq83⟩, ⟨aq103⟩, ⟨aq35⟩, ⟨aq39⟩, ⟨aq50⟩⟩
      ·rw [if_neg c15] at H
       exact absurd H (by simp)
     ·rw [if_neg c14] at H
      exact absurd H (by simp)
    ·rw [if_neg c13] at H
     have c13b0 : decide (x19_1 < (t108.length : Int)) = false := decide_eq_false c13
     clear c13
     simp only [Option.some.injEq, Prod.mk.injEq] at H
     obtain ⟨rfl, rfl⟩ := H
     go_wp2
     go_ret2
     exact ⟨aq8, aq10⟩
 ·replace c3 := Bool.eq_false_iff.mpr c3
  subst c3
  have H1 : (some (0, false)) = some (r1, r2) := by rw [if_neg (show ¬ (false = true) by decide)] at H; exact H
  clear H
  have H := H1
  clear H1
  simp only [Option.some.injEq, Prod.mk.injEq] at H
  obtain ⟨rfl, rfl⟩ := H
  go_enter Tryz.func11, Tryz.ntmps11
  go_wp2_with (first | ((with_reducible refine gate_callee (f := 72) rfl ?_); refine goesL_ (some 11) rfl rfl Tryz.func72 (by kernel_rfl) rfl #[.string a0] rfl aq1 ?_; (with_reducible refine (spec_tyRead.calls k a0 t101 t102 t103 false _ A2.out).mono ?_); rintro e w26 ⟨v104, rfl, ho0, hb⟩; refine ⟨_, rfl, ?_⟩; have n0_ := Aside0.mk (Kd.R_lower ho0 (below_size aq0)); have n1_ := Aside0.mk (below_step aq0 hb); clear HB; have HO105 := n0_; have HB := n1_; clear n0_ n1_; (try clear hb); (try clear hb2); (try clear hk); (try clear hi); (try clear ho0)) | ((with_reducible refine gate_dst (N := 4) rfl ?_); refine box_event ?hg (N := 4) ?hd (cs := #[.int .i64 0, .int .i64 0, .slice none 0 0]) (t := 66) ?hr ?_; (case hd => rfl); (case hg => rfl); (case hr => exact aq23); intro gb107 hg w27 hbox hb; have n0_ := Aside0.mk (Kd.R_below aq15 hb); have n1_ := Aside0.mk (below_step aq0 hb); have n2_ := Aside0.mk (hbox); have n3_ := Aside0.mk ((by rw [hg]; exact (below_size aq0) : w.heap.size ≤ gb107)); have n4_ := Aside0.mk ((by rw [hg]; exact (below_size aq0) : w.heap.size ≤ gb107)); clear HO105; clear HB; have HO105 := n0_; have HB := n1_; have BK107 := n2_; have GW107 := n3_; have GE107 := n4_; clear n0_ n1_ n2_ n3_ n4_; clear hb hbox hg; have hcz28_0 : w27.cell? ⟨gb107, 0, none⟩ = some (.int .i64 0) := (blk_cell BK107.out 0).trans rfl; have hcz28_1 : w27.cell? ⟨gb107, 1, none⟩ = some (.int .i64 0) := (blk_cell BK107.out 1).trans rfl; have hcz28_2 : w27.cell? ⟨gb107, 2, none⟩ = some (.slice none 0 0) := (blk_cell BK107.out 2).trans rfl; have hfz28_0 := blk_frozen BK107.out 0; have hfz28_1 := blk_frozen BK107.out 1; have hfz28_2 := blk_frozen BK107.out 2; obtain ⟨Ao29, co29, eo29⟩ := Kd.R_slice HO105.out; subst eo29))
  go_ret2
  exact ⟨aq8, aq10⟩
end Go.Proofs.YtipjmlcbbimfpaaGreatDoor.F

namespace Go.Proofs.YtipjmlcbbimfpaaGreatDoor.F
open Go.Proofs.YtipjmlcbbimfpaaGreatDoor
open Go.RowKit Go.Proofs.YtipjmlcbbimfpaaGreatDoorW.PrintWords Go.Proofs.YtipjmlcbbimfpaaGreatDoorW.PrintLast Go.Proofs.YtipjmlcbbimfpaaGreatDoorW.PrintMore
attribute [local go_sem] max2_int min2_int max_two min_two max_three min_three max_four min_four   -- for this text's walks alone
set_option linter.unusedVariables false
set_option linter.unusedSimpArgs false
def impl_changed__impl_tray_turned.f (k : Nat) (a0 : ByteArray)  : Option (ByteArray × Bool) := (impl_IsTray.f k a0).bind fun t101 => (if t101 = true then ((impl_read.f a0).bind fun bt102 => ((impl_tray_turned.f k bt102.1 bt102.2.1 bt102.2.2).bind fun bt107 => ((impl_tray_text.f bt107.1 bt107.2.1 bt107.2.2).bind fun t112 => (some (t112, true))))) else (some ((⟨#[]⟩ : ByteArray), false)))
set_option maxHeartbeats 8000000 in
set_option maxRecDepth 100000 in
theorem impl_changed__impl_tray_turned.calls (k : Nat) (a0 : ByteArray)  (r1 : ByteArray) (r2 : Bool) (w : World) (h : impl_changed__impl_tray_turned.f k a0 = some (r1, r2)) :
  Calls Tryz.prog 77 #[.string a0, .func (.func 78) #[] #[]] w fun e w' => e = .returned (.tuple #[.string r1, .bool r2]) ∧ Below w.heap.size w w' := by
 have HB := Aside0.mk (Below.refl w.heap.size w)
 have H : ((impl_IsTray.f k a0).bind fun t101 => (if t101 = true then ((impl_read.f a0).bind fun bt102 => ((impl_tray_turned.f k bt102.1 bt102.2.1 bt102.2.2).bind fun bt107 => ((impl_tray_text.f bt107.1 bt107.2.1 bt107.2.2).bind fun t112 => (some (t112, true))))) else (some ((⟨#[]⟩ : ByteArray), false)))) = some (r1, r2) := h
 clear h
 replace H := Option.bind_eq_some_iff.mp H
 obtain ⟨t101, A30, H⟩ := H
 replace H : (if t101 = true then ((impl_read.f a0).bind fun bt102 => ((impl_tray_turned.f k bt102.1 bt102.2.1 bt102.2.2).bind fun bt107 => ((impl_tray_text.f bt107.1 bt107.2.1 bt107.2.2).bind fun t112 => (some (t112, true))))) else (some ((⟨#[]⟩ : ByteArray), false))) = some (r1, r2) := H
 have A3 := Aside0.mk A30
 clear A30
 by_cases c4 : t101 = true
 ·subst c4
  have H1 : ((impl_read.f a0).bind fun bt102 => ((impl_tray_turned.f k bt102.1 bt102.2.1 bt102.2.2).bind fun bt107 => ((impl_tray_text.f bt107.1 bt107.2.1 bt107.2.2).bind fun t112 => (some (t112, true))))) = some (r1, r2) := by rw [if_pos rfl] at H; exact H
  clear H
  have H := H1
  clear H1
  replace H := Option.bind_eq_some_iff.mp H
  obtain ⟨⟨t102, t103, t104⟩, A50, H⟩ := H
  replace H : ((impl_tray_turned.f k t102 t103 t104).bind fun bt107 => ((impl_tray_text.f bt107.1 bt107.2.1 bt107.2.2).bind fun t112 => (some (t112, true)))) = some (r1, r2) := H
  have A5 := Aside0.mk A50
  clear A50
  replace H := Option.bind_eq_some_iff.mp H
  obtain ⟨⟨t107, t108, t109⟩, A60, H⟩ := H
  replace H : ((impl_tray_text.f t107 t108 t109).bind fun t112 => (some (t112, true))) = some (r1, r2) := H
  have A6 := Aside0.mk A60
  clear A60
  replace H := Option.bind_eq_some_iff.mp H
  obtain ⟨t112, A70, H⟩ := H
  replace H : (some (t112, true)) = some (r1, r2) := H
  have A7 := Aside0.mk A70
  clear A70
  simp only [Option.some.injEq, Prod.mk.injEq] at H
  obtain ⟨rfl, rfl⟩ := H
  go_enter Tryz.func77, Tryz.ntmps77
  go_wp2_with (first | ((with_reducible refine gate_callee (f := 18) rfl ?_); refine goesL_ (some 7) rfl rfl Tryz.func18 (by kernel_rfl) rfl #[.string a0] rfl aq1 ?_; (with_reducible refine (impl_IsTray.calls k a0 true _ A3.out).mono ?_); rintro e w8 ⟨rfl, hb⟩; refine ⟨_, rfl, ?_⟩; have n0_ := Aside0.mk (below_step aq0 hb); clear HB; have HB := n0_; clear n0_; (try clear hb); (try clear hb2); (try clear hk); (try clear hi)) | ((with_reducible refine gate_callee (f := 70) rfl ?_); refine goesL_ (some 11) rfl rfl Tryz.func70 (by kernel_rfl) rfl #[.string a0] rfl aq1 ?_; (with_reducible refine (impl_read.calls a0 t102 t103 t104 _ A5.out).mono ?_); rintro e w9 ⟨v105, rfl, ho0, hb⟩; refine ⟨_, rfl, ?_⟩; have n0_ := Aside0.mk (Kd.V_lower (Kd.V_mono (ok' := fun k_ => True) ho0 (fun k_ hk_ => trivial)) (below_size aq0)); have n1_ := Aside0.mk (below_step aq0 hb); clear HB; have HO106 := n0_; have HB := n1_; clear n0_ n1_; (try clear hb); (try clear hb2); (try clear hk); (try clear hi); (try clear ho0); obtain ⟨Ao10, co10, eo10⟩ := Kd.V_slice HO106.out; subst eo10) | ((with_reducible refine gate_dst (N := 12) rfl ?_); refine goesT_ (x := .tmp 9) (some 12) rfl rfl Tryz.func78 (by kernel_rfl) rfl #[.agg #[.int .i64 t102, .int .i64 t103, .slice Ao10 t104.length co10]] rfl rfl aq1 ?_; (with_reducible refine (impl_tray_turned.calls k t102 t103 _ _ t104 t107 t108 t109 _ ?side1 ?side2 A6.out).mono ?_); (case side1 => exact aq47); (case side2 => exact (Kd.V_reads' HO106.out).2.1); rintro e w11 ⟨v110, rfl, ho0, hb⟩; refine ⟨_, rfl, ?_⟩; have n0_ := Aside0.mk (Kd.V_elder' aq33 (Kd.R_base ho0) hb); have n1_ := Aside0.mk (Kd.R_lower ho0 (below_size aq0)); have n2_ := Aside0.mk (below_step aq0 hb); clear HO106; clear HB; have HO106 := n0_; have HO111 := n1_; have HB := n2_; clear n0_ n1_ n2_; (try clear hb); (try clear hb2); (try clear hk); (try clear hi); (try clear ho0); obtain ⟨Ao12, co12, eo12⟩ := Kd.R_slice HO111.out; subst eo12) | ((with_reducible refine gate_callee (f := 96) rfl ?_); refine goesL_ (some 13) rfl rfl Tryz.func96 (by kernel_rfl) rfl #[.agg #[.int .i64 t107, .int .i64 t108, .slice Ao12 t109.length co12]] rfl aq1 ?_; (with_reducible refine (impl_tray_text.calls t107 t108 _ _ t109 t112 _ ?side1 ?side2 A7.out).mono ?_); (case side1 => exact aq78); (case side2 => exact (Kd.R_reads' HO111.out).2.1); rintro e w13 ⟨rfl, hb⟩; refine ⟨_, rfl, ?_⟩; have n0_ := Aside0.mk (Kd.V_below aq33 hb); have n1_ := Aside0.mk (Kd.R_below aq90 hb); have n2_ := Aside0.mk (below_step aq0 hb); clear HO106; clear HO111; clear HB; have HO106 := n0_; have HO111 := n1_; have HB := n2_; clear n0_ n1_ n2_; (try clear hb); (try clear hb2); (try clear hk); (try clear hi)))
  go_ret2
  exact ⟨aq8, aq0⟩
 ·replace c4 := Bool.eq_false_iff.mpr c4
  subst c4
  have H1 : (some ((⟨#[]⟩ : ByteArray), false)) = some (r1, r2) := by rw [if_neg (show ¬ (false = true) by decide)] at H; exact H
  clear H
  have H := H1
  clear H1
  simp only [Option.some.injEq, Prod.mk.injEq] at H
  obtain ⟨rfl, rfl⟩ := H
  go_enter Tryz.func77, Tryz.ntmps77
  go_wp2_with (first | ((with_reducible refine gate_callee (f := 18) rfl ?_); refine goesL_ (some 7) rfl rfl Tryz.func18 (by kernel_rfl) rfl #[.string a0] rfl aq1 ?_; (with_reducible refine (impl_IsTray.calls k a0 false _ A3.out).mono ?_); rintro e w14 ⟨rfl, hb⟩; refine ⟨_, rfl, ?_⟩; have n0_ := Aside0.mk (below_step aq0 hb); clear HB; have HB := n0_; clear n0_; (try clear hb); (try clear hb2); (try clear hk); (try clear hi)))
  go_ret2
  exact ⟨aq8, aq0⟩
end Go.Proofs.YtipjmlcbbimfpaaGreatDoor.F

namespace Go.Proofs.YtipjmlcbbimfpaaGreatDoor.F
open Go.Proofs.YtipjmlcbbimfpaaGreatDoor
open Go.RowKit Go.Proofs.YtipjmlcbbimfpaaGreatDoorW.PrintWords Go.Proofs.YtipjmlcbbimfpaaGreatDoorW.PrintLast Go.Proofs.YtipjmlcbbimfpaaGreatDoorW.PrintMore
attribute [local go_sem] max2_int min2_int max_two min_two max_three min_three max_four min_four   -- for this text's walks alone
set_option linter.unusedVariables false
set_option linter.unusedSimpArgs false
def impl_TurnTray.f (k : Nat) (a0 : ByteArray) : Option (ByteArray × Bool) := (impl_changed__impl_tray_turned.f k a0).bind fun bt101 => (some (bt101.1, bt101.2))
set_option maxHeartbeats 8000000 in
set_option maxRecDepth 100000 in
theorem impl_TurnTray.calls (k : Nat) (a0 : ByteArray) (r1 : ByteArray) (r2 : Bool) (w : World) (h : impl_TurnTray.f k a0 = some (r1, r2)) :
  Calls Tryz.prog 12 #[.string a0] w fun e w' => e = .returned (.tuple #[.string r1, .bool r2]) ∧ Below w.heap.size w w' := by
 have HB := Aside0.mk (Below.refl w.heap.size w)
 have H : ((impl_changed__impl_tray_turned.f k a0).bind fun bt101 => (some (bt101.1, bt101.2))) = some (r1, r2) := h
 clear h
 replace H := Option.bind_eq_some_iff.mp H
 obtain ⟨⟨t101, t102⟩, A20, H⟩ := H
 replace H : (some (t101, t102)) = some (r1, r2) := H
 have A2 := Aside0.mk A20
 clear A20
 simp only [Option.some.injEq, Prod.mk.injEq] at H
 obtain ⟨rfl, rfl⟩ := H
 go_enter Tryz.func12, Tryz.ntmps12
 go_wp2_with (first | ((with_reducible refine gate_callee (f := 77) rfl ?_); refine goesL_ (some 5) rfl rfl Tryz.func77 (by kernel_rfl) rfl #[.string a0, .func (.func 78) #[] #[]] rfl aq1 ?_; (with_reducible refine (impl_changed__impl_tray_turned.calls k a0  t101 t102 _ A2.out).mono ?_); rintro e w3 ⟨rfl, hb⟩; refine ⟨_, rfl, ?_⟩; have n0_ := Aside0.mk (below_step aq0 hb); clear HB; have HB := n0_; clear n0_; (try clear hb); (try clear hb2); (try clear hk); (try clear hi)))
 go_ret2
 exact ⟨aq8, aq0⟩
end Go.Proofs.YtipjmlcbbimfpaaGreatDoor.F

namespace Go.Proofs.YtipjmlcbbimfpaaGreatDoor.F
open Go.Proofs.YtipjmlcbbimfpaaGreatDoor
open Go.RowKit Go.Proofs.YtipjmlcbbimfpaaGreatDoorW.PrintWords Go.Proofs.YtipjmlcbbimfpaaGreatDoorW.PrintLast Go.Proofs.YtipjmlcbbimfpaaGreatDoorW.PrintMore
attribute [local go_sem] max2_int min2_int max_two min_two max_three min_three max_four min_four   -- for this text's walks alone
set_option linter.unusedVariables false
set_option linter.unusedSimpArgs false
def spec_TurnTray.f (k : Nat) (a0 : ByteArray) : Option (ByteArray × Bool) := (spec_tyRead.f k a0).bind fun bt101 => (if bt101.2.2.2 = true then ((spec_tyTurn.f k bt101.1 bt101.2.1 bt101.2.2.1).bind fun bt108 => ((spec_tyText.f k bt108.1 bt108.2.1 bt108.2.2).bind fun t113 => (some (t113, true)))) else (some ((⟨#[]⟩ : ByteArray), false)))
set_option maxHeartbeats 8000000 in
set_option maxRecDepth 100000 in
theorem spec_TurnTray.calls (k : Nat) (a0 : ByteArray) (r1 : ByteArray) (r2 : Bool) (w : World) (h : spec_TurnTray.f k a0 = some (r1, r2)) :
  Calls Tryz.prog 13 #[.string a0] w fun e w' => e = .returned (.tuple #[.string r1, .bool r2]) ∧ Below w.heap.size w w' := by
 have hu66 := Tryz.underlying66
 have HB := Aside0.mk (Below.refl w.heap.size w)
 have H : ((spec_tyRead.f k a0).bind fun bt101 => (if bt101.2.2.2 = true then ((spec_tyTurn.f k bt101.1 bt101.2.1 bt101.2.2.1).bind fun bt108 => ((spec_tyText.f k bt108.1 bt108.2.1 bt108.2.2).bind fun t113 => (some (t113, true)))) else (some ((⟨#[]⟩ : ByteArray), false)))) = some (r1, r2) := h
 clear h
 replace H := Option.bind_eq_some_iff.mp H
 obtain ⟨⟨t101, t102, t103, t106⟩, A20, H⟩ := H
 replace H : (if t106 = true then ((spec_tyTurn.f k t101 t102 t103).bind fun bt108 => ((spec_tyText.f k bt108.1 bt108.2.1 bt108.2.2).bind fun t113 => (some (t113, true)))) else (some ((⟨#[]⟩ : ByteArray), false))) = some (r1, r2) := H
 have A2 := Aside0.mk A20
 clear A20
 by_cases c3 : t106 = true
 ·subst c3
  have H1 : ((spec_tyTurn.f k t101 t102 t103).bind fun bt108 => ((spec_tyText.f k bt108.1 bt108.2.1 bt108.2.2).bind fun t113 => (some (t113, true)))) = some (r1, r2) := by rw [if_pos rfl] at H; exact H
  clear H
  have H := H1
  clear H1
  replace H := Option.bind_eq_some_iff.mp H
  obtain ⟨⟨t108, t109, t110⟩, A40, H⟩ := H
  replace H : ((spec_tyText.f k t108 t109 t110).bind fun t113 => (some (t113, true))) = some (r1, r2) := H
  have A4 := Aside0.mk A40
  clear A40
  replace H := Option.bind_eq_some_iff.mp H
  obtain ⟨t113, A50, H⟩ := H
  replace H : (some (t113, true)) = some (r1, r2) := H
  have A5 := Aside0.mk A50
  clear A50
  simp only [Option.some.injEq, Prod.mk.injEq] at H
  obtain ⟨rfl, rfl⟩ := H
  go_enter Tryz.func13, Tryz.ntmps13
  go_wp2_with (first | ((with_reducible refine gate_callee (f := 72) rfl ?_); refine goesL_ (some 8) rfl rfl Tryz.func72 (by kernel_rfl) rfl #[.string a0] rfl aq1 ?_; (with_reducible refine (spec_tyRead.calls k a0 t101 t102 t103 true _ A2.out).mono ?_); rintro e w6 ⟨v104, rfl, ho0, hb⟩; refine ⟨_, rfl, ?_⟩; have n0_ := Aside0.mk (Kd.R_lower ho0 (below_size aq0)); have n1_ := Aside0.mk (below_step aq0 hb); clear HB; have HO105 := n0_; have HB := n1_; clear n0_ n1_; (try clear hb); (try clear hb2); (try clear hk); (try clear hi); (try clear ho0)) | ((with_reducible refine gate_dst (N := 4) rfl ?_); refine box_event ?hg (N := 4) ?hd (cs := #[.int .i64 0, .int .i64 0, .slice none 0 0]) (t := 66) ?hr ?_; (case hd => rfl); (case hg => rfl); (case hr => exact aq23); intro gb107 hg w7 hbox hb; have n0_ := Aside0.mk (Kd.R_below aq15 hb); have n1_ := Aside0.mk (below_step aq0 hb); have n2_ := Aside0.mk (hbox); have n3_ := Aside0.mk ((by rw [hg]; exact (below_size aq0) : w.heap.size ≤ gb107)); have n4_ := Aside0.mk ((by rw [hg]; exact (below_size aq0) : w.heap.size ≤ gb107)); clear HO105; clear HB; have HO105 := n0_; have HB := n1_; have BK107 := n2_; have GW107 := n3_; have GE107 := n4_; clear n0_ n1_ n2_ n3_ n4_; clear hb hbox hg; have hcz8_0 : w7.cell? ⟨gb107, 0, none⟩ = some (.int .i64 0) := (blk_cell BK107.out 0).trans rfl; have hcz8_1 : w7.cell? ⟨gb107, 1, none⟩ = some (.int .i64 0) := (blk_cell BK107.out 1).trans rfl; have hcz8_2 : w7.cell? ⟨gb107, 2, none⟩ = some (.slice none 0 0) := (blk_cell BK107.out 2).trans rfl; have hfz8_0 := blk_frozen BK107.out 0; have hfz8_1 := blk_frozen BK107.out 1; have hfz8_2 := blk_frozen BK107.out 2; obtain ⟨Ao9, co9, eo9⟩ := Kd.R_slice HO105.out; subst eo9) | ((with_reducible refine gate_callee (f := 79) rfl ?_); refine goesL_ (some 14) rfl rfl Tryz.func79 (by kernel_rfl) rfl #[.agg #[.int .i64 t101, .int .i64 t102, .slice Ao9 t103.length co9]] rfl aq1 ?_; (with_reducible refine (spec_tyTurn.calls k t101 t102 _ _ t103 t108 t109 t110 _ ?side1 ?side2 A4.out).mono ?_); (case side1 => refine (Kd.R_reads' (e := 5) (base := w.heap.size) (ok := fun k_ => True) (n := t103.length) (c := co9) ?_).2.2; exact aq24); (case side2 => exact aq98); rintro e w10 ⟨v111, rfl, ho0, hb⟩; refine ⟨_, rfl, ?_⟩; have n0_ := Aside0.mk (Kd.R_elder' aq24 (Kd.R_base ho0) hb); have n1_ := Aside0.mk (Kd.R_lower (Kd.R_new' ho0 (Kd.R_lt aq24)) (below_size aq10)); have n2_ := Aside0.mk (blk_below (g := gb107) (o := .cells #[.int .i64 t101, .int .i64 t102, .slice Ao9 t103.length co9] 66 (0, 0)) aq12 hb); have n3_ := Aside0.mk (below_step aq10 hb); clear HO105; clear BK107; clear HB; have HO105 := n0_; have HO112 := n1_; have BK107 := n2_; have HB := n3_; clear n0_ n1_ n2_ n3_; (try clear hb); (try clear hb2); (try clear hk); (try clear hi); (try clear ho0); obtain ⟨Ao11, co11, eo11⟩ := Kd.R_slice HO112.out; subst eo11) | ((with_reducible refine gate_callee (f := 76) rfl ?_); refine goesL_ (some 15) rfl rfl Tryz.func76 (by kernel_rfl) rfl #[.agg #[.int .i64 t108, .int .i64 t109, .slice Ao11 t110.length co11]] rfl aq1 ?_; (with_reducible refine (spec_tyText.calls k t108 t109 _ _ t110 t113 _ ?side1 ?side2 A5.out).mono ?_); (case side1 => exact aq74); (case side2 => exact (Kd.R_reads' HO112.out).2.1); rintro e w12 ⟨rfl, hb⟩; refine ⟨_, rfl, ?_⟩; have n0_ := Aside0.mk (Kd.R_below aq15 hb); have n1_ := Aside0.mk (Kd.R_below aq28 hb); have n2_ := Aside0.mk (blk_below (g := gb107) (o := .cells #[.int .i64 t101, .int .i64 t102, .slice Ao9 t103.length co9] 66 (0, 0)) aq39 hb); have n3_ := Aside0.mk (below_step aq10 hb); clear HO105; clear HO112; clear BK107; clear HB; have HO105 := n0_; have HO112 := n1_; have BK107 := n2_; have HB := n3_; clear n0_ n1_ n2_ n3_; (try clear hb); (try clear hb2); (try clear hk); (try clear hi)))
  go_ret2
  exact ⟨aq8, aq10⟩
 ·replace c3 := Bool.eq_false_iff.mpr c3
  subst c3
  have H1 : (some ((⟨#[]⟩ : ByteArray), false)) = some (r1, r2) := by rw [if_neg (show ¬ (false = true) by decide)] at H; exact H
  clear H
  have H := H1
  clear H1
  simp only [Option.some.injEq, Prod.mk.injEq] at H
  obtain ⟨rfl, rfl⟩ := H
  go_enter Tryz.func13, Tryz.ntmps13
  go_wp2_with (first | ((with_reducible refine gate_callee (f := 72) rfl ?_); refine goesL_ (some 8) rfl rfl Tryz.func72 (by kernel_rfl) rfl #[.string a0] rfl aq1 ?_; (with_reducible refine (spec_tyRead.calls k a0 t101 t102 t103 false _ A2.out).mono ?_); rintro e w13 ⟨v104, rfl, ho0, hb⟩; refine ⟨_, rfl, ?_⟩; have n0_ := Aside0.mk (Kd.R_lower ho0 (below_size aq0)); have n1_ := Aside0.mk (below_step aq0 hb); clear HB; have HO105 := n0_; have HB := n1_; clear n0_ n1_; (try clear hb); (try clear hb2); (try clear hk); (try clear hi); (try clear ho0)) | ((with_reducible refine gate_dst (N := 4) rfl ?_); refine box_event ?hg (N := 4) ?hd (cs := #[.int .i64 0, .int .i64 0, .slice none 0 0]) (t := 66) ?hr ?_; (case hd => rfl); (case hg => rfl); (case hr => exact aq23); intro gb107 hg w14 hbox hb; have n0_ := Aside0.mk (Kd.R_below aq15 hb); have n1_ := Aside0.mk (below_step aq0 hb); have n2_ := Aside0.mk (hbox); have n3_ := Aside0.mk ((by rw [hg]; exact (below_size aq0) : w.heap.size ≤ gb107)); have n4_ := Aside0.mk ((by rw [hg]; exact (below_size aq0) : w.heap.size ≤ gb107)); clear HO105; clear HB; have HO105 := n0_; have HB := n1_; have BK107 := n2_; have GW107 := n3_; have GE107 := n4_; clear n0_ n1_ n2_ n3_ n4_; clear hb hbox hg; have hcz15_0 : w14.cell? ⟨gb107, 0, none⟩ = some (.int .i64 0) := (blk_cell BK107.out 0).trans rfl; have hcz15_1 : w14.cell? ⟨gb107, 1, none⟩ = some (.int .i64 0) := (blk_cell BK107.out 1).trans rfl; have hcz15_2 : w14.cell? ⟨gb107, 2, none⟩ = some (.slice none 0 0) := (blk_cell BK107.out 2).trans rfl; have hfz15_0 := blk_frozen BK107.out 0; have hfz15_1 := blk_frozen BK107.out 1; have hfz15_2 := blk_frozen BK107.out 2; obtain ⟨Ao16, co16, eo16⟩ := Kd.R_slice HO105.out; subst eo16))
  go_ret2
  exact ⟨aq8, aq10⟩
end Go.Proofs.YtipjmlcbbimfpaaGreatDoor.F

namespace Go.Proofs.YtipjmlcbbimfpaaGreatDoor.F
open Go.Proofs.YtipjmlcbbimfpaaGreatDoor
open Go.RowKit Go.Proofs.YtipjmlcbbimfpaaGreatDoorW.PrintWords Go.Proofs.YtipjmlcbbimfpaaGreatDoorW.PrintLast Go.Proofs.YtipjmlcbbimfpaaGreatDoorW.PrintMore
attribute [local go_sem] max2_int min2_int max_two min_two max_three min_three max_four min_four   -- for this text's walks alone
set_option linter.unusedVariables false
set_option linter.unusedSimpArgs false
def impl_changed__impl_tray_mirrored.f (k : Nat) (a0 : ByteArray)  : Option (ByteArray × Bool) := (impl_IsTray.f k a0).bind fun t101 => (if t101 = true then ((impl_read.f a0).bind fun bt102 => ((impl_tray_mirrored.f bt102.1 bt102.2.1 bt102.2.2).bind fun bt107 => ((impl_tray_text.f bt107.1 bt107.2.1 bt107.2.2).bind fun t112 => (some (t112, true))))) else (some ((⟨#[]⟩ : ByteArray), false)))
set_option maxHeartbeats 8000000 in
set_option maxRecDepth 100000 in
theorem impl_changed__impl_tray_mirrored.calls (k : Nat) (a0 : ByteArray)  (r1 : ByteArray) (r2 : Bool) (w : World) (h : impl_changed__impl_tray_mirrored.f k a0 = some (r1, r2)) :
  Calls Tryz.prog 77 #[.string a0, .func (.func 80) #[] #[]] w fun e w' => e = .returned (.tuple #[.string r1, .bool r2]) ∧ Below w.heap.size w w' := by
 have HB := Aside0.mk (Below.refl w.heap.size w)
 have H : ((impl_IsTray.f k a0).bind fun t101 => (if t101 = true then ((impl_read.f a0).bind fun bt102 => ((impl_tray_mirrored.f bt102.1 bt102.2.1 bt102.2.2).bind fun bt107 => ((impl_tray_text.f bt107.1 bt107.2.1 bt107.2.2).bind fun t112 => (some (t112, true))))) else (some ((⟨#[]⟩ : ByteArray), false)))) = some (r1, r2) := h
 clear h
 replace H := Option.bind_eq_some_iff.mp H
 obtain ⟨t101, A30, H⟩ := H
 replace H : (if t101 = true then ((impl_read.f a0).bind fun bt102 => ((impl_tray_mirrored.f bt102.1 bt102.2.1 bt102.2.2).bind fun bt107 => ((impl_tray_text.f bt107.1 bt107.2.1 bt107.2.2).bind fun t112 => (some (t112, true))))) else (some ((⟨#[]⟩ : ByteArray), false))) = some (r1, r2) := H
 have A3 := Aside0.mk A30
 clear A30
 by_cases c4 : t101 = true
 ·subst c4
  have H1 : ((impl_read.f a0).bind fun bt102 => ((impl_tray_mirrored.f bt102.1 bt102.2.1 bt102.2.2).bind fun bt107 => ((impl_tray_text.f bt107.1 bt107.2.1 bt107.2.2).bind fun t112 => (some (t112, true))))) = some (r1, r2) := by rw [if_pos rfl] at H; exact H
  clear H
  have H := H1
  clear H1
  replace H := Option.bind_eq_some_iff.mp H
  obtain ⟨⟨t102, t103, t104⟩, A50, H⟩ := H
  replace H : ((impl_tray_mirrored.f t102 t103 t104).bind fun bt107 => ((impl_tray_text.f bt107.1 bt107.2.1 bt107.2.2).bind fun t112 => (some (t112, true)))) = some (r1, r2) := H
  have A5 := Aside0.mk A50
  clear A50
  replace H := Option.bind_eq_some_iff.mp H
  obtain ⟨⟨t107, t108, t109⟩, A60, H⟩ := H
  replace H : ((impl_tray_text.f t107 t108 t109).bind fun t112 => (some (t112, true))) = some (r1, r2) := H
  have A6 := Aside0.mk A60
  clear A60
  replace H := Option.bind_eq_some_iff.mp H
  obtain ⟨t112, A70, H⟩ := H
  replace H : (some (t112, true)) = some (r1, r2) := H
  have A7 := Aside0.mk A70
  clear A70
  simp only [Option.some.injEq, Prod.mk.injEq] at H
  obtain ⟨rfl, rfl⟩ := H
  go_enter Tryz.func77, Tryz.ntmps77
  go_wp2_with (first | ((with_reducible refine gate_callee (f := 18) rfl ?_); refine goesL_ (some 7) rfl rfl Tryz.func18 (by kernel_rfl) rfl #[.string a0] rfl aq1 ?_; (with_reducible refine (impl_IsTray.calls k a0 true _ A3.out).mono ?_); rintro e w8 ⟨rfl, hb⟩; refine ⟨_, rfl, ?_⟩; have n0_ := Aside0.mk (below_step aq0 hb); clear HB; have HB := n0_; clear n0_; (try clear hb); (try clear hb2); (try clear hk); (try clear hi)) | ((with_reducible refine gate_callee (f := 70) rfl ?_); refine goesL_ (some 11) rfl rfl Tryz.func70 (by kernel_rfl) rfl #[.string a0] rfl aq1 ?_; (with_reducible refine (impl_read.calls a0 t102 t103 t104 _ A5.out).mono ?_); rintro e w9 ⟨v105, rfl, ho0, hb⟩; refine ⟨_, rfl, ?_⟩; have n0_ := Aside0.mk (Kd.V_lower (Kd.V_mono (ok' := fun k_ => True) ho0 (fun k_ hk_ => trivial)) (below_size aq0)); have n1_ := Aside0.mk (below_step aq0 hb); clear HB; have HO106 := n0_; have HB := n1_; clear n0_ n1_; (try clear hb); (try clear hb2); (try clear hk); (try clear hi); (try clear ho0); obtain ⟨Ao10, co10, eo10⟩ := Kd.V_slice HO106.out; subst eo10) | ((with_reducible refine gate_dst (N := 12) rfl ?_); refine goesT_ (x := .tmp 9) (some 12) rfl rfl Tryz.func80 (by kernel_rfl) rfl #[.agg #[.int .i64 t102, .int .i64 t103, .slice Ao10 t104.length co10]] rfl rfl aq1 ?_; (with_reducible refine (impl_tray_mirrored.calls t102 t103 _ _ t104 t107 t108 t109 _ ?side1 ?side2 A6.out).mono ?_); (case side1 => exact aq47); (case side2 => exact (Kd.V_reads' HO106.out).2.1); rintro e w11 ⟨v110, rfl, ho0, hb⟩; refine ⟨_, rfl, ?_⟩; have n0_ := Aside0.mk (Kd.V_elder' aq33 (Kd.R_base ho0) hb); have n1_ := Aside0.mk (Kd.R_lower ho0 (below_size aq0)); have n2_ := Aside0.mk (below_step aq0 hb); clear HO106; clear HB; have HO106 := n0_; have HO111 := n1_; have HB := n2_; clear n0_ n1_ n2_; (try clear hb); (try clear hb2); (try clear hk); (try clear hi); (try clear ho0); obtain ⟨Ao12, co12, eo12⟩ := Kd.R_slice HO111.out; subst eo12) | ((with_reducible refine gate_callee (f := 96) rfl ?_); refine goesL_ (some 13) rfl rfl Tryz.func96 (by kernel_rfl) rfl #[.agg #[.int .i64 t107, .int .i64 t108, .slice Ao12 t109.length co12]] rfl aq1 ?_; (with_reducible refine (impl_tray_text.calls t107 t108 _ _ t109 t112 _ ?side1 ?side2 A7.out).mono ?_); (case side1 => exact aq78); (case side2 => exact (Kd.R_reads' HO111.out).2.1); rintro e w13 ⟨rfl, hb⟩; refine ⟨_, rfl, ?_⟩; have n0_ := Aside0.mk (Kd.V_below aq33 hb); have n1_ := Aside0.mk (Kd.R_below aq90 hb); have n2_ := Aside0.mk (below_step aq0 hb); clear HO106; clear HO111; clear HB; have HO106 := n0_; have HO111 := n1_; have HB := n2_; clear n0_ n1_ n2_; (try clear hb); (try clear hb2); (try clear hk); (try clear hi)))
  go_ret2
  exact ⟨aq8, aq0⟩
 ·replace c4 := Bool.eq_false_iff.mpr c4
  subst c4
  have H1 : (some ((⟨#[]⟩ : ByteArray), false)) = some (r1, r2) := by rw [if_neg (show ¬ (false = true) by decide)] at H; exact H
  clear H
  have H := H1
  clear H1
  simp only [Option.some.injEq, Prod.mk.injEq] at H
  obtain ⟨rfl, rfl⟩ := H
  go_enter Tryz.func77, Tryz.ntmps77
  go_wp2_with (first | ((with_reducible refine gate_callee (f := 18) rfl ?_); refine goesL_ (some 7) rfl rfl Tryz.func18 (by kernel_rfl) rfl #[.string a0] rfl aq1 ?_; (with_reducible refine (impl_IsTray.calls k a0 false _ A3.out).mono ?_); rintro e w14 ⟨rfl, hb⟩; refine ⟨_, rfl, ?_⟩; have n0_ := Aside0.mk (below_step aq0 hb); clear HB; have HB := n0_; clear n0_; (try clear hb); (try clear hb2); (try clear hk); (try clear hi)))
  go_ret2
  exact ⟨aq8, aq0⟩
end Go.Proofs.YtipjmlcbbimfpaaGreatDoor.F

namespace Go.Proofs.YtipjmlcbbimfpaaGreatDoor.F
open Go.Proofs.YtipjmlcbbimfpaaGreatDoor
open Go.RowKit Go.Proofs.YtipjmlcbbimfpaaGreatDoorW.PrintWords Go.Proofs.YtipjmlcbbimfpaaGreatDoorW.PrintLast Go.Proofs.YtipjmlcbbimfpaaGreatDoorW.PrintMore
attribute [local go_sem] max2_int min2_int max_two min_two max_three min_three max_four min_four   -- for this text's walks alone
set_option linter.unusedVariables false
set_option linter.unusedSimpArgs false
def impl_MirrorTray.f (k : Nat) (a0 : ByteArray) : Option (ByteArray × Bool) := (impl_changed__impl_tray_mirrored.f k a0).bind fun bt101 => (some (bt101.1, bt101.2))
set_option maxHeartbeats 8000000 in
set_option maxRecDepth 100000 in
theorem impl_MirrorTray.calls (k : Nat) (a0 : ByteArray) (r1 : ByteArray) (r2 : Bool) (w : World) (h : impl_MirrorTray.f k a0 = some (r1, r2)) :
  Calls Tryz.prog 14 #[.string a0] w fun e w' => e = .returned (.tuple #[.string r1, .bool r2]) ∧ Below w.heap.size w w' := by
 have HB := Aside0.mk (Below.refl w.heap.size w)
 have H : ((impl_changed__impl_tray_mirrored.f k a0).bind fun bt101 => (some (bt101.1, bt101.2))) = some (r1, r2) := h
 clear h
 replace H := Option.bind_eq_some_iff.mp H
 obtain ⟨⟨t101, t102⟩, A20, H⟩ := H
 replace H : (some (t101, t102)) = some (r1, r2) := H
 have A2 := Aside0.mk A20
 clear A20
 simp only [Option.some.injEq, Prod.mk.injEq] at H
 obtain ⟨rfl, rfl⟩ := H
 go_enter Tryz.func14, Tryz.ntmps14
 go_wp2_with (first | ((with_reducible refine gate_callee (f := 77) rfl ?_); refine goesL_ (some 5) rfl rfl Tryz.func77 (by kernel_rfl) rfl #[.string a0, .func (.func 80) #[] #[]] rfl aq1 ?_; (with_reducible refine (impl_changed__impl_tray_mirrored.calls k a0  t101 t102 _ A2.out).mono ?_); rintro e w3 ⟨rfl, hb⟩; refine ⟨_, rfl, ?_⟩; have n0_ := Aside0.mk (below_step aq0 hb); clear HB; have HB := n0_; clear n0_; (try clear hb); (try clear hb2); (try clear hk); (try clear hi)))
 go_ret2
 exact ⟨aq8, aq0⟩
end Go.Proofs.YtipjmlcbbimfpaaGreatDoor.F

namespace Go.Proofs.YtipjmlcbbimfpaaGreatDoor.F
open Go.Proofs.YtipjmlcbbimfpaaGreatDoor
open Go.RowKit Go.Proofs.YtipjmlcbbimfpaaGreatDoorW.PrintWords Go.Proofs.YtipjmlcbbimfpaaGreatDoorW.PrintLast Go.Proofs.YtipjmlcbbimfpaaGreatDoorW.PrintMore
attribute [local go_sem] max2_int min2_int max_two min_two max_three min_three max_four min_four   -- for this text's walks alone
set_option linter.unusedVariables false
set_option linter.unusedSimpArgs false
def spec_MirrorTray.f (k : Nat) (a0 : ByteArray) : Option (ByteArray × Bool) := (spec_tyRead.f k a0).bind fun bt101 => (if bt101.2.2.2 = true then ((spec_tyMirror.f k bt101.1 bt101.2.1 bt101.2.2.1).bind fun bt108 => ((spec_tyText.f k bt108.1 bt108.2.1 bt108.2.2).bind fun t113 => (some (t113, true)))) else (some ((⟨#[]⟩ : ByteArray), false)))
set_option maxHeartbeats 8000000 in
set_option maxRecDepth 100000 in
theorem spec_MirrorTray.calls (k : Nat) (a0 : ByteArray) (r1 : ByteArray) (r2 : Bool) (w : World) (h : spec_MirrorTray.f k a0 = some (r1, r2)) :
  Calls Tryz.prog 15 #[.string a0] w fun e w' => e = .returned (.tuple #[.string r1, .bool r2]) ∧ Below w.heap.size w w' := by
 have hu66 := Tryz.underlying66
 have HB := Aside0.mk (Below.refl w.heap.size w)
 have H : ((spec_tyRead.f k a0).bind fun bt101 => (if bt101.2.2.2 = true then ((spec_tyMirror.f k bt101.1 bt101.2.1 bt101.2.2.1).bind fun bt108 => ((spec_tyText.f k bt108.1 bt108.2.1 bt108.2.2).bind fun t113 => (some (t113, true)))) else (some ((⟨#[]⟩ : ByteArray), false)))) = some (r1, r2) := h
 clear h
 replace H := Option.bind_eq_some_iff.mp H
 obtain ⟨⟨t101, t102, t103, t106⟩, A20, H⟩ := H
 replace H : (if t106 = true then ((spec_tyMirror.f k t101 t102 t103).bind fun bt108 => ((spec_tyText.f k bt108.1 bt108.2.1 bt108.2.2).bind fun t113 => (some (t113, true)))) else (some ((⟨#[]⟩ : ByteArray), false))) = some (r1, r2) := H
 have A2 := Aside0.mk A20
 clear A20
 by_cases c3 : t106 = true
 ·subst c3
  have H1 : ((spec_tyMirror.f k t101 t102 t103).bind fun bt108 => ((spec_tyText.f k bt108.1 bt108.2.1 bt108.2.2).bind fun t113 => (some (t113, true)))) = some (r1, r2) := by rw [if_pos rfl] at H; exact H
  clear H
  have H := H1
  clear H1
  replace H := Option.bind_eq_some_iff.mp H
  obtain ⟨⟨t108, t109, t110⟩, A40, H⟩ := H
  replace H : ((spec_tyText.f k t108 t109 t110).bind fun t113 => (some (t113, true))) = some (r1, r2) := H
  have A4 := Aside0.mk A40
  clear A40
  replace H := Option.bind_eq_some_iff.mp H
  obtain ⟨t113, A50, H⟩ := H
  replace H : (some (t113, true)) = some (r1, r2) := H
  have A5 := Aside0.mk A50
  clear A50
  simp only [Option.some.injEq, Prod.mk.injEq] at H
  obtain ⟨rfl, rfl⟩ := H
  go_enter Tryz.func15, Tryz.ntmps15
  go_wp2_with (first | ((with_reducible refine gate_callee (f := 72) rfl ?_); refine goesL_ (some 8) rfl rfl Tryz.func72 (by kernel_rfl) rfl #[.string a0] rfl aq1 ?_; (with_reducible refine (spec_tyRead.calls k a0 t101 t102 t103 true _ A2.out).mono ?_); rintro e w6 ⟨v104, rfl, ho0, hb⟩; refine ⟨_, rfl, ?_⟩; have n0_ := Aside0.mk (Kd.R_lower ho0 (below_size aq0)); have n1_ := Aside0.mk (below_step aq0 hb); clear HB; have HO105 := n0_; have HB := n1_; clear n0_ n1_; (try clear hb); (try clear hb2); (try clear hk); (try clear hi); (try clear ho0)) | ((with_reducible refine gate_dst (N := 4) rfl ?_); refine box_event ?hg (N := 4) ?hd (cs := #[.int .i64 0, .int .i64 0, .slice none 0 0]) (t := 66) ?hr ?_; (case hd => rfl); (case hg => rfl); (case hr => exact aq23); intro gb107 hg w7 hbox hb; have n0_ := Aside0.mk (Kd.R_below aq15 hb); have n1_ := Aside0.mk (below_step aq0 hb); have n2_ := Aside0.mk (hbox); have n3_ := Aside0.mk ((by rw [hg]; exact (below_size aq0) : w.heap.size ≤ gb107)); have n4_ := Aside0.mk ((by rw [hg]; exact (below_size aq0) : w.heap.size ≤ gb107)); clear HO105; clear HB; have HO105 := n0_; have HB := n1_; have BK107 := n2_; have GW107 := n3_; have GE107 := n4_; clear n0_ n1_ n2_ n3_ n4_; clear hb hbox hg; have hcz8_0 : w7.cell? ⟨gb107, 0, none⟩ = some (.int .i64 0) := (blk_cell BK107.out 0).trans rfl; have hcz8_1 : w7.cell? ⟨gb107, 1, none⟩ = some (.int .i64 0) := (blk_cell BK107.out 1).trans rfl; have hcz8_2 : w7.cell? ⟨gb107, 2, none⟩ = some (.slice none 0 0) := (blk_cell BK107.out 2).trans rfl; have hfz8_0 := blk_frozen BK107.out 0; have hfz8_1 := blk_frozen BK107.out 1; have hfz8_2 := blk_frozen BK107.out 2; obtain ⟨Ao9, co9, eo9⟩ := Kd.R_slice HO105.out; subst eo9) | ((with_reducible refine gate_callee (f := 81) rfl ?_); refine goesL_ (some 14) rfl rfl Tryz.func81 (by kernel_rfl) rfl #[.agg #[.int .i64 t101, .int .i64 t102, .slice Ao9 t103.length co9]] rfl aq1 ?_; (with_reducible refine (spec_tyMirror.calls k t101 t102 _ _ t103 t108 t109 t110 _ ?side1 ?side2 A4.out).mono ?_); (case side1 => refine (Kd.R_reads' (e := 5) (base := w.heap.size) (ok := fun k_ => True) (n := t103.length) (c := co9) ?_).2.2; exact aq24); (case side2 => exact aq98); rintro e w10 ⟨v111, rfl, ho0, hb⟩; refine ⟨_, rfl, ?_⟩; have n0_ := Aside0.mk (Kd.R_elder' aq24 (Kd.R_base ho0) hb); have n1_ := Aside0.mk (Kd.R_lower (Kd.R_new' ho0 (Kd.R_lt aq24)) (below_size aq10)); have n2_ := Aside0.mk (blk_below (g := gb107) (o := .cells #[.int .i64 t101, .int .i64 t102, .slice Ao9 t103.length co9] 66 (0, 0)) aq12 hb); have n3_ := Aside0.mk (below_step aq10 hb); clear HO105; clear BK107; clear HB; have HO105 := n0_; have HO112 := n1_; have BK107 := n2_; have HB := n3_; clear n0_ n1_ n2_ n3_; (try clear hb); (try clear hb2); (try clear hk); (try clear hi); (try clear ho0); obtain ⟨Ao11, co11, eo11⟩ := Kd.R_slice HO112.out; subst eo11) | ((with_reducible refine gate_callee (f := 76) rfl ?_); refine goesL_ (some 15) rfl rfl Tryz.func76 (by kernel_rfl) rfl #[.agg #[.int .i64 t108, .int .i64 t109, .slice Ao11 t110.length co11]] rfl aq1 ?_; (with_reducible refine (spec_tyText.calls k t108 t109 _ _ t110 t113 _ ?side1 ?side2 A5.out).mono ?_); (case side1 => exact aq74); (case side2 => exact (Kd.R_reads' HO112.out).2.1); rintro e w12 ⟨rfl, hb⟩; refine ⟨_, rfl, ?_⟩; have n0_ := Aside0.mk (Kd.R_below aq15 hb); have n1_ := Aside0.mk (Kd.R_below aq28 hb); have n2_ := Aside0.mk (blk_below (g := gb107) (o := .cells #[.int .i64 t101, .int .i64 t102, .slice Ao9 t103.length co9] 66 (0, 0)) aq39 hb); have n3_ := Aside0.mk (below_step aq10 hb); clear HO105; clear HO112; clear BK107; clear HB; have HO105 := n0_; have HO112 := n1_; have BK107 := n2_; have HB := n3_; clear n0_ n1_ n2_ n3_; (try clear hb); (try clear hb2); (try clear hk); (try clear hi)))
  go_ret2
  exact ⟨aq8, aq10⟩
 ·replace c3 := Bool.eq_false_iff.mpr c3
  subst c3
  have H1 : (some ((⟨#[]⟩ : ByteArray), false)) = some (r1, r2) := by rw [if_neg (show ¬ (false = true) by decide)] at H; exact H
  clear H
  have H := H1
  clear H1
  simp only [Option.some.injEq, Prod.mk.injEq] at H
  obtain ⟨rfl, rfl⟩ := H
  go_enter Tryz.func15, Tryz.ntmps15
  go_wp2_with (first | ((with_reducible refine gate_callee (f := 72) rfl ?_); refine goesL_ (some 8) rfl rfl Tryz.func72 (by kernel_rfl) rfl #[.string a0] rfl aq1 ?_; (with_reducible refine (spec_tyRead.calls k a0 t101 t102 t103 false _ A2.out).mono ?_); rintro e w13 ⟨v104, rfl, ho0, hb⟩; refine ⟨_, rfl, ?_⟩; have n0_ := Aside0.mk (Kd.R_lower ho0 (below_size aq0)); have n1_ := Aside0.mk (below_step aq0 hb); clear HB; have HO105 := n0_; have HB := n1_; clear n0_ n1_; (try clear hb); (try clear hb2); (try clear hk); (try clear hi); (try clear ho0)) | ((with_reducible refine gate_dst (N := 4) rfl ?_); refine box_event ?hg (N := 4) ?hd (cs := #[.int .i64 0, .int .i64 0, .slice none 0 0]) (t := 66) ?hr ?_; (case hd => rfl); (case hg => rfl); (case hr => exact aq23); intro gb107 hg w14 hbox hb; have n0_ := Aside0.mk (Kd.R_below aq15 hb); have n1_ := Aside0.mk (below_step aq0 hb); have n2_ := Aside0.mk (hbox); have n3_ := Aside0.mk ((by rw [hg]; exact (below_size aq0) : w.heap.size ≤ gb107)); have n4_ := Aside0.mk ((by rw [hg]; exact (below_size aq0) : w.heap.size ≤ gb107)); clear HO105; clear HB; have HO105 := n0_; have HB := n1_; have BK107 := n2_; have GW107 := n3_; have GE107 := n4_; clear n0_ n1_ n2_ n3_ n4_; clear hb hbox hg; have hcz15_0 : w14.cell? ⟨gb107, 0, none⟩ = some (.int .i64 0) := (blk_cell BK107.out 0).trans rfl; have hcz15_1 : w14.cell? ⟨gb107, 1, none⟩ = some (.int .i64 0) := (blk_cell BK107.out 1).trans rfl; have hcz15_2 : w14.cell? ⟨gb107, 2, none⟩ = some (.slice none 0 0) := (blk_cell BK107.out 2).trans rfl; have hfz15_0 := blk_frozen BK107.out 0; have hfz15_1 := blk_frozen BK107.out 1; have hfz15_2 := blk_frozen BK107.out 2; obtain ⟨Ao16, co16, eo16⟩ := Kd.R_slice HO105.out; subst eo16))
  go_ret2
  exact ⟨aq8, aq10⟩
end Go.Proofs.YtipjmlcbbimfpaaGreatDoor.F

namespace Go.Proofs.YtipjmlcbbimfpaaGreatDoor.F
open Go.Proofs.YtipjmlcbbimfpaaGreatDoor
open Go.RowKit Go.Proofs.YtipjmlcbbimfpaaGreatDoorW.PrintWords Go.Proofs.YtipjmlcbbimfpaaGreatDoorW.PrintLast Go.Proofs.YtipjmlcbbimfpaaGreatDoorW.PrintMore
attribute [local go_sem] max2_int min2_int max_two min_two max_three min_three max_four min_four   -- for this text's walks alone
set_option linter.unusedVariables false
set_option linter.unusedSimpArgs false
def impl_TransposeTray_1.f (k : Nat) (a0_0 : Int) (a0_1 : Int) (l0_2 : List Int) : Option (Int × Int × List Int) := (impl_tray_turned.f k a0_0 a0_1 l0_2).bind fun bt103 => ((impl_tray_mirrored.f bt103.1 bt103.2.1 bt103.2.2).bind fun bt108 => (some (bt108.1, bt108.2.1, bt108.2.2)))
set_option maxHeartbeats 8000000 in
set_option maxRecDepth 100000 in
theorem impl_TransposeTray_1.calls (k : Nat) (a0_0 : Int) (a0_1 : Int) (A0_2 : Option Addr) (c0_2 : Nat) (l0_2 : List Int) (r1 : Int) (r2 : Int) (r3 : List Int) (w : World) (hr0_2 : Kd.C (Kd.int .u8) w A0_2 l0_2.length l0_2) (hc0_2 : l0_2.length ≤ c0_2) (h : impl_TransposeTray_1.f k a0_0 a0_1 l0_2 = some (r1, r2, r3)) :
  Calls Tryz.prog 82 #[.agg #[.int .i64 a0_0, .int .i64 a0_1, .slice A0_2 l0_2.length c0_2]] w fun e w' => ∃ v2_ : Value, e = .returned (.agg #[.int .i64 r1, .int .i64 r2, v2_]) ∧ Kd.R (Kd.int .u8) 5 w' w.heap.size (fun _ => True) v2_ r3 ∧ Below w.heap.size w w' := by
 have hu62 := Tryz.underlying62
 have HR0_2 := Aside0.mk hr0_2
 have HC0_2 := Aside0.mk hc0_2
 clear hr0_2 hc0_2
 have HB := Aside0.mk (Below.refl w.heap.size w)
 have H : ((impl_tray_turned.f k a0_0 a0_1 l0_2).bind fun bt103 => ((impl_tray_mirrored.f bt103.1 bt103.2.1 bt103.2.2).bind fun bt108 => (some (bt108.1, bt108.2.1, bt108.2.2)))) = some (r1, r2, r3) := h
 clear h
 replace H := Option.bind_eq_some_iff.mp H
 obtain ⟨⟨t103, t104, t105⟩, A20, H⟩ := H
 replace H : ((impl_tray_mirrored.f t103 t104 t105).bind fun bt108 => (some (bt108.1, bt108.2.1, bt108.2.2))) = some (r1, r2, r3) := H
 have A2 := Aside0.mk A20
 clear A20
 replace H := Option.bind_eq_some_iff.mp H
 obtain ⟨⟨t108, t109, t110⟩, A30, H⟩ := H
 replace H : (some (t108, t109, t110)) = some (r1, r2, r3) := H
 have A3 := Aside0.mk A30
 clear A30
 simp only [Option.some.injEq, Prod.mk.injEq] at H
 obtain ⟨rfl, rfl, rfl⟩ := H
 go_enter Tryz.func82, Tryz.ntmps82
 go_wp2_with (first | ((with_reducible refine gate_dst (N := 1) rfl ?_); refine box_event ?hg (N := 1) ?hd (cs := #[.int .i64 a0_0, .int .i64 a0_1, .slice A0_2 l0_2.length c0_2]) (t := 62) ?hr ?_; (case hd => rfl); (case hg => rfl); (case hr => exact aq23); intro gb101 hg w4 hbox hb; have n0_ := Aside0.mk (below_step aq0 hb); have n1_ := Aside0.mk (hbox); have n2_ := Aside0.mk ((by rw [hg]; exact (below_size aq0) : w.heap.size ≤ gb101)); have n3_ := Aside0.mk ((by rw [hg]; exact (below_size aq0) : w.heap.size ≤ gb101)); clear HB; have HB := n0_; have BK101 := n1_; have GW101 := n2_; have GE101 := n3_; clear n0_ n1_ n2_ n3_; clear hb hbox hg) | ((with_reducible refine gate_dst (N := 2) rfl ?_); refine box_event ?hg (N := 2) ?hd (cs := #[.int .i64 0, .int .i64 0, .slice none 0 0]) (t := 62) ?hr ?_; (case hd => rfl); (case hg => rfl); (case hr => exact aq23); intro gb102 hg w5 hbox hb; have n0_ := Aside0.mk (blk_below (g := gb101) (o := .cells #[.int .i64 a0_0, .int .i64 a0_1, .slice A0_2 l0_2.length c0_2] 62 (0, 0)) aq5 hb); have n1_ := Aside0.mk (below_step aq6 hb); have n2_ := Aside0.mk (hbox); have n3_ := Aside0.mk ((by rw [hg]; exact (below_size aq6) : w.heap.size ≤ gb102)); have n4_ := Aside0.mk ((by rw [hg]; exact (below_size aq6) : w.heap.size ≤ gb102)); have n5_ := Aside0.mk ((by rw [hg]; exact Nat.ne_of_lt (blk_lt (g := gb101) (o := .cells #[.int .i64 a0_0, .int .i64 a0_1, .slice A0_2 l0_2.length c0_2] 62 (0, 0)) aq5) : gb101 ≠ gb102)); have n6_ := Aside0.mk ((by rw [hg]; exact Nat.ne_of_gt (blk_lt (g := gb101) (o := .cells #[.int .i64 a0_0, .int .i64 a0_1, .slice A0_2 l0_2.length c0_2] 62 (0, 0)) aq5) : gb102 ≠ gb101)); clear BK101; clear HB; have BK101 := n0_; have HB := n1_; have BK102 := n2_; have GW102 := n3_; have GE102 := n4_; have NB101_102 := n5_; have NB102_101 := n6_; clear n0_ n1_ n2_ n3_ n4_ n5_ n6_; clear hb hbox hg; have hnb6 := NB101_102.out; have hnc6 := NB102_101.out; have hcz7_0 : w5.cell? ⟨gb101, 0, none⟩ = some (.int .i64 a0_0) := (blk_cell BK101.out 0).trans rfl; have hcz7_1 : w5.cell? ⟨gb101, 1, none⟩ = some (.int .i64 a0_1) := (blk_cell BK101.out 1).trans rfl; have hcz7_2 : w5.cell? ⟨gb101, 2, none⟩ = some (.slice A0_2 l0_2.length c0_2) := (blk_cell BK101.out 2).trans rfl; have hfz7_0 := blk_frozen BK101.out 0; have hfz7_1 := blk_frozen BK101.out 1; have hfz7_2 := blk_frozen BK101.out 2) | ((with_reducible refine gate_callee (f := 78) rfl ?_); refine goesL_ (some 4) rfl rfl Tryz.func78 (by kernel_rfl) rfl #[.agg #[.int .i64 a0_0, .int .i64 a0_1, .slice A0_2 l0_2.length c0_2]] rfl aq1 ?_; (with_reducible refine (impl_tray_turned.calls k a0_0 a0_1 _ _ l0_2 t103 t104 t105 _ ?side1 ?side2 A2.out).mono ?_); (case side1 => exact aq73); (case side2 => exact HC0_2.out); rintro e w8 ⟨v106, rfl, ho0, hb⟩; refine ⟨_, rfl, ?_⟩; have n0_ := Aside0.mk (Kd.R_lower ho0 (below_size aq7)); have n1_ := Aside0.mk (blk_below (g := gb101) (o := .cells #[.int .i64 a0_0, .int .i64 a0_1, .slice A0_2 l0_2.length c0_2] 62 (0, 0)) aq5 hb); have n2_ := Aside0.mk (blk_below (g := gb102) (o := .cells #[.int .i64 0, .int .i64 0, .slice none 0 0] 62 (0, 0)) aq14 hb); have n3_ := Aside0.mk (below_step aq7 hb); clear BK101; clear BK102; clear HB; have HO107 := n0_; have BK101 := n1_; have BK102 := n2_; have HB := n3_; clear n0_ n1_ n2_ n3_; (try clear hb); (try clear hb2); (try clear hk); (try clear hi); (try clear ho0); obtain ⟨Ao9, co9, eo9⟩ := Kd.R_slice HO107.out; subst eo9) | ((with_reducible refine gate_callee (f := 80) rfl ?_); refine goesL_ (some 5) rfl rfl Tryz.func80 (by kernel_rfl) rfl #[.agg #[.int .i64 t103, .int .i64 t104, .slice Ao9 t105.length co9]] rfl aq1 ?_; (with_reducible refine (impl_tray_mirrored.calls t103 t104 _ _ t105 t108 t109 t110 _ ?side1 ?side2 A3.out).mono ?_); (case side1 => exact aq79); (case side2 => exact (Kd.R_reads' HO107.out).2.1); rintro e w10 ⟨v111, rfl, ho0, hb⟩; refine ⟨_, rfl, ?_⟩; have n0_ := Aside0.mk (Kd.R_elder' aq80 (Kd.R_base ho0) hb); have n1_ := Aside0.mk (Kd.R_lower (Kd.R_new' ho0 (Kd.R_lt aq80)) (below_size aq7)); have n2_ := Aside0.mk (blk_below (g := gb101) (o := .cells #[.int .i64 a0_0, .int .i64 a0_1, .slice A0_2 l0_2.length c0_2] 62 (0, 0)) aq5 hb); have n3_ := Aside0.mk (blk_below (g := gb102) (o := .cells #[.int .i64 0, .int .i64 0, .slice none 0 0] 62 (0, 0)) aq14 hb); have n4_ := Aside0.mk (below_step aq7 hb); clear HO107; clear BK101; clear BK102; clear HB; have HO107 := n0_; have HO112 := n1_; have BK101 := n2_; have BK102 := n3_; have HB := n4_; clear n0_ n1_ n2_ n3_ n4_; (try clear hb); (try clear hb2); (try clear hk); (try clear hi); (try clear ho0); have hcz11_0 : w10.cell? ⟨gb102, 0, none⟩ = some (.int .i64 0) := (blk_cell BK102.out 0).trans rfl; have hcz11_1 : w10.cell? ⟨gb102, 1, none⟩ = some (.int .i64 0) := (blk_cell BK102.out 1).trans rfl; have hcz11_2 : w10.cell? ⟨gb102, 2, none⟩ = some (.slice none 0 0) := (blk_cell BK102.out 2).trans rfl; have hfz11_0 := blk_frozen BK102.out 0; have hfz11_1 := blk_frozen BK102.out 1; have hfz11_2 := blk_frozen BK102.out 2; obtain ⟨Ao12, co12, eo12⟩ := Kd.R_slice HO112.out; subst eo12))
 refine bodyPost_ret (results_cell_row rfl _ _ gb102 62 #[.int .i64 t108, .int .i64 t109, .slice Ao12 t110.length co12] (0, 0) _ rfl (by (with_reducible repeat (first | refine blk_drewN ?_ _ | refine blk_drew ?_ | refine blk_alloc ?_ _)); refine blk_put (cs := #[.int .i64 t108, .int .i64 t109, .slice none 0 0]) ?_ 2 _ rfl; (with_reducible repeat (first | refine blk_drewN ?_ _ | refine blk_drew ?_ | refine blk_alloc ?_ _)); refine blk_put (cs := #[.int .i64 t108, .int .i64 0, .slice none 0 0]) ?_ 1 _ rfl; (with_reducible repeat (first | refine blk_drewN ?_ _ | refine blk_drew ?_ | refine blk_alloc ?_ _)); refine blk_put (cs := #[.int .i64 0, .int .i64 0, .slice none 0 0]) ?_ 0 _ rfl; (with_reducible repeat (first | refine blk_drewN ?_ _ | refine blk_drew ?_ | refine blk_alloc ?_ _)); exact BK102.out) Tryz.underlying62 rfl (by kernel_rfl)) rfl ?_
 exact ⟨_, aq8, by (with_reducible repeat (first | apply Kd.R_alloc | apply Kd.R_drewN | apply Kd.R_drew)); exact Kd.R_mono (Kd.R_far (p := ⟨gb102, 2, none⟩) (Kd.R_far (p := ⟨gb102, 1, none⟩) (Kd.R_far (p := ⟨gb102, 0, none⟩) (Kd.R_types HO112.out BK102.out (by decide)) (fun _ hk => hk.2) (.int .i64 t108)) (fun _ hk => hk.2) (.int .i64 t109)) (fun _ hk => hk.2) (.slice Ao12 t110.length co12)) (fun _ hk => trivial), aq7⟩
end Go.Proofs.YtipjmlcbbimfpaaGreatDoor.F

namespace Go.Proofs.YtipjmlcbbimfpaaGreatDoor.F
open Go.Proofs.YtipjmlcbbimfpaaGreatDoor
open Go.RowKit Go.Proofs.YtipjmlcbbimfpaaGreatDoorW.PrintWords Go.Proofs.YtipjmlcbbimfpaaGreatDoorW.PrintLast Go.Proofs.YtipjmlcbbimfpaaGreatDoorW.PrintMore
attribute [local go_sem] max2_int min2_int max_two min_two max_three min_three max_four min_four   -- for this text's walks alone
set_option linter.unusedVariables false
set_option linter.unusedSimpArgs false
def impl_changed__impl_TransposeTray_1.f (k : Nat) (a0 : ByteArray)  : Option (ByteArray × Bool) := (impl_IsTray.f k a0).bind fun t101 => (if t101 = true then ((impl_read.f a0).bind fun bt102 => ((impl_TransposeTray_1.f k bt102.1 bt102.2.1 bt102.2.2).bind fun bt107 => ((impl_tray_text.f bt107.1 bt107.2.1 bt107.2.2).bind fun t112 => (some (t112, true))))) else (some ((⟨#[]⟩ : ByteArray), false)))
set_option maxHeartbeats 8000000 in
set_option maxRecDepth 100000 in
theorem impl_changed__impl_TransposeTray_1.calls (k : Nat) (a0 : ByteArray)  (r1 : ByteArray) (r2 : Bool) (w : World) (h : impl_changed__impl_TransposeTray_1.f k a0 = some (r1, r2)) :
  Calls Tryz.prog 77 #[.string a0, .func (.func 82) #[] #[]] w fun e w' => e = .returned (.tuple #[.string r1, .bool r2]) ∧ Below w.heap.size w w' := by
 have HB := Aside0.mk (Below.refl w.heap.size w)
 have H : ((impl_IsTray.f k a0).bind fun t101 => (if t101 = true then ((impl_read.f a0).bind fun bt102 => ((impl_TransposeTray_1.f k bt102.1 bt102.2.1 bt102.2.2).bind fun bt107 => ((impl_tray_text.f bt107.1 bt107.2.1 bt107.2.2).bind fun t112 => (some (t112, true))))) else (some ((⟨#[]⟩ : ByteArray), false)))) = some (r1, r2) := h
 clear h
 replace H := Option.bind_eq_some_iff.mp H
 obtain ⟨t101, A30, H⟩ := H
 replace H : (if t101 = true then ((impl_read.f a0).bind fun bt102 => ((impl_TransposeTray_1.f k bt102.1 bt102.2.1 bt102.2.2).bind fun bt107 => ((impl_tray_text.f bt107.1 bt107.2.1 bt107.2.2).bind fun t112 => (some (t112, true))))) else (some ((⟨#[]⟩ : ByteArray), false))) = some (r1, r2) := H
 have A3 := Aside0.mk A30
 clear A30
 by_cases c4 : t101 = true
 ·subst c4
  have H1 : ((impl_read.f a0).bind fun bt102 => ((impl_TransposeTray_1.f k bt102.1 bt102.2.1 bt102.2.2).bind fun bt107 => ((impl_tray_text.f bt107.1 bt107.2.1 bt107.2.2).bind fun t112 => (some (t112, true))))) = some (r1, r2) := by rw [if_pos rfl] at H; exact H
  clear H
  have H := H1
  clear H1
  replace H := Option.bind_eq_some_iff.mp H
  obtain ⟨⟨t102, t103, t104⟩, A50, H⟩ := H
  replace H : ((impl_TransposeTray_1.f k t102 t103 t104).bind fun bt107 => ((impl_tray_text.f bt107.1 bt107.2.1 bt107.2.2).bind fun t112 => (some (t112, true)))) = some (r1, r2) := H
  have A5 := Aside0.mk A50
  clear A50
  replace H := Option.bind_eq_some_iff.mp H
  obtain ⟨⟨t107, t108, t109⟩, A60, H⟩ := H
  replace H : ((impl_tray_text.f t107 t108 t109).bind fun t112 => (some (t112, true))) = some (r1, r2) := H
  have A6 := Aside0.mk A60
  clear A60
  replace H := Option.bind_eq_some_iff.mp H
  obtain ⟨t112, A70, H⟩ := H
  replace H : (some (t112, true)) = some (r1, r2) := H
  have A7 := Aside0.mk A70
  clear A70
  simp only [Option.some.injEq, Prod.mk.injEq] at H
  obtain ⟨rfl, rfl⟩ := H
  go_enter Tryz.func77, Tryz.ntmps77
  go_wp2_with (first | ((with_reducible refine gate_callee (f := 18) rfl ?_); refine goesL_ (some 7) rfl rfl Tryz.func18 (by kernel_rfl) rfl #[.string a0] rfl aq1 ?_; (with_reducible refine (impl_IsTray.calls k a0 true _ A3.out).mono ?_); rintro e w8 ⟨rfl, hb⟩; refine ⟨_, rfl, ?_⟩; have n0_ := Aside0.mk (below_step aq0 hb); clear HB; have HB := n0_; clear n0_; (try clear hb); (try clear hb2); (try clear hk); (try clear hi)) | ((with_reducible refine gate_callee (f := 70) rfl ?_); refine goesL_ (some 11) rfl rfl Tryz.func70 (by kernel_rfl) rfl #[.string a0] rfl aq1 ?_; (with_reducible refine (impl_read.calls a0 t102 t103 t104 _ A5.out).mono ?_); rintro e w9 ⟨v105, rfl, ho0, hb⟩; refine ⟨_, rfl, ?_⟩; have n0_ := Aside0.mk (Kd.V_lower (Kd.V_mono (ok' := fun k_ => True) ho0 (fun k_ hk_ => trivial)) (below_size aq0)); have n1_ := Aside0.mk (below_step aq0 hb); clear HB; have HO106 := n0_; have HB := n1_; clear n0_ n1_; (try clear hb); (try clear hb2); (try clear hk); (try clear hi); (try clear ho0); obtain ⟨Ao10, co10, eo10⟩ := Kd.V_slice HO106.out; subst eo10) | ((with_reducible refine gate_dst (N := 12) rfl ?_); refine goesT_ (x := .tmp 9) (some 12) rfl rfl Tryz.func82 (by kernel_rfl) rfl #[.agg #[.int .i64 t102, .int .i64 t103, .slice Ao10 t104.length co10]] rfl rfl aq1 ?_; (with_reducible refine (impl_TransposeTray_1.calls k t102 t103 _ _ t104 t107 t108 t109 _ ?side1 ?side2 A6.out).mono ?_); (case side1 => exact aq47); (case side2 => exact (Kd.V_reads' HO106.out).2.1); rintro e w11 ⟨v110, rfl, ho0, hb⟩; refine ⟨_, rfl, ?_⟩; have n0_ := Aside0.mk (Kd.V_elder' aq33 (Kd.R_base ho0) hb); have n1_ := Aside0.mk (Kd.R_lower ho0 (below_size aq0)); have n2_ := Aside0.mk (below_step aq0 hb); clear HO106; clear HB; have HO106 := n0_; have HO111 := n1_; have HB := n2_; clear n0_ n1_ n2_; (try clear hb); (try clear hb2); (try clear hk); (try clear hi); (try clear ho0); obtain ⟨Ao12, co12, eo12⟩ := Kd.R_slice HO111.out; subst eo12) | ((with_reducible refine gate_callee (f := 96) rfl ?_); refine goesL_ (some 13) rfl rfl Tryz.func96 (by kernel_rfl) rfl #[.agg #[.int .i64 t107, .int .i64 t108, .slice Ao12 t109.length co12]] rfl aq1 ?_; (with_reducible refine (impl_tray_text.calls t107 t108 _ _ t109 t112 _ ?side1 ?side2 A7.out).mono ?_); (case side1 => exact aq78); (case side2 => exact (Kd.R_reads' HO111.out).2.1); rintro e w13 ⟨rfl, hb⟩; refine ⟨_, rfl, ?_⟩; have n0_ := Aside0.mk (Kd.V_below aq33 hb); have n1_ := Aside0.mk (Kd.R_below aq90 hb); have n2_ := Aside0.mk (below_step aq0 hb); clear HO106; clear HO111; clear HB; have HO106 := n0_; have HO111 := n1_; have HB := n2_; clear n0_ n1_ n2_; (try clear hb); (try clear hb2); (try clear hk); (try clear hi)))
  go_ret2
  exact ⟨aq8, aq0⟩
 ·replace c4 := Bool.eq_false_iff.mpr c4
  subst c4
  have H1 : (some ((⟨#[]⟩ : ByteArray), false)) = some (r1, r2) := by rw [if_neg (show ¬ (false = true) by decide)] at H; exact H
  clear H
  have H := H1
  clear H1
  simp only [Option.some.injEq, Prod.mk.injEq] at H
  obtain ⟨rfl, rfl⟩ := H
  go_enter Tryz.func77, Tryz.ntmps77
  go_wp2_with (first | ((with_reducible refine gate_callee (f := 18) rfl ?_); refine goesL_ (some 7) rfl rfl Tryz.func18 (by kernel_rfl) rfl #[.string a0] rfl aq1 ?_; (with_reducible refine (impl_IsTray.calls k a0 false _ A3.out).mono ?_); rintro e w14 ⟨rfl, hb⟩; refine ⟨_, rfl, ?_⟩; have n0_ := Aside0.mk (below_step aq0 hb); clear HB; have HB := n0_; clear n0_; (try clear hb); (try clear hb2); (try clear hk); (try clear hi)))
  go_ret2
  exact ⟨aq8, aq0⟩
end Go.Proofs.YtipjmlcbbimfpaaGreatDoor.F

namespace Go.Proofs.YtipjmlcbbimfpaaGreatDoor.F
open Go.Proofs.YtipjmlcbbimfpaaGreatDoor
open Go.RowKit Go.Proofs.YtipjmlcbbimfpaaGreatDoorW.PrintWords Go.Proofs.YtipjmlcbbimfpaaGreatDoorW.PrintLast Go.Proofs.YtipjmlcbbimfpaaGreatDoorW.PrintMore
attribute [local go_sem] max2_int min2_int max_two min_two max_three min_three max_four min_four   -- for this text's walks alone
set_option linter.unusedVariables false
set_option linter.unusedSimpArgs false
def impl_TransposeTray.f (k : Nat) (a0 : ByteArray) : Option (ByteArray × Bool) := (impl_changed__impl_TransposeTray_1.f k a0).bind fun bt101 => (some (bt101.1, bt101.2))
set_option maxHeartbeats 8000000 in
set_option maxRecDepth 100000 in
theorem impl_TransposeTray.calls (k : Nat) (a0 : ByteArray) (r1 : ByteArray) (r2 : Bool) (w : World) (h : impl_TransposeTray.f k a0 = some (r1, r2)) :
  Calls Tryz.prog 16 #[.string a0] w fun e w' => e = .returned (.tuple #[.string r1, .bool r2]) ∧ Below w.heap.size w w' := by
 have HB := Aside0.mk (Below.refl w.heap.size w)
 have H : ((impl_changed__impl_TransposeTray_1.f k a0).bind fun bt101 => (some (bt101.1, bt101.2))) = some (r1, r2) := h
 clear h
 replace H := Option.bind_eq_some_iff.mp H
 obtain ⟨⟨t101, t102⟩, A20, H⟩ := H
 replace H : (some (t101, t102)) = some (r1, r2) := H
 have A2 := Aside0.mk A20
 clear A20
 simp only [Option.some.injEq, Prod.mk.injEq] at H
 obtain ⟨rfl, rfl⟩ := H
 go_enter Tryz.func16, Tryz.ntmps16
 go_wp2_with (first | ((with_reducible refine gate_callee (f := 77) rfl ?_); refine goesL_ (some 5) rfl rfl Tryz.func77 (by kernel_rfl) rfl #[.string a0, .func (.func 82) #[] #[]] rfl aq1 ?_; (with_reducible refine (impl_changed__impl_TransposeTray_1.calls k a0  t101 t102 _ A2.out).mono ?_); rintro e w3 ⟨rfl, hb⟩; refine ⟨_, rfl, ?_⟩; have n0_ := Aside0.mk (below_step aq0 hb); clear HB; have HB := n0_; clear n0_; (try clear hb); (try clear hb2); (try clear hk); (try clear hi)))
 go_ret2
 exact ⟨aq8, aq0⟩
end Go.Proofs.YtipjmlcbbimfpaaGreatDoor.F

namespace Go.Proofs.YtipjmlcbbimfpaaGreatDoor.F
open Go.Proofs.YtipjmlcbbimfpaaGreatDoor
open Go.RowKit Go.Proofs.YtipjmlcbbimfpaaGreatDoorW.PrintWords Go.Proofs.YtipjmlcbbimfpaaGreatDoorW.PrintLast Go.Proofs.YtipjmlcbbimfpaaGreatDoorW.PrintMore
attribute [local go_sem] max2_int min2_int max_two min_two max_three min_three max_four min_four   -- for this text's walks alone
set_option linter.unusedVariables false
set_option linter.unusedSimpArgs false
def spec_TransposeTray.f (k : Nat) (a0 : ByteArray) : Option (ByteArray × Bool) := (spec_tyRead.f k a0).bind fun bt101 => (if bt101.2.2.2 = true then ((spec_tyTurn.f k bt101.1 bt101.2.1 bt101.2.2.1).bind fun bt108 => ((spec_tyMirror.f k bt108.1 bt108.2.1 bt108.2.2).bind fun bt113 => ((spec_tyText.f k bt113.1 bt113.2.1 bt113.2.2).bind fun t118 => (some (t118, true))))) else (some ((⟨#[]⟩ : ByteArray), false)))
set_option maxHeartbeats 8000000 in
set_option maxRecDepth 100000 in
theorem spec_TransposeTray.calls (k : Nat) (a0 : ByteArray) (r1 : ByteArray) (r2 : Bool) (w : World) (h : spec_TransposeTray.f k a0 = some (r1, r2)) :
  Calls Tryz.prog 17 #[.string a0] w fun e w' => e = .returned (.tuple #[.string r1, .bool r2]) ∧ Below w.heap.size w w' := by
 have hu66 := Tryz.underlying66
 have HB := Aside0.mk (Below.refl w.heap.size w)
 have H : ((spec_tyRead.f k a0).bind fun bt101 => (if bt101.2.2.2 = true then ((spec_tyTurn.f k bt101.1 bt101.2.1 bt101.2.2.1).bind fun bt108 => ((spec_tyMirror.f k bt108.1 bt108.2.1 bt108.2.2).bind fun bt113 => ((spec_tyText.f k bt113.1 bt113.2.1 bt113.2.2).bind fun t118 => (some (t118, true))))) else (some ((⟨#[]⟩ : ByteArray), false)))) = some (r1, r2) := h
 clear h
 replace H := Option.bind_eq_some_iff.mp H
 obtain ⟨⟨t101, t102, t103, t106⟩, A20, H⟩ := H
 replace H : (if t106 = true then ((spec_tyTurn.f k t101 t102 t103).bind fun bt108 => ((spec_tyMirror.f k bt108.1 bt108.2.1 bt108.2.2).bind fun bt113 => ((spec_tyText.f k bt113.1 bt113.2.1 bt113.2.2).bind fun t118 => (some (t118, true))))) else (some ((⟨#[]⟩ : ByteArray), false))) = some (r1, r2) := H
 have A2 := Aside0.mk A20
 clear A20
 by_cases c3 : t106 = true
 ·subst c3
  have H1 : ((spec_tyTurn.f k t101 t102 t103).bind fun bt108 => ((spec_tyMirror.f k bt108.1 bt108.2.1 bt108.2.2).bind fun bt113 => ((spec_tyText.f k bt113.1 bt113.2.1 bt113.2.2).bind fun t118 => (some (t118, true))))) = some (r1, r2) := by rw [if_pos rfl] at H; exact H
  clear H
  have H := H1
  clear H1
  replace H := Option.bind_eq_some_iff.mp H
  obtain ⟨⟨t108, t109, t110⟩, A40, H⟩ := H
  replace H : ((spec_tyMirror.f k t108 t109 t110).bind fun bt113 => ((spec_tyText.f k bt113.1 bt113.2.1 bt113.2.2).bind fun t118 => (some (t118, true)))) = some (r1, r2) := H
  have A4 := Aside0.mk A40
  clear A40
  replace H := Option.bind_eq_some_iff.mp H
  obtain ⟨⟨t113, t114, t115⟩, A50, H⟩ := H
  replace H : ((spec_tyText.f k t113 t114 t115).bind fun t118 => (some (t118, true))) = some (r1, r2) := H
  have A5 := Aside0.mk A50
  clear A50
  replace H := Option.bind_eq_some_iff.mp H
  obtain ⟨t118, A60, H⟩ := H
  replace H : (some (t118, true)) = some (r1, r2) := H
  have A6 := Aside0.mk A60
  clear A60
  simp only [Option.some.injEq, Prod.mk.injEq] at H
  obtain ⟨rfl, rfl⟩ := H
  go_enter Tryz.func17, Tryz.ntmps17
  go_wp2_with (first | ((with_reducible refine gate_callee (f := 72) rfl ?_); refine goesL_ (some 8) rfl rfl Tryz.func72 (by kernel_rfl) rfl #[.string a0] rfl aq1 ?_; (with_reducible refine (spec_tyRead.calls k a0 t101 t102 t103 true _ A2.out).mono ?_); rintro e w7 ⟨v104, rfl, ho0, hb⟩; refine ⟨_, rfl, ?_⟩; have n0_ := Aside0.mk (Kd.R_lower ho0 (below_size aq0)); have n1_ := Aside0.mk (below_step aq0 hb); clear HB; have HO105 := n0_; have HB := n1_; clear n0_ n1_; (try clear hb); (try clear hb2); (try clear hk); (try clear hi); (try clear ho0)) | ((with_reducible refine gate_dst (N := 4) rfl ?_); refine box_event ?hg (N := 4) ?hd (cs := #[.int .i64 0, .int .i64 0, .slice none 0 0]) (t := 66) ?hr ?_; (case hd => rfl); (case hg => rfl); (case hr => exact aq23); intro gb107 hg w8 hbox hb; have n0_ := Aside0.mk (Kd.R_below aq15 hb); have n1_ := Aside0.mk (below_step aq0 hb); have n2_ := Aside0.mk (hbox); have n3_ := Aside0.mk ((by rw [hg]; exact (below_size aq0) : w.heap.size ≤ gb107)); have n4_ := Aside0.mk ((by rw [hg]; exact (below_size aq0) : w.heap.size ≤ gb107)); clear HO105; clear HB; have HO105 := n0_; have HB := n1_; have BK107 := n2_; have GW107 := n3_; have GE107 := n4_; clear n0_ n1_ n2_ n3_ n4_; clear hb hbox hg; have hcz9_0 : w8.cell? ⟨gb107, 0, none⟩ = some (.int .i64 0) := (blk_cell BK107.out 0).trans rfl; have hcz9_1 : w8.cell? ⟨gb107, 1, none⟩ = some (.int .i64 0) := (blk_cell BK107.out 1).trans rfl; have hcz9_2 : w8.cell? ⟨gb107, 2, none⟩ = some (.slice none 0 0) := (blk_cell BK107.out 2).trans rfl; have hfz9_0 := blk_frozen BK107.out 0; have hfz9_1 := blk_frozen BK107.out 1; have hfz9_2 := blk_frozen BK107.out 2; obtain ⟨Ao10, co10, eo10⟩ := Kd.R_slice HO105.out; subst eo10) | ((with_reducible refine gate_callee (f := 79) rfl ?_); refine goesL_ (some 14) rfl rfl Tryz.func79 (by kernel_rfl) rfl #[.agg #[.int .i64 t101, .int .i64 t102, .slice Ao10 t103.length co10]] rfl aq1 ?_; (with_reducible refine (spec_tyTurn.calls k t101 t102 _ _ t103 t108 t109 t110 _ ?side1 ?side2 A4.out).mono ?_); (case side1 => refine (Kd.R_reads' (e := 5) (base := w.heap.size) (ok := fun k_ => True) (n := t103.length) (c := co10) ?_).2.2; exact aq40); (case side2 => exact aq98); rintro e w11 ⟨v111, rfl, ho0, hb⟩; refine ⟨_, rfl, ?_⟩; have n0_ := Aside0.mk (Kd.R_elder' aq40 (Kd.R_base ho0) hb); have n1_ := Aside0.mk (Kd.R_lower (Kd.R_new' ho0 (Kd.R_lt aq40)) (below_size aq10)); have n2_ := Aside0.mk (blk_below (g := gb107) (o := .cells #[.int .i64 t101, .int .i64 t102, .slice Ao10 t103.length co10] 66 (0, 0)) aq12 hb); have n3_ := Aside0.mk (below_step aq10 hb); clear HO105; clear BK107; clear HB; have HO105 := n0_; have HO112 := n1_; have BK107 := n2_; have HB := n3_; clear n0_ n1_ n2_ n3_; (try clear hb); (try clear hb2); (try clear hk); (try clear hi); (try clear ho0); obtain ⟨Ao12, co12, eo12⟩ := Kd.R_slice HO112.out; subst eo12) | ((with_reducible refine gate_callee (f := 81) rfl ?_); refine goesL_ (some 15) rfl rfl Tryz.func81 (by kernel_rfl) rfl #[.agg #[.int .i64 t108, .int .i64 t109, .slice Ao12 t110.length co12]] rfl aq1 ?_; (with_reducible refine (spec_tyMirror.calls k t108 t109 _ _ t110 t113 t114 t115 _ ?side1 ?side2 A5.out).mono ?_); (case side1 => exact aq74); (case side2 => exact (Kd.R_reads' HO112.out).2.1); rintro e w13 ⟨v116, rfl, ho0, hb⟩; refine ⟨_, rfl, ?_⟩; have n0_ := Aside0.mk (Kd.R_elder' aq15 (Kd.R_base ho0) hb); have n1_ := Aside0.mk (Kd.R_elder' aq28 (Kd.R_base ho0) hb); have n2_ := Aside0.mk (Kd.R_lower (Kd.R_new' (Kd.R_new' ho0 (Kd.R_lt aq15)) (Kd.R_lt aq28)) (below_size aq10)); have n3_ := Aside0.mk (blk_below (g := gb107) (o := .cells #[.int .i64 t101, .int .i64 t102, .slice Ao10 t103.length co10] 66 (0, 0)) aq39 hb); have n4_ := Aside0.mk (below_step aq10 hb); clear HO105; clear HO112; clear BK107; clear HB; have HO105 := n0_; have HO112 := n1_; have HO117 := n2_; have BK107 := n3_; have HB := n4_; clear n0_ n1_ n2_ n3_ n4_; (try clear hb); (try clear hb2); (try clear hk); (try clear hi); (try clear ho0); obtain ⟨Ao14, co14, eo14⟩ := Kd.R_slice HO117.out; subst eo14) | ((with_reducible refine gate_callee (f := 76) rfl ?_); refine goesL_ (some 16) rfl rfl Tryz.func76 (by kernel_rfl) rfl #[.agg #[.int .i64 t113, .int .i64 t114, .slice Ao14 t115.length co14]] rfl aq1 ?_; (with_reducible refine (spec_tyText.calls k t113 t114 _ _ t115 t118 _ ?side1 ?side2 A6.out).mono ?_); (case side1 => repeat (first | exact (Kd.R_reads' HO117.out).2.2 | (with_reducible refine Kd.C_alloc ?_ _) | (with_reducible refine Kd.C_drewN ?_ _) | (with_reducible refine Kd.C_drew ?_))); (case side2 => exact (Kd.R_reads' HO117.out).2.1); rintro e w15 ⟨rfl, hb⟩; refine ⟨_, rfl, ?_⟩; have n0_ := Aside0.mk (Kd.R_below aq15 hb); have n1_ := Aside0.mk (Kd.R_below aq28 hb); have n2_ := Aside0.mk (Kd.R_below (by (with_reducible repeat (first | apply Kd.R_alloc | apply Kd.R_drewN | apply Kd.R_drew)); exact HO117.out) hb); have n3_ := Aside0.mk (blk_below (g := gb107) (o := .cells #[.int .i64 t101, .int .i64 t102, .slice Ao10 t103.length co10] 66 (0, 0)) aq39 hb); have n4_ := Aside0.mk (below_step aq10 hb); clear HO105; clear HO112; clear HO117; clear BK107; clear HB; have HO105 := n0_; have HO112 := n1_; have HO117 := n2_; have BK107 := n3_; have HB := n4_; clear n0_ n1_ n2_ n3_ n4_; (try clear hb); (try clear hb2); (try clear hk); (try clear hi)))
  go_ret2
  exact ⟨aq8, aq10⟩
 ·replace c3 := Bool.eq_false_iff.mpr c3
  subst c3
  have H1 : (some ((⟨#[]⟩ : ByteArray), false)) = some (r1, r2) := by rw [if_neg (show ¬ (false = true) by decide)] at H; exact H
  clear H
  have H := H1
  clear H1
  simp only [Option.some.injEq, Prod.mk.injEq] at H
  obtain ⟨rfl, rfl⟩ := H
  go_enter Tryz.func17, Tryz.ntmps17
  go_wp2_with (first | ((with_reducible refine gate_callee (f := 72) rfl ?_); refine goesL_ (some 8) rfl rfl Tryz.func72 (by kernel_rfl) rfl #[.string a0] rfl aq1 ?_; (with_reducible refine (spec_tyRead.calls k a0 t101 t102 t103 false _ A2.out).mono ?_); rintro e w16 ⟨v104, rfl, ho0, hb⟩; refine ⟨_, rfl, ?_⟩; have n0_ := Aside0.mk (Kd.R_lower ho0 (below_size aq0)); have n1_ := Aside0.mk (below_step aq0 hb); clear HB; have HO105 := n0_; have HB := n1_; clear n0_ n1_; (try clear hb); (try clear hb2); (try clear hk); (try clear hi); (try clear ho0)) | ((with_reducible refine gate_dst (N := 4) rfl ?_); refine box_event ?hg (N := 4) ?hd (cs := #[.int .i64 0, .int .i64 0, .slice none 0 0]) (t := 66) ?hr ?_; (case hd => rfl); (case hg => rfl); (case hr => exact aq23); intro gb107 hg w17 hbox hb; have n0_ := Aside0.mk (Kd.R_below aq15 hb); have n1_ := Aside0.mk (below_step aq0 hb); have n2_ := Aside0.mk (hbox); have n3_ := Aside0.mk ((by rw [hg]; exact (below_size aq0) : w.heap.size ≤ gb107)); have n4_ := Aside0.mk ((by rw [hg]; exact (below_size aq0) : w.heap.size ≤ gb107)); clear HO105; clear HB; have HO105 := n0_; have HB := n1_; have BK107 := n2_; have GW107 := n3_; have GE107 := n4_; clear n0_ n1_ n2_ n3_ n4_; clear hb hbox hg; have hcz18_0 : w17.cell? ⟨gb107, 0, none⟩ = some (.int .i64 0) := (blk_cell BK107.out 0).trans rfl; have hcz18_1 : w17.cell? ⟨gb107, 1, none⟩ = some (.int .i64 0) := (blk_cell BK107.out 1).trans rfl; have hcz18_2 : w17.cell? ⟨gb107, 2, none⟩ = some (.slice none 0 0) := (blk_cell BK107.out 2).trans rfl; have hfz18_0 := blk_frozen BK107.out 0; have hfz18_1 := blk_frozen BK107.out 1; have hfz18_2 := blk_frozen BK107.out 2; obtain ⟨Ao19, co19, eo19⟩ := Kd.R_slice HO105.out; subst eo19))
  go_ret2
  exact ⟨aq8, aq10⟩
end Go.Proofs.YtipjmlcbbimfpaaGreatDoor.F

namespace Go.Proofs.YtipjmlcbbimfpaaGreatDoor.F
open Go.Proofs.YtipjmlcbbimfpaaGreatDoor
open Go.RowKit Go.Proofs.YtipjmlcbbimfpaaGreatDoorW.PrintWords Go.Proofs.YtipjmlcbbimfpaaGreatDoorW.PrintLast Go.Proofs.YtipjmlcbbimfpaaGreatDoorW.PrintMore
attribute [local go_sem] max2_int min2_int max_two min_two max_three min_three max_four min_four   -- for this text's walks alone
set_option linter.unusedVariables false
set_option linter.unusedSimpArgs false
mutual
def laws_yMoved.j0 : Nat → ByteArray → Int → Option (ByteArray)
 | 0, _, _ => none
 | k + 1, x0, x1 => laws_yMoved.l0 k x0 x1 0
def laws_yMoved.l0 : Nat → ByteArray → Int → Int → Option (ByteArray)
 | 0, _, _, _ => none
 | k + 1, x0, x1, x5 => if x5 < (Int.tmod x1 4) then ((impl_TurnTray.f k x0).bind fun bt103 => (laws_yMoved.l0 k bt103.1 x1 (wrap64 (x5 + 1)))) else (some x0)
end
def laws_yMoved.f (k : Nat) (a0 : ByteArray) (a1 : Int) : Option (ByteArray) := if a1 ≥ 4 then ((impl_MirrorTray.f k a0).bind fun bt101 => (laws_yMoved.j0 k bt101.1 a1)) else (laws_yMoved.j0 k a0 a1)
set_option maxHeartbeats 8000000 in
set_option maxRecDepth 100000 in
theorem laws_yMoved.calls (k : Nat) (a0 : ByteArray) (a1 : Int) (r : ByteArray) (w : World) (h : laws_yMoved.f k a0 a1 = some r) :
  Calls Tryz.prog 21 #[.string a0, .int .i64 a1] w fun e w' => e = .returned (.string r) ∧ Below w.heap.size w w' := by
 have HB := Aside0.mk (Below.refl w.heap.size w)
 have H : (if a1 ≥ 4 then ((impl_MirrorTray.f k a0).bind fun bt101 => (laws_yMoved.j0 k bt101.1 a1)) else (laws_yMoved.j0 k a0 a1)) = some r := h
 clear h
 have HC3 := Aside0.mk H
 clear H
 go_enter Tryz.func21, Tryz.ntmps21
 go_upto_if 7 with (fail)
 go_cut [0] (fun v0 wc => ∃ (kq : Nat) (x0_2 : ByteArray), v0 = .string x0_2 ∧ Aside0 (laws_yMoved.j0 kq x0_2 a1 = some r) ∧ Aside0 (kq ≤ k) ∧ Aside0 (Below w.heap.size w wc))
 case first =>
  have H := HC3.out
  clear HC3
  by_cases c4 : a1 ≥ 4
  ·rw [if_pos c4] at H
   have c4b0 : decide (4 ≤ a1) = true := decide_eq_true c4
   clear c4
   (first | rw [c4b0] | (simp only [i64_w, i32_w]; rw [c4b0]) | skip)
   replace H := Option.bind_eq_some_iff.mp H
   obtain ⟨⟨t101, t102⟩, A50, H⟩ := H
   replace H : (laws_yMoved.j0 k t101 a1) = some r := H
   have A5 := Aside0.mk A50
   clear A50
   have H' := Aside0.mk H
   clear H
   go_wp2_with (first | ((with_reducible refine gate_callee (f := 14) rfl ?_); refine goesL_ (some 10) rfl rfl Tryz.func14 (by kernel_rfl) rfl #[.string a0] rfl aq1 ?_; (with_reducible refine (impl_MirrorTray.calls k a0 t101 t102 _ A5.out).mono ?_); rintro e w6 ⟨rfl, hb⟩; refine ⟨_, rfl, ?_⟩; have n0_ := Aside0.mk (below_step aq0 hb); clear HB; have HB := n0_; clear n0_; (try clear hb); (try clear hb2); (try clear hk); (try clear hi)))
   go_meet
   case rel => exact ⟨_, (t101), aq11, H', ⟨aq68⟩, ⟨aq0⟩⟩
  ·rw [if_neg c4] at H
   have c4b0 : decide (4 ≤ a1) = false := decide_eq_false c4
   clear c4
   (first | rw [c4b0] | (simp only [i64_w, i32_w]; rw [c4b0]) | skip)
   have H' := Aside0.mk H
   clear H
   go_wp2
   go_meet
   case rel => exact ⟨_, (a0), aq11, H', ⟨aq68⟩, ⟨aq0⟩⟩
 case rest =>
  clear HC3
  try clear c1
  try clear c2
  try clear p2
  try clear c4
  try clear c4b0
  obtain ⟨kq, x0_2, rfl, HA, HJ2, HB⟩ := hcut
  cases kq with
  | zero => exact absurd HA.out (by simp [laws_yMoved.j0])
  | succ kj2 =>
   have H := HA.out
   clear HA
   simp only [laws_yMoved.j0] at H
   have H' := Aside0.mk H
   clear H
   go_wp2
   go_loopg [0, 5] kj2 (fun kq v0 v5 w' => ∃ (x0_2 : ByteArray) (x5_2 : Int), v0 = .string x0_2 ∧ v5 = .int .i64 x5_2 ∧ Aside0 (laws_yMoved.l0 kq x0_2 a1 x5_2 = some r) ∧ Aside0 (kq ≤ kj2) ∧ Aside0 (Below w.heap.size w w'))
   case atStart => exact ⟨(x0_2), (0), aq11, aq11, H', ⟨Nat.le_refl _⟩, ⟨aq0⟩⟩
   case round =>
    clear H'
    try clear c1
    try clear c2
    try clear p2
    try clear c4
    try clear c4b0
    try clear p2
    obtain ⟨x0_2, x5_2, rfl, rfl, HA, HK2, HB⟩ := hrel
    cases gk with
    | zero => exact absurd HA.out (by simp [laws_yMoved.l0])
    | succ k2 =>
     have H := HA.out
     clear HA
     simp only [laws_yMoved.l0] at H
     by_cases c7 : x5_2 < (Int.tmod a1 4)
     ·rw [if_pos c7] at H
      have c7b0 : decide (x5_2 < (Int.tmod a1 4)) = true := decide_eq_true c7
      clear c7
      replace H := Option.bind_eq_some_iff.mp H
      obtain ⟨⟨t103, t104⟩, A80, H⟩ := H
      replace H : (laws_yMoved.l0 k2 t103 a1 (wrap64 (x5_2 + 1))) = some r := H
      have A8 := Aside0.mk A80
      clear A80
      have H' := Aside0.mk H
      clear H
      go_wp2_with (first | ((with_reducible refine gate_callee (f := 12) rfl ?_); refine goesL_ (some 21) rfl rfl Tryz.func12 (by kernel_rfl) rfl #[.string x0_2] rfl aq1 ?_; (with_reducible refine (impl_TurnTray.calls k2 x0_2 t103 t104 _ A8.out).mono ?_); rintro e w9 ⟨rfl, hb⟩; refine ⟨_, rfl, ?_⟩; have n0_ := Aside0.mk (below_step aq0 hb); clear HB; have HB := n0_; clear n0_; (try clear hb); (try clear hb2); (try clear hk); (try clear hi)))
      go_roundg k2
      case measure => have := HJ2.out; have := HK2.out; omega
      case rel => exact ⟨(t103), (wrap64 (x5_2 + 1)), aq11, aq11, H', ⟨by have := HJ2.out; have := HK2.out; omega⟩, ⟨aq0⟩⟩
     ·rw [if_neg c7] at H
      have c7b0 : decide (x5_2 < (Int.tmod a1 4)) = false := decide_eq_false c7
      clear c7
      obtain rfl := Option.some.inj H
      go_wp2
      go_ret
      exact ⟨aq8, aq0⟩
end Go.Proofs.YtipjmlcbbimfpaaGreatDoor.F

namespace Go.Proofs.YtipjmlcbbimfpaaGreatDoor.F
open Go.Proofs.YtipjmlcbbimfpaaGreatDoor
open Go.RowKit Go.Proofs.YtipjmlcbbimfpaaGreatDoorW.PrintWords Go.Proofs.YtipjmlcbbimfpaaGreatDoorW.PrintLast Go.Proofs.YtipjmlcbbimfpaaGreatDoorW.PrintMore
attribute [local go_sem] max2_int min2_int max_two min_two max_three min_three max_four min_four   -- for this text's walks alone
set_option linter.unusedVariables false
set_option linter.unusedSimpArgs false
def impl_isName.f (a0 : Int) : Option (Bool) := if a0 ≥ 97 then (some (decide (a0 ≤ 102))) else (some false)
set_option maxHeartbeats 8000000 in
set_option maxRecDepth 100000 in
theorem impl_isName.calls (a0 : Int) (r : Bool) (w : World) (h : impl_isName.f a0 = some r) :
  Calls Tryz.prog 148 #[.int .u8 a0] w fun e w' => e = .returned (.bool r) ∧ Drawn0 w w' := by
 have H : (if a0 ≥ 97 then (some (decide (a0 ≤ 102))) else (some false)) = some r := h
 clear h
 by_cases c2 : a0 ≥ 97
 ·rw [if_pos c2] at H
  have c2b0 : decide (97 ≤ a0) = true := decide_eq_true c2
  clear c2
  obtain rfl := Option.some.inj H
  go_enter Tryz.func148, Tryz.ntmps148
  go_wp2
  go_ret
  exact ⟨aq11, aq29⟩
 ·rw [if_neg c2] at H
  have c2b0 : decide (97 ≤ a0) = false := decide_eq_false c2
  clear c2
  obtain rfl := Option.some.inj H
  go_enter Tryz.func148, Tryz.ntmps148
  go_wp2
  go_ret
  exact ⟨aq11, aq29⟩
end Go.Proofs.YtipjmlcbbimfpaaGreatDoor.F

namespace Go.Proofs.YtipjmlcbbimfpaaGreatDoor.F
open Go.Proofs.YtipjmlcbbimfpaaGreatDoor
open Go.RowKit Go.Proofs.YtipjmlcbbimfpaaGreatDoorW.PrintWords Go.Proofs.YtipjmlcbbimfpaaGreatDoorW.PrintLast Go.Proofs.YtipjmlcbbimfpaaGreatDoorW.PrintMore
attribute [local go_sem] max2_int min2_int max_two min_two max_three min_three max_four min_four   -- for this text's walks alone
set_option linter.unusedVariables false
set_option linter.unusedSimpArgs false
def impl_isBall.f (a0 : Int) : Option (Bool) := if a0 = 111 then (some true) else ((impl_isName.f a0).bind fun t101 => (some t101))
set_option maxHeartbeats 8000000 in
set_option maxRecDepth 100000 in
theorem impl_isBall.calls (a0 : Int) (r : Bool) (w : World) (h : impl_isBall.f a0 = some r) :
  Calls Tryz.prog 109 #[.int .u8 a0] w fun e w' => e = .returned (.bool r) ∧ Drawn0 w w' := by
 have H : (if a0 = 111 then (some true) else ((impl_isName.f a0).bind fun t101 => (some t101))) = some r := h
 clear h
 by_cases c2 : a0 = 111
 ·rw [if_pos c2] at H
  have c2b0 : (a0 == 111) = true := beq_iff_eq.mpr c2
  have c2b1 : (a0 != 111) = false := bne_eq_false_iff_eq.mpr c2
  clear c2
  obtain rfl := Option.some.inj H
  go_enter Tryz.func109, Tryz.ntmps109
  go_wp2
  go_ret
  exact ⟨aq11, aq29⟩
 ·rw [if_neg c2] at H
  have c2b0 : (a0 == 111) = false := beq_eq_false_iff_ne.mpr c2
  have c2b1 : (a0 != 111) = true := bne_iff_ne.mpr c2
  replace H := Option.bind_eq_some_iff.mp H
  obtain ⟨t101, A30, H⟩ := H
  replace H : (some t101) = some r := H
  have A3 := Aside0.mk A30
  clear A30
  obtain rfl := Option.some.inj H
  go_enter Tryz.func109, Tryz.ntmps109
  go_wp2_with (first | (go_at_call 148; (with_reducible refine (impl_isName.calls a0 t101 _ A3.out).mono ?_); rintro e w' ⟨rfl, ⟨nd, rfl⟩⟩))
  go_ret
  exact ⟨aq11, aq29⟩
end Go.Proofs.YtipjmlcbbimfpaaGreatDoor.F

namespace Go.Proofs.YtipjmlcbbimfpaaGreatDoor.F
open Go.Proofs.YtipjmlcbbimfpaaGreatDoor
open Go.RowKit Go.Proofs.YtipjmlcbbimfpaaGreatDoorW.PrintWords Go.Proofs.YtipjmlcbbimfpaaGreatDoorW.PrintLast Go.Proofs.YtipjmlcbbimfpaaGreatDoorW.PrintMore
attribute [local go_sem] max2_int min2_int max_two min_two max_three min_three max_four min_four   -- for this text's walks alone
set_option linter.unusedVariables false
set_option linter.unusedSimpArgs false
def impl_isCell.f (a0 : ByteArray) : Option (Bool) := if (a0.size : Int) = 1 then (if 0 < (a0.size : Int) then (if (bt a0 0) = 35 then (some true) else (if (bt a0 0) = 46 then (some true) else ((impl_isBall.f (bt a0 0)).bind fun t101 => (some t101)))) else (none)) else (some false)
set_option maxHeartbeats 8000000 in
set_option maxRecDepth 100000 in
theorem impl_isCell.calls (a0 : ByteArray) (r : Bool) (w : World) (h : impl_isCell.f a0 = some r) :
  Calls Tryz.prog 88 #[.string a0] w fun e w' => e = .returned (.bool r) ∧ Drawn0 w w' := by
 have H : (if (a0.size : Int) = 1 then (if 0 < (a0.size : Int) then (if (bt a0 0) = 35 then (some true) else (if (bt a0 0) = 46 then (some true) else ((impl_isBall.f (bt a0 0)).bind fun t101 => (some t101)))) else (none)) else (some false)) = some r := h
 clear h
 by_cases c2 : (a0.size : Int) = 1
 ·rw [if_pos c2] at H
  have c2b0 : ((a0.size : Int) == 1) = true := beq_iff_eq.mpr c2
  have c2b1 : ((a0.size : Int) != 1) = false := bne_eq_false_iff_eq.mpr c2
  clear c2
  by_cases c3 : 0 < (a0.size : Int)
  ·rw [if_pos c3] at H
   have c3b0 : decide (0 < (a0.size : Int)) = true := decide_eq_true c3
   have c3b1 : decide (0 < a0.size) = true := decide_eq_true (by omega)
   clear c3
   by_cases c5 : (bt a0 0) = 35
   ·rw [if_pos c5] at H
    have c5b0 : ((bt a0 0) == 35) = true := beq_iff_eq.mpr c5
    have c5b1 : ((bt a0 0) != 35) = false := bne_eq_false_iff_eq.mpr c5
    clear c5
    obtain rfl := Option.some.inj H
    have p4 : 0 ≤ (0 : Int) := (by omega)
    have q4 : 0 < a0.size := (by have : (0 : Int) < (a0.size : Int) := of_decide_eq_true aq9; omega)
    have hx4 : ∀ h : 0 < a0.size, ((a0[0]'h).toNat : Int) = bt a0 0 := bt_at a0 0
    clear p4
    have qi4 : (0 < (a0.size : Int)) = True := eq_true (of_decide_eq_true aq9)
    replace q4 := eq_true q4
    go_enter Tryz.func88, Tryz.ntmps88
    go_wp2
    go_ret
    exact ⟨aq11, aq29⟩
   ·rw [if_neg c5] at H
    have c5b0 : ((bt a0 0) == 35) = false := beq_eq_false_iff_ne.mpr c5
    have c5b1 : ((bt a0 0) != 35) = true := bne_iff_ne.mpr c5
    by_cases c7 : (bt a0 0) = 46
    ·rw [if_pos c7] at H
     have c7b0 : ((bt a0 0) == 46) = true := beq_iff_eq.mpr c7
     have c7b1 : ((bt a0 0) != 46) = false := bne_eq_false_iff_eq.mpr c7
     clear c7
     obtain rfl := Option.some.inj H
     have p4 : 0 ≤ (0 : Int) := (by omega)
     have q4 : 0 < a0.size := (by have : (0 : Int) < (a0.size : Int) := of_decide_eq_true aq9; omega)
     have hx4 : ∀ h : 0 < a0.size, ((a0[0]'h).toNat : Int) = bt a0 0 := bt_at a0 0
     clear p4
     have qi4 : (0 < (a0.size : Int)) = True := eq_true (of_decide_eq_true aq9)
     replace q4 := eq_true q4
     have p6 : 0 ≤ (0 : Int) := (by omega)
     have q6 : 0 < a0.size := (by have : (0 : Int) < (a0.size : Int) := of_decide_eq_true aq9; omega)
     have hx6 : ∀ h : 0 < a0.size, ((a0[0]'h).toNat : Int) = bt a0 0 := bt_at a0 0
     clear p6
     have qi6 : (0 < (a0.size : Int)) = True := eq_true (of_decide_eq_true aq9)
     replace q6 := eq_true q6
     go_enter Tryz.func88, Tryz.ntmps88
     go_wp2
     go_ret
     exact ⟨aq11, aq29⟩
    ·rw [if_neg c7] at H
     have c7b0 : ((bt a0 0) == 46) = false := beq_eq_false_iff_ne.mpr c7
     have c7b1 : ((bt a0 0) != 46) = true := bne_iff_ne.mpr c7
     replace H := Option.bind_eq_some_iff.mp H
     obtain ⟨t101, A90, H⟩ := H
     replace H : (some t101) = some r := H
     have A9 := Aside0.mk A90
     clear A90
     obtain rfl := Option.some.inj H
     have p4 : 0 ≤ (0 : Int) := (by omega)
     have q4 : 0 < a0.size := (by have : (0 : Int) < (a0.size : Int) := of_decide_eq_true aq9; omega)
     have hx4 : ∀ h : 0 < a0.size, ((a0[0]'h).toNat : Int) = bt a0 0 := bt_at a0 0
     clear p4
     have qi4 : (0 < (a0.size : Int)) = True := eq_true (of_decide_eq_true aq9)
     replace q4 := eq_true q4
     have p6 : 0 ≤ (0 : Int) := (by omega)
     have q6 : 0 < a0.size := (by have : (0 : Int) < (a0.size : Int) := of_decide_eq_true aq9; omega)
     have hx6 : ∀ h : 0 < a0.size, ((a0[0]'h).toNat : Int) = bt a0 0 := bt_at a0 0
     clear p6
     have qi6 : (0 < (a0.size : Int)) = True := eq_true (of_decide_eq_true aq9)
     replace q6 := eq_true q6
     have p8 : 0 ≤ (0 : Int) := (by omega)
     have q8 : 0 < a0.size := (by have : (0 : Int) < (a0.size : Int) := of_decide_eq_true aq9; omega)
     have hx8 : ∀ h : 0 < a0.size, ((a0[0]'h).toNat : Int) = bt a0 0 := bt_at a0 0
     clear p8
     have qi8 : (0 < (a0.size : Int)) = True := eq_true (of_decide_eq_true aq9)
     replace q8 := eq_true q8
     go_enter Tryz.func88, Tryz.ntmps88
     go_wp2_with (first | (go_at_call 109; (with_reducible refine (impl_isBall.calls (bt a0 0) t101 _ A9.out).mono ?_); rintro e w' ⟨rfl, ⟨nd, rfl⟩⟩))
     go_ret
     exact ⟨aq11, aq29⟩
  ·rw [if_neg c3] at H
   exact absurd H (by simp)
 ·rw [if_neg c2] at H
  have c2b0 : ((a0.size : Int) == 1) = false := beq_eq_false_iff_ne.mpr c2
  have c2b1 : ((a0.size : Int) != 1) = true := bne_iff_ne.mpr c2
  obtain rfl := Option.some.inj H
  go_enter Tryz.func88, Tryz.ntmps88
  go_wp2
  go_ret
  exact ⟨aq11, aq29⟩
end Go.Proofs.YtipjmlcbbimfpaaGreatDoor.F

namespace Go.Proofs.YtipjmlcbbimfpaaGreatDoor.F
open Go.Proofs.YtipjmlcbbimfpaaGreatDoor
open Go.RowKit Go.Proofs.YtipjmlcbbimfpaaGreatDoorW.PrintWords Go.Proofs.YtipjmlcbbimfpaaGreatDoorW.PrintLast Go.Proofs.YtipjmlcbbimfpaaGreatDoorW.PrintMore
attribute [local go_sem] max2_int min2_int max_two min_two max_three min_three max_four min_four   -- for this text's walks alone
set_option linter.unusedVariables false
set_option linter.unusedSimpArgs false
def impl_CountCells.f (k : Nat) (a0 : ByteArray) (a1 : ByteArray) : Option (Int × Bool) := (impl_IsTray.f k a0).bind fun t101 => (if t101 = true then ((impl_isCell.f a1).bind fun t102 => (if t102 = true then ((strings_Count.f a0 a1).bind fun t103 => (some (t103, true))) else (some (0, false)))) else (some (0, false)))
set_option maxHeartbeats 8000000 in
set_option maxRecDepth 100000 in
theorem impl_CountCells.calls (k : Nat) (a0 : ByteArray) (a1 : ByteArray) (r1 : Int) (r2 : Bool) (w : World) (h : impl_CountCells.f k a0 a1 = some (r1, r2)) :
  Calls Tryz.prog 22 #[.string a0, .string a1] w fun e w' => e = .returned (.tuple #[.int .i64 r1, .bool r2]) ∧ Below w.heap.size w w' := by
 have HB := Aside0.mk (Below.refl w.heap.size w)
 have H : ((impl_IsTray.f k a0).bind fun t101 => (if t101 = true then ((impl_isCell.f a1).bind fun t102 => (if t102 = true then ((strings_Count.f a0 a1).bind fun t103 => (some (t103, true))) else (some (0, false)))) else (some (0, false)))) = some (r1, r2) := h
 clear h
 replace H := Option.bind_eq_some_iff.mp H
 obtain ⟨t101, A30, H⟩ := H
 replace H : (if t101 = true then ((impl_isCell.f a1).bind fun t102 => (if t102 = true then ((strings_Count.f a0 a1).bind fun t103 => (some (t103, true))) else (some (0, false)))) else (some (0, false))) = some (r1, r2) := H
 have A3 := Aside0.mk A30
 clear A30
 by_cases c4 : t101 = true
 ·subst c4
  have H1 : ((impl_isCell.f a1).bind fun t102 => (if t102 = true then ((strings_Count.f a0 a1).bind fun t103 => (some (t103, true))) else (some (0, false)))) = some (r1, r2) := by rw [if_pos rfl] at H; exact H
  clear H
  have H := H1
  clear H1
  replace H := Option.bind_eq_some_iff.mp H
  obtain ⟨t102, A50, H⟩ := H
  replace H : (if t102 = true then ((strings_Count.f a0 a1).bind fun t103 => (some (t103, true))) else (some (0, false))) = some (r1, r2) := H
  have A5 := Aside0.mk A50
  clear A50
  by_cases c6 : t102 = true
  ·subst c6
   have H1 : ((strings_Count.f a0 a1).bind fun t103 => (some (t103, true))) = some (r1, r2) := by rw [if_pos rfl] at H; exact H
   clear H
   have H := H1
   clear H1
   replace H := Option.bind_eq_some_iff.mp H
   obtain ⟨t103, A70, H⟩ := H
   replace H : (some (t103, true)) = some (r1, r2) := H
   have A7 := Aside0.mk A70
   clear A70
   simp only [Option.some.injEq, Prod.mk.injEq] at H
   obtain ⟨rfl, rfl⟩ := H
   go_enter Tryz.func22, Tryz.ntmps22
   go_wp2_with (first | ((with_reducible refine gate_callee (f := 18) rfl ?_); refine goesL_ (some 7) rfl rfl Tryz.func18 (by kernel_rfl) rfl #[.string a0] rfl aq1 ?_; (with_reducible refine (impl_IsTray.calls k a0 true _ A3.out).mono ?_); rintro e w8 ⟨rfl, hb⟩; refine ⟨_, rfl, ?_⟩; have n0_ := Aside0.mk (below_step aq0 hb); clear HB; have HB := n0_; clear n0_; (try clear hb); (try clear hb2); (try clear hk); (try clear hi)) | (go_at_call 88; (with_reducible refine (impl_isCell.calls a1 true _ A5.out).mono ?_); rintro e w' ⟨rfl, ⟨nd, rfl⟩⟩) | ((with_reducible refine gate_callee (f := 86) rfl ?_); refine goesL_ (some 16) rfl rfl Tryz.func86 (by kernel_rfl) rfl #[.string a0, .string a1] rfl aq1 ?_; (with_reducible refine (strings_Count.calls a0 a1 t103 _ A7.out).mono ?_); rintro e w' ⟨rfl, ⟨nd, rfl⟩⟩; refine ⟨_, rfl, ?_⟩))
   go_ret2
   exact ⟨aq8, aq0⟩
  ·replace c6 := Bool.eq_false_iff.mpr c6
   subst c6
   have H1 : (some (0, false)) = some (r1, r2) := by rw [if_neg (show ¬ (false = true) by decide)] at H; exact H
   clear H
   have H := H1
   clear H1
   simp only [Option.some.injEq, Prod.mk.injEq] at H
   obtain ⟨rfl, rfl⟩ := H
   go_enter Tryz.func22, Tryz.ntmps22
   go_wp2_with (first | ((with_reducible refine gate_callee (f := 18) rfl ?_); refine goesL_ (some 7) rfl rfl Tryz.func18 (by kernel_rfl) rfl #[.string a0] rfl aq1 ?_; (with_reducible refine (impl_IsTray.calls k a0 true _ A3.out).mono ?_); rintro e w9 ⟨rfl, hb⟩; refine ⟨_, rfl, ?_⟩; have n0_ := Aside0.mk (below_step aq0 hb); clear HB; have HB := n0_; clear n0_; (try clear hb); (try clear hb2); (try clear hk); (try clear hi)) | (go_at_call 88; (with_reducible refine (impl_isCell.calls a1 false _ A5.out).mono ?_); rintro e w' ⟨rfl, ⟨nd, rfl⟩⟩))
   go_ret2
   exact ⟨aq8, aq0⟩
 ·replace c4 := Bool.eq_false_iff.mpr c4
  subst c4
  have H1 : (some (0, false)) = some (r1, r2) := by rw [if_neg (show ¬ (false = true) by decide)] at H; exact H
  clear H
  have H := H1
  clear H1
  simp only [Option.some.injEq, Prod.mk.injEq] at H
  obtain ⟨rfl, rfl⟩ := H
  go_enter Tryz.func22, Tryz.ntmps22
  go_wp2_with (first | ((with_reducible refine gate_callee (f := 18) rfl ?_); refine goesL_ (some 7) rfl rfl Tryz.func18 (by kernel_rfl) rfl #[.string a0] rfl aq1 ?_; (with_reducible refine (impl_IsTray.calls k a0 false _ A3.out).mono ?_); rintro e w10 ⟨rfl, hb⟩; refine ⟨_, rfl, ?_⟩; have n0_ := Aside0.mk (below_step aq0 hb); clear HB; have HB := n0_; clear n0_; (try clear hb); (try clear hb2); (try clear hk); (try clear hi)))
  go_ret2
  exact ⟨aq8, aq0⟩
end Go.Proofs.YtipjmlcbbimfpaaGreatDoor.F

namespace Go.Proofs.YtipjmlcbbimfpaaGreatDoor.F
open Go.Proofs.YtipjmlcbbimfpaaGreatDoor
open Go.RowKit Go.Proofs.YtipjmlcbbimfpaaGreatDoorW.PrintWords Go.Proofs.YtipjmlcbbimfpaaGreatDoorW.PrintLast Go.Proofs.YtipjmlcbbimfpaaGreatDoorW.PrintMore
attribute [local go_sem] max2_int min2_int max_two min_two max_three min_three max_four min_four   -- for this text's walks alone
set_option linter.unusedVariables false
set_option linter.unusedSimpArgs false
def spec_tyOne.f (a0 : ByteArray) : Option (Bool) := if (a0.size : Int) = 1 then (if 0 < (a0.size : Int) then ((spec_tyIs.f (bt a0 0)).bind fun t101 => (some t101)) else (none)) else (some false)
set_option maxHeartbeats 8000000 in
set_option maxRecDepth 100000 in
theorem spec_tyOne.calls (a0 : ByteArray) (r : Bool) (w : World) (h : spec_tyOne.f a0 = some r) :
  Calls Tryz.prog 91 #[.string a0] w fun e w' => e = .returned (.bool r) ∧ Drawn0 w w' := by
 have H : (if (a0.size : Int) = 1 then (if 0 < (a0.size : Int) then ((spec_tyIs.f (bt a0 0)).bind fun t101 => (some t101)) else (none)) else (some false)) = some r := h
 clear h
 by_cases c2 : (a0.size : Int) = 1
 ·rw [if_pos c2] at H
  have c2b0 : ((a0.size : Int) == 1) = true := beq_iff_eq.mpr c2
  have c2b1 : ((a0.size : Int) != 1) = false := bne_eq_false_iff_eq.mpr c2
  clear c2
  by_cases c3 : 0 < (a0.size : Int)
  ·rw [if_pos c3] at H
   have c3b0 : decide (0 < (a0.size : Int)) = true := decide_eq_true c3
   have c3b1 : decide (0 < a0.size) = true := decide_eq_true (by omega)
   clear c3
   replace H := Option.bind_eq_some_iff.mp H
   obtain ⟨t101, A50, H⟩ := H
   replace H : (some t101) = some r := H
   have A5 := Aside0.mk A50
   clear A50
   obtain rfl := Option.some.inj H
   have p4 : 0 ≤ (0 : Int) := (by omega)
   have q4 : 0 < a0.size := (by have : (0 : Int) < (a0.size : Int) := of_decide_eq_true aq9; omega)
   have hx4 : ∀ h : 0 < a0.size, ((a0[0]'h).toNat : Int) = bt a0 0 := bt_at a0 0
   clear p4
   have qi4 : (0 < (a0.size : Int)) = True := eq_true (of_decide_eq_true aq9)
   replace q4 := eq_true q4
   go_enter Tryz.func91, Tryz.ntmps91
   go_wp2_with (first | (go_at_call 129; (with_reducible refine (spec_tyIs.calls (bt a0 0) t101 _ A5.out).mono ?_); rintro e w' ⟨rfl, ⟨nd, rfl⟩⟩))
   go_ret
   exact ⟨aq11, aq29⟩
  ·rw [if_neg c3] at H
   exact absurd H (by simp)
 ·rw [if_neg c2] at H
  have c2b0 : ((a0.size : Int) == 1) = false := beq_eq_false_iff_ne.mpr c2
  have c2b1 : ((a0.size : Int) != 1) = true := bne_iff_ne.mpr c2
  obtain rfl := Option.some.inj H
  go_enter Tryz.func91, Tryz.ntmps91
  go_wp2
  go_ret
  exact ⟨aq11, aq29⟩
end Go.Proofs.YtipjmlcbbimfpaaGreatDoor.F

namespace Go.Proofs.YtipjmlcbbimfpaaGreatDoor.F
open Go.Proofs.YtipjmlcbbimfpaaGreatDoor
open Go.RowKit Go.Proofs.YtipjmlcbbimfpaaGreatDoorW.PrintWords Go.Proofs.YtipjmlcbbimfpaaGreatDoorW.PrintLast Go.Proofs.YtipjmlcbbimfpaaGreatDoorW.PrintMore
attribute [local go_sem] max2_int min2_int max_two min_two max_three min_three max_four min_four   -- for this text's walks alone
set_option linter.unusedVariables false
set_option linter.unusedSimpArgs false
mutual
def spec_CountCells.j0 : Nat → ByteArray → Bool → Int → Int → List Int → Option (Int × Bool)
 | 0, _, _, _, _, _ => none
 | k + 1, x1, x22, x108000, x108001, x108002 => if x22 = true then (some (0, false)) else (spec_CountCells.l0 k x1 0 x108002 (x108002.length : Int) 0)
def spec_CountCells.l0 : Nat → ByteArray → Int → List Int → Int → Int → Option (Int × Bool)
 | 0, _, _, _, _, _ => none
 | k + 1, x1, x8, x24, x25, x26 => if x26 < x25 then (if 0 ≤ x26 then (if x26 < (x24.length : Int) then (if 0 < (x1.size : Int) then (if (rd x24 x26) = (bt x1 0) then (spec_CountCells.l0 k x1 (wrap64 (x8 + 1)) x24 x25 (wrap64 (x26 + 1))) else (spec_CountCells.l0 k x1 x8 x24 x25 (wrap64 (x26 + 1)))) else (none)) else (none)) else (none)) else (some (x8, true))
end
def spec_CountCells.f (k : Nat) (a0 : ByteArray) (a1 : ByteArray) : Option (Int × Bool) := (spec_tyRead.f k a0).bind fun bt101 => (if bt101.2.2.2 = true then ((spec_tyOne.f a1).bind fun t108 => (spec_CountCells.j0 k a1 (!t108) bt101.1 bt101.2.1 bt101.2.2.1)) else (spec_CountCells.j0 k a1 true bt101.1 bt101.2.1 bt101.2.2.1))
set_option maxHeartbeats 8000000 in
set_option maxRecDepth 100000 in
theorem spec_CountCells.calls (k : Nat) (a0 : ByteArray) (a1 : ByteArray) (r1 : Int) (r2 : Bool) (w : World) (h : spec_CountCells.f k a0 a1 = some (r1, r2)) :
  Calls Tryz.prog 24 #[.string a0, .string a1] w fun e w' => e = .returned (.tuple #[.int .i64 r1, .bool r2]) ∧ Below w.heap.size w w' := by
 have hu66 := Tryz.underlying66
 have HB := Aside0.mk (Below.refl w.heap.size w)
 have H : ((spec_tyRead.f k a0).bind fun bt101 => (if bt101.2.2.2 = true then ((spec_tyOne.f a1).bind fun t108 => (spec_CountCells.j0 k a1 (!t108) bt101.1 bt101.2.1 bt101.2.2.1)) else (spec_CountCells.j0 k a1 true bt101.1 bt101.2.1 bt101.2.2.1))) = some (r1, r2) := h
 clear h
 replace H := Option.bind_eq_some_iff.mp H
 obtain ⟨⟨t101, t102, t103, t106⟩, A30, H⟩ := H
 replace H : (if t106 = true then ((spec_tyOne.f a1).bind fun t108 => (spec_CountCells.j0 k a1 (!t108) t101 t102 t103)) else (spec_CountCells.j0 k a1 true t101 t102 t103)) = some (r1, r2) := H
 have A3 := Aside0.mk A30
 clear A30
 have HC4 := Aside0.mk H
 clear H
 go_enter Tryz.func24, Tryz.ntmps24
 go_upto_region 2 with (first | ((with_reducible refine gate_callee (f := 72) rfl ?_); refine goesL_ (some 13) rfl rfl Tryz.func72 (by kernel_rfl) rfl #[.string a0] rfl aq1 ?_; (with_reducible refine (spec_tyRead.calls k a0 t101 t102 t103 t106 _ A3.out).mono ?_); rintro e w5 ⟨v104, rfl, ho0, hb⟩; refine ⟨_, rfl, ?_⟩; have n0_ := Aside0.mk (Kd.R_lower ho0 (below_size aq0)); have n1_ := Aside0.mk (below_step aq0 hb); clear HB; have HO105 := n0_; have HB := n1_; clear n0_ n1_; (try clear hb); (try clear hb2); (try clear hk); (try clear hi); (try clear ho0)) | ((with_reducible refine gate_dst (N := 6) rfl ?_); refine box_event ?hg (N := 6) ?hd (cs := #[.int .i64 0, .int .i64 0, .slice none 0 0]) (t := 66) ?hr ?_; (case hd => rfl); (case hg => rfl); (case hr => exact aq23); intro gb107 hg w6 hbox hb; have n0_ := Aside0.mk (Kd.R_below aq15 hb); have n1_ := Aside0.mk (below_step aq0 hb); have n2_ := Aside0.mk (hbox); have n3_ := Aside0.mk ((by rw [hg]; exact (below_size aq0) : w.heap.size ≤ gb107)); have n4_ := Aside0.mk ((by rw [hg]; exact (below_size aq0) : w.heap.size ≤ gb107)); clear HO105; clear HB; have HO105 := n0_; have HB := n1_; have BK107 := n2_; have GW107 := n3_; have GE107 := n4_; clear n0_ n1_ n2_ n3_ n4_; clear hb hbox hg; have hcz7_0 : w6.cell? ⟨gb107, 0, none⟩ = some (.int .i64 0) := (blk_cell BK107.out 0).trans rfl; have hcz7_1 : w6.cell? ⟨gb107, 1, none⟩ = some (.int .i64 0) := (blk_cell BK107.out 1).trans rfl; have hcz7_2 : w6.cell? ⟨gb107, 2, none⟩ = some (.slice none 0 0) := (blk_cell BK107.out 2).trans rfl; have hfz7_0 := blk_frozen BK107.out 0; have hfz7_1 := blk_frozen BK107.out 1; have hfz7_2 := blk_frozen BK107.out 2; obtain ⟨Ao8, co8, eo8⟩ := Kd.R_slice HO105.out; subst eo8))
 (try simp only [Act.put, List.setIfInBounds_toArray, List.set_cons_zero, List.set_cons_succ])
 go_cut [22] (fun v22 wc => ∃ (kq : Nat) (x22_3 : Bool), v22 = .bool x22_3 ∧ Aside0 (spec_CountCells.j0 kq a1 x22_3 t101 t102 t103 = some (r1, r2)) ∧ Aside0 (kq ≤ k) ∧ Aside0 (Kd.R (Kd.int .u8) 5 wc w.heap.size (fun _ => True) (.slice Ao8 t103.length co8) t103) ∧ Aside0 (wc.heap[gb107]? = some (.cells #[.int .i64 t101, .int .i64 t102, (.slice Ao8 t103.length co8)] 66 (0, 0))) ∧ Aside0 (Below w.heap.size w wc))
 case first =>
  have H := HC4.out
  clear HC4
  by_cases c9 : t106 = true
  ·subst c9
   have H1 : ((spec_tyOne.f a1).bind fun t108 => (spec_CountCells.j0 k a1 (!t108) t101 t102 t103)) = some (r1, r2) := by rw [if_pos rfl] at H; exact H
   clear H
   have H := H1
   clear H1
   replace H := Option.bind_eq_some_iff.mp H
   obtain ⟨t108, A100, H⟩ := H
   replace H : (spec_CountCells.j0 k a1 (!t108) t101 t102 t103) = some (r1, r2) := H
   have A10 := Aside0.mk A100
   clear A100
   have H' := Aside0.mk H
   clear H
   go_wp2_with (first | (go_at_call 91; (with_reducible refine (spec_tyOne.calls a1 t108 _ A10.out).mono ?_); rintro e w' ⟨rfl, ⟨nd, rfl⟩⟩))
   go_meet
   case rel => exact ⟨_, (!t108), aq11, H', ⟨aq68⟩, ⟨aq22⟩, ⟨aq12⟩, ⟨aq10⟩⟩
  ·replace c9 := Bool.eq_false_iff.mpr c9
   subst c9
   have H1 : (spec_CountCells.j0 k a1 true t101 t102 t103) = some (r1, r2) := by rw [if_neg (show ¬ (false = true) by decide)] at H; exact H
   clear H
   have H := H1
   clear H1
   have H' := Aside0.mk H
   clear H
   go_wp2
   go_meet
   case rel => exact ⟨_, (true), aq11, H', ⟨aq68⟩, ⟨aq22⟩, ⟨aq12⟩, ⟨aq10⟩⟩
 case rest =>
  clear HC4
  try clear c2
  try clear p2
  try clear c7
  try clear c9
  try clear hcz7_0
  try clear hcz7_1
  try clear hcz7_2
  try clear hfz7_0
  try clear hfz7_1
  try clear hfz7_2
  obtain ⟨kq, x22_3, rfl, HA, HJ3, HO_108002, BK107, HB⟩ := hcut
  cases kq with
  | zero => exact absurd HA.out (by simp [spec_CountCells.j0])
  | succ kj3 =>
   have H := HA.out
   clear HA
   simp only [spec_CountCells.j0] at H
   by_cases c11 : x22_3 = true
   ·subst c11
    have H1 : (some (0, false)) = some (r1, r2) := by rw [if_pos rfl] at H; exact H
    clear H
    have H := H1
    clear H1
    simp only [Option.some.injEq, Prod.mk.injEq] at H
    obtain ⟨rfl, rfl⟩ := H
    go_wp2
    go_ret2
    exact ⟨aq8, aq10⟩
   ·replace c11 := Bool.eq_false_iff.mpr c11
    subst c11
    have H1 : (spec_CountCells.l0 kj3 a1 0 t103 (t103.length : Int) 0) = some (r1, r2) := by rw [if_neg (show ¬ (false = true) by decide)] at H; exact H
    clear H
    have H := H1
    clear H1
    have H' := Aside0.mk H
    clear H
    have hcz12_0 : wc.cell? ⟨gb107, 0, none⟩ = some (.int .i64 t101) := (blk_cell BK107.out 0).trans rfl
    have hcz12_1 : wc.cell? ⟨gb107, 1, none⟩ = some (.int .i64 t102) := (blk_cell BK107.out 1).trans rfl
    have hcz12_2 : wc.cell? ⟨gb107, 2, none⟩ = some (.slice Ao8 t103.length co8) := (blk_cell BK107.out 2).trans rfl
    have hfz12_0 := blk_frozen BK107.out 0
    have hfz12_1 := blk_frozen BK107.out 1
    have hfz12_2 := blk_frozen BK107.out 2
    go_wp2
    go_loopg [8, 26] kj3 (fun kq v8 v26 w' => ∃ (x8_2 : Int) (x26_2 : Int), v8 = .int .i64 x8_2 ∧ v26 = .int .i64 x26_2 ∧ Aside0 (spec_CountCells.l0 kq a1 x8_2 t103 (t103.length : Int) x26_2 = some (r1, r2)) ∧ Aside0 (kq ≤ kj3) ∧ Aside0 (Kd.R (Kd.int .u8) 5 w' w.heap.size (fun _ => True) (.slice Ao8 t103.length co8) t103) ∧ Aside0 (Kd.R (Kd.int .u8) 5 w' w.heap.size (fun _ => True) (.slice Ao8 t103.length co8) t103) ∧ Aside0 (w'.heap[gb107]? = some (.cells #[.int .i64 t101, .int .i64 t102, (.slice Ao8 t103.length co8)] 66 (0, 0))) ∧ Aside0 (Below w.heap.size w w'))
    case atStart => exact ⟨(0), (0), aq11, aq11, H', ⟨Nat.le_refl _⟩, ⟨aq35⟩, ⟨aq35⟩, ⟨aq39⟩, ⟨aq10⟩⟩
    case round =>
     clear H'
     try clear c1
     try clear c2
     try clear p2
     try clear c7
     try clear c9
     try clear c11
     try clear hcz12_0
     try clear hcz12_1
     try clear hcz12_2
     try clear hcz7_0
     try clear hcz7_1
     try clear hcz7_2
     try clear hfz12_0
     try clear hfz12_1
     try clear hfz12_2
     try clear hfz7_0
     try clear hfz7_1
     try clear hfz7_2
     try clear p2
     obtain ⟨x8_2, x26_2, rfl, rfl, HA, HK2, HO_24, HO_108002, BK107, HB⟩ := hrel
     cases gk with
     | zero => exact absurd HA.out (by simp [spec_CountCells.l0])
     | succ k2 =>
      have H := HA.out
      clear HA
      simp only [spec_CountCells.l0] at H
      by_cases c13 : x26_2 < (t103.length : Int)
      ·rw [if_pos c13] at H
       have c13b0 : decide (x26_2 < (t103.length : Int)) = true := decide_eq_true c13
       clear c13
       by_cases c14 : 0 ≤ x26_2
       ·rw [if_pos c14] at H
        have c14b0 : decide (0 ≤ x26_2) = true := decide_eq_true c14
        clear c14
        by_cases c15 : x26_2 < (t103.length : Int)
        ·rw [if_pos c15] at H
         have c15b0 : decide (x26_2 < (t103.length : Int)) = true := decide_eq_true c15
         clear c15
         by_cases c16 : 0 < (a1.size : Int)
         ·rw [if_pos c16] at H
          have c16b0 : decide (0 < (a1.size : Int)) = true := decide_eq_true c16
          have c16b1 : decide (0 < a1.size) = true := decide_eq_true (by omega)
          clear c16
          by_cases c18 : (rd t103 x26_2) = (bt a1 0)
          ·rw [if_pos c18] at H
           have c18b0 : ((rd t103 x26_2) == (bt a1 0)) = true := beq_iff_eq.mpr c18
           have c18b1 : ((rd t103 x26_2) != (bt a1 0)) = false := bne_eq_false_iff_eq.mpr c18
           clear c18
           have H' := Aside0.mk H
           clear H
           have p109 : 0 ≤ (x26_2 : Int) := of_decide_eq_true aq9
           have q109 : x26_2 < (t103.length : Int) := of_decide_eq_true aq9
           obtain ⟨ad109, e109, hx109_0⟩ := Kd.at_int (Kd.R_reads' HO_24.out).2.2 x26_2 p109 q109
           cases e109
           replace p109 := eq_true p109
           replace q109 := eq_true q109
           have p17 : 0 ≤ (0 : Int) := (by omega)
           have q17 : 0 < a1.size := (by have : (0 : Int) < (a1.size : Int) := of_decide_eq_true aq9; omega)
           have hx17 : ∀ h : 0 < a1.size, ((a1[0]'h).toNat : Int) = bt a1 0 := bt_at a1 0
           clear p17
           have qi17 : (0 < (a1.size : Int)) = True := eq_true (of_decide_eq_true aq9)
           replace q17 := eq_true q17
           go_wp2
           go_roundg k2
           case measure => have := HJ3.out; have := HK2.out; omega
           case rel => exact ⟨(wrap64 (x8_2 + 1)), (wrap64 (x26_2 + 1)), aq11, aq11, H', ⟨by have := HJ3.out; have := HK2.out; omega⟩, ⟨by (with_reducible repeat (first | apply Kd.R_alloc | apply Kd.R_drewN | apply Kd.R_drew)); exact HO_24.out⟩, ⟨aq35⟩, ⟨aq39⟩, ⟨aq10⟩⟩
          ·rw [if_neg c18] at H
           have c18b0 : ((rd t103 x26_2) == (bt a1 0)) = false := beq_eq_false_iff_ne.mpr c18
           have c18b1 : ((rd t103 x26_2) != (bt a1 0)) = true := bne_iff_ne.mpr c18
           have H' := Aside0.mk H
           clear H
           have p109 : 0 ≤ (x26_2 : Int) := of_decide_eq_true aq9
           have q109 : x26_2 < (t103.length : Int) := of_decide_eq_true aq9
           obtain ⟨ad109, e109, hx109_0⟩ := Kd.at_int (Kd.R_reads' HO_24.out).2.2 x26_2 p109 q109
           cases e109
           replace p109 := eq_true p109
           replace q109 := eq_true q109
           have p17 : 0 ≤ (0 : Int) := (by omega)
           have q17 : 0 < a1.size := (by have : (0 : Int) < (a1.size : Int) := of_decide_eq_true aq9; omega)
           have hx17 : ∀ h : 0 < a1.size, ((a1[0]'h).toNat : Int) = bt a1 0 := bt_at a1 0
           clear p17
           have qi17 : (0 < (a1.size : Int)) = True := eq_true (of_decide_eq_true aq9)
           replace q17 := eq_true q17
           go_wp2
           go_roundg k2
           case measure => have := HJ3.out; have := HK2.out; omega
           case rel => exact ⟨(x8_2), (wrap64 (x26_2 + 1)), aq11, aq11, H', ⟨by have := HJ3.out; have := HK2.out; omega⟩, ⟨by (with_reducible repeat (first | apply Kd.R_alloc | apply Kd.R_drewN | apply Kd.R_drew)); exact HO_24.out⟩, ⟨aq35⟩, ⟨aq39⟩, ⟨aq10⟩⟩
         ·rw [if_neg c16] at H
          exact absurd H (by simp)
        ·rw [if_neg c15] at H
         exact absurd H (by simp)
       ·rw [if_neg c14] at H
        exact absurd H (by simp)
      ·rw [if_neg c13] at H
       have c13b0 : decide (x26_2 < (t103.length : Int)) = false := decide_eq_false c13
       clear c13
       simp only [Option.some.injEq, Prod.mk.injEq] at H
       obtain ⟨rfl, rfl⟩ := H
       go_wp2
       go_ret2
       exact ⟨aq8, aq10⟩
end Go.Proofs.YtipjmlcbbimfpaaGreatDoor.F

namespace Go.Proofs.YtipjmlcbbimfpaaGreatDoor.F
open Go.Proofs.YtipjmlcbbimfpaaGreatDoor
open Go.RowKit Go.Proofs.YtipjmlcbbimfpaaGreatDoorW.PrintWords Go.Proofs.YtipjmlcbbimfpaaGreatDoorW.PrintLast Go.Proofs.YtipjmlcbbimfpaaGreatDoorW.PrintMore
attribute [local go_sem] max2_int min2_int max_two min_two max_three min_three max_four min_four   -- for this text's walks alone
set_option linter.unusedVariables false
set_option linter.unusedSimpArgs false
def slices_Index_byte_byte.l0 : Nat → List Int → Int → Int → Int → Option (Int)
 | 0, _, _, _, _ => none
 | k + 1, x0, x1, x7, x8 => if x8 < x7 then (if 0 ≤ x8 then (if x8 < (x0.length : Int) then (if x1 = (rd x0 x8) then (some x8) else (slices_Index_byte_byte.l0 k x0 x1 x7 (wrap64 (x8 + 1)))) else (none)) else (none)) else (some (-1))
def slices_Index_byte_byte.f (k : Nat) (l0 : List Int) (a1 : Int) : Option (Int) := slices_Index_byte_byte.l0 k l0 a1 (l0.length : Int) 0
set_option maxHeartbeats 8000000 in
set_option maxRecDepth 100000 in
theorem slices_Index_byte_byte.calls (k : Nat) (A0 : Option Addr) (c0 : Nat) (l0 : List Int) (a1 : Int) (r : Int) (w : World) (hr0 : Kd.C (Kd.int .u8) w A0 l0.length l0) (hc0 : l0.length ≤ c0) (h : slices_Index_byte_byte.f k l0 a1 = some r) :
  Calls Tryz.prog 149 #[.slice A0 l0.length c0, .int .u8 a1] w fun e w' => e = .returned (.int .i64 r) ∧ Drawn0 w w' := by
 have HR0 := Aside0.mk hr0
 have HC0 := Aside0.mk hc0
 clear hr0 hc0
 have H : (slices_Index_byte_byte.l0 k l0 a1 (l0.length : Int) 0) = some r := h
 clear h
 have H' := Aside0.mk H
 clear H
 go_enter Tryz.func149, Tryz.ntmps149
 go_wp2
 go_loopg [8] k (fun kq v8 w' => ∃ (x8_1 : Int), v8 = .int .i64 x8_1 ∧ Aside0 (slices_Index_byte_byte.l0 kq l0 a1 (l0.length : Int) x8_1 = some r) ∧ Aside0 (kq ≤ k) ∧ Drawn0 w w')
 case atStart => exact ⟨(0), aq11, H', ⟨Nat.le_refl _⟩, aq29⟩
 case round =>
  clear H'
  try clear c1
  try clear p2
  obtain ⟨x8_1, rfl, HA, HK1, ⟨m1, rfl⟩⟩ := hrel
  cases gk with
  | zero => exact absurd HA.out (by simp [slices_Index_byte_byte.l0])
  | succ k1 =>
   have H := HA.out
   clear HA
   simp only [slices_Index_byte_byte.l0] at H
   by_cases c3 : x8_1 < (l0.length : Int)
   ·rw [if_pos c3] at H
    have c3b0 : decide (x8_1 < (l0.length : Int)) = true := decide_eq_true c3
    clear c3
    by_cases c4 : 0 ≤ x8_1
    ·rw [if_pos c4] at H
     have c4b0 : decide (0 ≤ x8_1) = true := decide_eq_true c4
     clear c4
     by_cases c5 : x8_1 < (l0.length : Int)
     ·rw [if_pos c5] at H
      have c5b0 : decide (x8_1 < (l0.length : Int)) = true := decide_eq_true c5
      clear c5
      by_cases c6 : a1 = (rd l0 x8_1)
      ·rw [if_pos c6] at H
       have c6b0 : (a1 == (rd l0 x8_1)) = true := beq_iff_eq.mpr c6
       have c6b1 : (a1 != (rd l0 x8_1)) = false := bne_eq_false_iff_eq.mpr c6
       clear c6
       obtain rfl := Option.some.inj H
       have p101 : 0 ≤ (x8_1 : Int) := of_decide_eq_true aq9
       have q101 : x8_1 < (l0.length : Int) := of_decide_eq_true aq9
       obtain ⟨ad101, e101, hx101_0⟩ := Kd.at_int HR0.out x8_1 p101 q101
       cases e101
       replace p101 := eq_true p101
       replace q101 := eq_true q101
       go_wp2
       go_ret
       exact ⟨aq11, aq29⟩
      ·rw [if_neg c6] at H
       have c6b0 : (a1 == (rd l0 x8_1)) = false := beq_eq_false_iff_ne.mpr c6
       have c6b1 : (a1 != (rd l0 x8_1)) = true := bne_iff_ne.mpr c6
       have H' := Aside0.mk H
       clear H
       have p101 : 0 ≤ (x8_1 : Int) := of_decide_eq_true aq9
       have q101 : x8_1 < (l0.length : Int) := of_decide_eq_true aq9
       obtain ⟨ad101, e101, hx101_0⟩ := Kd.at_int HR0.out x8_1 p101 q101
       cases e101
       replace p101 := eq_true p101
       replace q101 := eq_true q101
       go_wp2
       go_roundg k1
       case measure => have := HK1.out; omega
       case rel => exact ⟨(wrap64 (x8_1 + 1)), aq11, H', ⟨aq83⟩, aq29⟩
     ·rw [if_neg c5] at H
      exact absurd H (by simp)
    ·rw [if_neg c4] at H
     exact absurd H (by simp)
   ·rw [if_neg c3] at H
    have c3b0 : decide (x8_1 < (l0.length : Int)) = false := decide_eq_false c3
    clear c3
    obtain rfl := Option.some.inj H
    go_wp2
    go_ret
    exact ⟨aq11, aq29⟩
end Go.Proofs.YtipjmlcbbimfpaaGreatDoor.F

namespace Go.Proofs.YtipjmlcbbimfpaaGreatDoor.F
open Go.Proofs.YtipjmlcbbimfpaaGreatDoor
open Go.RowKit Go.Proofs.YtipjmlcbbimfpaaGreatDoorW.PrintWords Go.Proofs.YtipjmlcbbimfpaaGreatDoorW.PrintLast Go.Proofs.YtipjmlcbbimfpaaGreatDoorW.PrintMore
attribute [local go_sem] max2_int min2_int max_two min_two max_three min_three max_four min_four   -- for this text's walks alone
set_option linter.unusedVariables false
set_option linter.unusedSimpArgs false
def impl_cellOf.j0 : Nat → ByteArray → ByteArray → Bool → Option (Int × Bool)
 | 0, _, _, _ => none
 | k + 1, x0, x1, x20 => if x20 = true then (some (0, false)) else ((impl_read.f x0).bind fun bt103 => (if 0 < (x1.size : Int) then ((slices_Index_byte_byte.f k bt103.2.2 (bt x1 0)).bind fun t108 => (some (t108, decide (t108 ≥ 0)))) else (none)))
def impl_cellOf.f (k : Nat) (a0 : ByteArray) (a1 : ByteArray) : Option (Int × Bool) := (impl_IsTray.f k a0).bind fun t101 => (if t101 = true then (if (a1.size : Int) = 1 then (if 0 < (a1.size : Int) then ((impl_isName.f (bt a1 0)).bind fun t102 => (impl_cellOf.j0 k a0 a1 (!t102))) else (none)) else (impl_cellOf.j0 k a0 a1 true)) else (impl_cellOf.j0 k a0 a1 true))
set_option maxHeartbeats 8000000 in
set_option maxRecDepth 100000 in
theorem impl_cellOf.calls (k : Nat) (a0 : ByteArray) (a1 : ByteArray) (r1 : Int) (r2 : Bool) (w : World) (h : impl_cellOf.f k a0 a1 = some (r1, r2)) :
  Calls Tryz.prog 92 #[.string a0, .string a1] w fun e w' => e = .returned (.tuple #[.int .i64 r1, .bool r2]) ∧ Below w.heap.size w w' := by
 have hfd62_2 : ∀ (x0_ x1_ x2_ : Value) (W : World), (Instr.field 62 (.agg #[x0_, x1_, x2_]) 2).run Tryz.prog W = .ok x2_ W := fun _ _ _  _ => by kernel_rfl
 have HB := Aside0.mk (Below.refl w.heap.size w)
 have H : ((impl_IsTray.f k a0).bind fun t101 => (if t101 = true then (if (a1.size : Int) = 1 then (if 0 < (a1.size : Int) then ((impl_isName.f (bt a1 0)).bind fun t102 => (impl_cellOf.j0 k a0 a1 (!t102))) else (none)) else (impl_cellOf.j0 k a0 a1 true)) else (impl_cellOf.j0 k a0 a1 true))) = some (r1, r2) := h
 clear h
 have HC3 := Aside0.mk H
 clear H
 go_enter Tryz.func92, Tryz.ntmps92
 go_upto_region 1 with (fail)
 go_cut [20] (fun v20 wc => ∃ (kq : Nat) (x20_2 : Bool), v20 = .bool x20_2 ∧ Aside0 (impl_cellOf.j0 kq a0 a1 x20_2 = some (r1, r2)) ∧ Aside0 (kq ≤ k) ∧ Aside0 (Below w.heap.size w wc))
 case first =>
  have H := HC3.out
  clear HC3
  replace H := Option.bind_eq_some_iff.mp H
  obtain ⟨t101, A40, H⟩ := H
  replace H : (if t101 = true then (if (a1.size : Int) = 1 then (if 0 < (a1.size : Int) then ((impl_isName.f (bt a1 0)).bind fun t102 => (impl_cellOf.j0 k a0 a1 (!t102))) else (none)) else (impl_cellOf.j0 k a0 a1 true)) else (impl_cellOf.j0 k a0 a1 true)) = some (r1, r2) := H
  have A4 := Aside0.mk A40
  clear A40
  by_cases c5 : t101 = true
  ·subst c5
   have H1 : (if (a1.size : Int) = 1 then (if 0 < (a1.size : Int) then ((impl_isName.f (bt a1 0)).bind fun t102 => (impl_cellOf.j0 k a0 a1 (!t102))) else (none)) else (impl_cellOf.j0 k a0 a1 true)) = some (r1, r2) := by rw [if_pos rfl] at H; exact H
   clear H
   have H := H1
   clear H1
   by_cases c6 : (a1.size : Int) = 1
   ·rw [if_pos c6] at H
    have c6b0 : ((a1.size : Int) == 1) = true := beq_iff_eq.mpr c6
    have c6b1 : ((a1.size : Int) != 1) = false := bne_eq_false_iff_eq.mpr c6
    clear c6
    (first | rw [c6b0] | (simp only [i64_w, i32_w]; rw [c6b0]) | skip)
    by_cases c7 : 0 < (a1.size : Int)
    ·rw [if_pos c7] at H
     have c7b0 : decide (0 < (a1.size : Int)) = true := decide_eq_true c7
     have c7b1 : decide (0 < a1.size) = true := decide_eq_true (by omega)
     clear c7
     replace H := Option.bind_eq_some_iff.mp H
     obtain ⟨t102, A90, H⟩ := H
     replace H : (impl_cellOf.j0 k a0 a1 (!t102)) = some (r1, r2) := H
     have A9 := Aside0.mk A90
     clear A90
     have H' := Aside0.mk H
     clear H
     go_wp2_with (first | ((with_reducible refine gate_callee (f := 18) rfl ?_); refine goesL_ (some 8) rfl rfl Tryz.func18 (by kernel_rfl) rfl #[.string a0] rfl aq1 ?_; (with_reducible refine (impl_IsTray.calls k a0 true _ A4.out).mono ?_); rintro e w10 ⟨rfl, hb⟩; refine ⟨_, rfl, ?_⟩; have n0_ := Aside0.mk (below_step aq0 hb); clear HB; have HB := n0_; clear n0_; (try clear hb); (try clear hb2); (try clear hk); (try clear hi); have p8 : 0 ≤ (0 : Int) := (by omega); have q8 : 0 < a1.size := (by have : (0 : Int) < (a1.size : Int) := of_decide_eq_true aq9; omega); have hx8 : ∀ h : 0 < a1.size, ((a1[0]'h).toNat : Int) = bt a1 0 := bt_at a1 0; clear p8; have qi8 : (0 < (a1.size : Int)) = True := eq_true (of_decide_eq_true aq9); replace q8 := eq_true q8) | (go_at_call 148; (with_reducible refine (impl_isName.calls (bt a1 0) t102 _ A9.out).mono ?_); rintro e w' ⟨rfl, ⟨nd, rfl⟩⟩))
     go_meet
     case rel => exact ⟨_, (!t102), aq11, H', ⟨aq68⟩, ⟨aq0⟩⟩
    ·rw [if_neg c7] at H
     exact absurd H (by simp)
   ·rw [if_neg c6] at H
    have c6b0 : ((a1.size : Int) == 1) = false := beq_eq_false_iff_ne.mpr c6
    have c6b1 : ((a1.size : Int) != 1) = true := bne_iff_ne.mpr c6
    (first | rw [c6b0] | (simp only [i64_w, i32_w]; rw [c6b0]) | skip)
    have H' := Aside0.mk H
    clear H
    go_wp2_with (first | ((with_reducible refine gate_callee (f := 18) rfl ?_); refine goesL_ (some 8) rfl rfl Tryz.func18 (by kernel_rfl) rfl #[.string a0] rfl aq1 ?_; (with_reducible refine (impl_IsTray.calls k a0 true _ A4.out).mono ?_); rintro e w11 ⟨rfl, hb⟩; refine ⟨_, rfl, ?_⟩; have n0_ := Aside0.mk (below_step aq0 hb); clear HB; have HB := n0_; clear n0_; (try clear hb); (try clear hb2); (try clear hk); (try clear hi)))
    go_meet
    case rel => exact ⟨_, (true), aq11, H', ⟨aq68⟩, ⟨aq0⟩⟩
  ·replace c5 := Bool.eq_false_iff.mpr c5
   subst c5
   have H1 : (impl_cellOf.j0 k a0 a1 true) = some (r1, r2) := by rw [if_neg (show ¬ (false = true) by decide)] at H; exact H
   clear H
   have H := H1
   clear H1
   have H' := Aside0.mk H
   clear H
   go_wp2_with (first | ((with_reducible refine gate_callee (f := 18) rfl ?_); refine goesL_ (some 8) rfl rfl Tryz.func18 (by kernel_rfl) rfl #[.string a0] rfl aq1 ?_; (with_reducible refine (impl_IsTray.calls k a0 false _ A4.out).mono ?_); rintro e w12 ⟨rfl, hb⟩; refine ⟨_, rfl, ?_⟩; have n0_ := Aside0.mk (below_step aq0 hb); clear HB; have HB := n0_; clear n0_; (try clear hb); (try clear hb2); (try clear hk); (try clear hi)))
   go_meet
   case rel => exact ⟨_, (true), aq11, H', ⟨aq68⟩, ⟨aq0⟩⟩
 case rest =>
  clear HC3
  try clear c1
  try clear p2
  try clear c5
  try clear c6
  try clear c6b0
  try clear c6b1
  try clear c7
  try clear c7b0
  try clear c7b1
  try clear p8
  try clear q8
  try clear hx8
  try clear qi8
  try clear c9
  try clear p8
  try clear q8
  obtain ⟨kq, x20_2, rfl, HA, HJ2, HB⟩ := hcut
  cases kq with
  | zero => exact absurd HA.out (by simp [impl_cellOf.j0])
  | succ kj2 =>
   have H := HA.out
   clear HA
   simp only [impl_cellOf.j0] at H
   by_cases c13 : x20_2 = true
   ·subst c13
    have H1 : (some (0, false)) = some (r1, r2) := by rw [if_pos rfl] at H; exact H
    clear H
    have H := H1
    clear H1
    simp only [Option.some.injEq, Prod.mk.injEq] at H
    obtain ⟨rfl, rfl⟩ := H
    go_wp2
    go_ret2
    exact ⟨aq8, aq0⟩
   ·replace c13 := Bool.eq_false_iff.mpr c13
    subst c13
    have H1 : ((impl_read.f a0).bind fun bt103 => (if 0 < (a1.size : Int) then ((slices_Index_byte_byte.f kj2 bt103.2.2 (bt a1 0)).bind fun t108 => (some (t108, decide (t108 ≥ 0)))) else (none))) = some (r1, r2) := by rw [if_neg (show ¬ (false = true) by decide)] at H; exact H
    clear H
    have H := H1
    clear H1
    replace H := Option.bind_eq_some_iff.mp H
    obtain ⟨⟨t103, t104, t105⟩, A140, H⟩ := H
    replace H : (if 0 < (a1.size : Int) then ((slices_Index_byte_byte.f kj2 t105 (bt a1 0)).bind fun t108 => (some (t108, decide (t108 ≥ 0)))) else (none)) = some (r1, r2) := H
    have A14 := Aside0.mk A140
    clear A140
    by_cases c15 : 0 < (a1.size : Int)
    ·rw [if_pos c15] at H
     have c15b0 : decide (0 < (a1.size : Int)) = true := decide_eq_true c15
     have c15b1 : decide (0 < a1.size) = true := decide_eq_true (by omega)
     clear c15
     replace H := Option.bind_eq_some_iff.mp H
     obtain ⟨t108, A170, H⟩ := H
     replace H : (some (t108, decide (t108 ≥ 0))) = some (r1, r2) := H
     have A17 := Aside0.mk A170
     clear A170
     simp only [Option.some.injEq, Prod.mk.injEq] at H
     obtain ⟨rfl, rfl⟩ := H
     try go_wp2
     have n0_ := Aside0.mk (below_drew1 HB.out)
     clear HB
     have HB := n0_
     clear n0_
     have p16 : 0 ≤ (0 : Int) := (by omega)
     have q16 : 0 < a1.size := (by have : (0 : Int) < (a1.size : Int) := of_decide_eq_true aq9; omega)
     have hx16 : ∀ h : 0 < a1.size, ((a1[0]'h).toNat : Int) = bt a1 0 := bt_at a1 0
     clear p16
     have qi16 : (0 < (a1.size : Int)) = True := eq_true (of_decide_eq_true aq9)
     replace q16 := eq_true q16
     refine start_ (n := 7) (S := fun w' => True) (ds := []) #[false, false, false, false, false, false, false] (by kernel_rfl) rfl rfl trivial (fun hHeld => ?_)
     generalize wc.drew = w18 at HB hHeld ⊢
     refine pure_ (i := 0) (N := some 21) (v := ?_) (a' := ?_) #[true, false, false, false, false, false, false] rfl rfl (by kernel_rfl) (fun _ _ _ h => h) (Or.inl ⟨by rfl, ?_⟩) ?_ ?_
     rotate_left
     ·intro w'
      go_simp
      with_reducible rfl
     rotate_left
     ·simp only [Act.put, List.setIfInBounds_toArray, List.set_cons_zero, List.set_cons_succ, i64_w, i32_w]
      rfl
     refine pure_ (i := 3) (N := some 24) (v := ?_) (a' := ?_) #[true, false, false, true, false, false, false] rfl rfl (by kernel_rfl) (fun _ _ _ h => h) (Or.inl ⟨by rfl, ?_⟩) ?_ ?_
     rotate_left
     ·intro w'
      go_simp
      with_reducible rfl
     rotate_left
     ·simp only [Act.put, List.setIfInBounds_toArray, List.set_cons_zero, List.set_cons_succ, i64_w, i32_w]
      rfl
     refine take_ (i := 4) (N := some 25) (v := ?_) (a' := ?_) #[true, false, false, true, true, false, false] rfl rfl (by kernel_rfl) (fun _ _ _ h => h) (Or.inl ⟨by rfl, ?_⟩) hHeld ?_ ?_
     rotate_left
     ·intro w' _
      go_simp
      with_reducible rfl
     rotate_left
     ·simp only [Act.put, List.setIfInBounds_toArray, List.set_cons_zero, List.set_cons_succ, i64_w, i32_w]
      rfl
     refine one_ (i := 1) (N := some 22) #[true, true, false, true, true, false, false] rfl rfl (by kernel_rfl) (by decide) (fun K hK => ?_)
     refine goes_ Tryz.func70 (by kernel_rfl) rfl #[.string a0] (by rfl) rfl rfl aq1 ?_
     with_reducible refine (impl_read.calls a0 t103 t104 t105 _ A14.out).mono ?_
     rintro e w19 ⟨v106, rfl, ho0, hb⟩
     refine ⟨_, rfl, ?_⟩
     have n0_ := Aside0.mk (Kd.V_lower (Kd.V_mono (ok' := fun k_ => True) ho0 (fun k_ hk_ => trivial)) (below_size aq0))
     have n1_ := Aside0.mk (below_step aq0 hb)
     clear HB
     have HO107 := n0_
     have HB := n1_
     clear n0_ n1_
     (try clear hb)
     (try clear hb2)
     (try clear hk)
     (try clear hi)
     (try clear ho0)
     obtain ⟨Ao20, co20, eo20⟩ := Kd.V_slice HO107.out
     (first | subst eo20 | (injection eo20 with f1_ f2_ f3_; have f4_ := f1_.symm; have f5_ := f3_.symm; clear f1_ f2_ f3_; subst f4_; subst f5_))
     refine hK.out _ _ trivial (fun hHeld => ?_)
     clear hK K
     refine norm_ (a' := ?_) ?_ ?_
     rotate_left
     ·show Act.put _ (some 22) _ = _
      simp only [Act.put, List.setIfInBounds_toArray, List.set_cons_zero, List.set_cons_succ, i64_w, i32_w]
      rfl
     refine pure_ (i := 2) (N := some 23) (v := ?_) (a' := ?_) #[true, true, true, true, true, false, false] rfl rfl (by kernel_rfl) (fun _ _ _ h => h) (Or.inl ⟨by rfl, ?_⟩) ?_ ?_
     rotate_left
     ·intro w'
      go_simp
      with_reducible rfl
     rotate_left
     ·simp only [Act.put, List.setIfInBounds_toArray, List.set_cons_zero, List.set_cons_succ, i64_w, i32_w]
      rfl
     refine one_ (i := 5) (N := some 26) #[true, true, true, true, true, true, false] rfl rfl (by kernel_rfl) (by decide) (fun K hK => ?_)
     refine goes_ Tryz.func149 (by kernel_rfl) rfl #[.slice Ao20 t105.length co20, .int .u8 (bt a1 0)] (by rfl) rfl rfl aq1 ?_
     with_reducible refine (slices_Index_byte_byte.calls kj2 _ _ t105 (bt a1 0) t108 _ ?side1 ?side2 A17.out).mono ?_
     (case side1 => repeat (first | exact (Kd.V_reads' HO107.out).2.2 | (with_reducible refine Kd.C_alloc ?_ _) | (with_reducible refine Kd.C_drewN ?_ _) | (with_reducible refine Kd.C_drew ?_)))
     (case side2 => exact (Kd.V_reads' HO107.out).2.1)
     rintro e w' ⟨rfl, ⟨nd, rfl⟩⟩
     refine ⟨_, rfl, ?_⟩
     refine hK.out _ _ trivial (fun hHeld => ?_)
     clear hK K
     refine norm_ (a' := ?_) ?_ ?_
     rotate_left
     ·show Act.put _ (some 26) _ = _
      simp only [Act.put, List.setIfInBounds_toArray, List.set_cons_zero, List.set_cons_succ, i64_w, i32_w]
      rfl
     refine pure_ (i := 6) (N := some 6) (v := ?_) (a' := ?_) #[true, true, true, true, true, true, true] rfl rfl (by kernel_rfl) (fun _ _ _ h => h) (Or.inl ⟨by rfl, ?_⟩) ?_ ?_
     rotate_left
     ·intro w'
      go_simp
      with_reducible rfl
     rotate_left
     ·simp only [Act.put, List.setIfInBounds_toArray, List.set_cons_zero, List.set_cons_succ, i64_w, i32_w]
      rfl
     refine done_ (by kernel_rfl) ?_
     try go_wp2
     go_ret2
     exact ⟨aq8, aq0⟩
    ·rw [if_neg c15] at H
     exact absurd H (by simp)
end Go.Proofs.YtipjmlcbbimfpaaGreatDoor.F

namespace Go.Proofs.YtipjmlcbbimfpaaGreatDoor.F
open Go.Proofs.YtipjmlcbbimfpaaGreatDoor
open Go.RowKit Go.Proofs.YtipjmlcbbimfpaaGreatDoorW.PrintWords Go.Proofs.YtipjmlcbbimfpaaGreatDoorW.PrintLast Go.Proofs.YtipjmlcbbimfpaaGreatDoorW.PrintMore
attribute [local go_sem] max2_int min2_int max_two min_two max_three min_three max_four min_four   -- for this text's walks alone
set_option linter.unusedVariables false
set_option linter.unusedSimpArgs false
def impl_PlaceOf.f (k : Nat) (a0 : ByteArray) (a1 : ByteArray) : Option (Int × Int × Bool) := (impl_cellOf.f k a0 a1).bind fun bt101 => (if bt101.2 = true then ((impl_read.f a0).bind fun bt103 => (if bt103.1 = 0 then (none) else (some (Int.tmod bt101.1 bt103.1, wrap64 (Int.tdiv bt101.1 bt103.1), true)))) else (some (0, 0, false)))
set_option maxHeartbeats 8000000 in
set_option maxRecDepth 100000 in
theorem impl_PlaceOf.calls (k : Nat) (a0 : ByteArray) (a1 : ByteArray) (r1 : Int) (r2 : Int) (r3 : Bool) (w : World) (h : impl_PlaceOf.f k a0 a1 = some (r1, r2, r3)) :
  Calls Tryz.prog 26 #[.string a0, .string a1] w fun e w' => e = .returned (.tuple #[.int .i64 r1, .int .i64 r2, .bool r3]) ∧ Below w.heap.size w w' := by
 have hfd62_0 : ∀ (x0_ x1_ x2_ : Value) (W : World), (Instr.field 62 (.agg #[x0_, x1_, x2_]) 0).run Tryz.prog W = .ok x0_ W := fun _ _ _  _ => by kernel_rfl
 have HB := Aside0.mk (Below.refl w.heap.size w)
 have H : ((impl_cellOf.f k a0 a1).bind fun bt101 => (if bt101.2 = true then ((impl_read.f a0).bind fun bt103 => (if bt103.1 = 0 then (none) else (some (Int.tmod bt101.1 bt103.1, wrap64 (Int.tdiv bt101.1 bt103.1), true)))) else (some (0, 0, false)))) = some (r1, r2, r3) := h
 clear h
 replace H := Option.bind_eq_some_iff.mp H
 obtain ⟨⟨t101, t102⟩, A30, H⟩ := H
 replace H : (if t102 = true then ((impl_read.f a0).bind fun bt103 => (if bt103.1 = 0 then (none) else (some (Int.tmod t101 bt103.1, wrap64 (Int.tdiv t101 bt103.1), true)))) else (some (0, 0, false))) = some (r1, r2, r3) := H
 have A3 := Aside0.mk A30
 clear A30
 by_cases c4 : t102 = true
 ·subst c4
  have H1 : ((impl_read.f a0).bind fun bt103 => (if bt103.1 = 0 then (none) else (some (Int.tmod t101 bt103.1, wrap64 (Int.tdiv t101 bt103.1), true)))) = some (r1, r2, r3) := by rw [if_pos rfl] at H; exact H
  clear H
  have H := H1
  clear H1
  replace H := Option.bind_eq_some_iff.mp H
  obtain ⟨⟨t103, t104, t105⟩, A50, H⟩ := H
  replace H : (if t103 = 0 then (none) else (some (Int.tmod t101 t103, wrap64 (Int.tdiv t101 t103), true))) = some (r1, r2, r3) := H
  have A5 := Aside0.mk A50
  clear A50
  by_cases c6 : t103 = 0
  ·rw [if_pos c6] at H
   exact absurd H (by simp)
  ·rw [if_neg c6] at H
   have c6b0 : (t103 == 0) = false := beq_eq_false_iff_ne.mpr c6
   have c6b1 : (t103 != 0) = true := bne_iff_ne.mpr c6
   simp only [Option.some.injEq, Prod.mk.injEq] at H
   obtain ⟨rfl, rfl, rfl⟩ := H
   go_enter Tryz.func26, Tryz.ntmps26
   go_wp2_with (first | (go_at_call 92; (with_reducible refine (impl_cellOf.calls k a0 a1 t101 true _ A3.out).mono ?_); rintro e w7 ⟨rfl, hb⟩; have n0_ := Aside0.mk (below_step aq0 hb); clear HB; have HB := n0_; clear n0_; (try clear hb); (try clear hb2); (try clear hk); (try clear hi)) | (go_at_call 70; (with_reducible refine (impl_read.calls a0 t103 t104 t105 _ A5.out).mono ?_); rintro e w8 ⟨v106, rfl, ho0, hb⟩; have n0_ := Aside0.mk (Kd.V_lower (Kd.V_mono (ok' := fun k_ => True) ho0 (fun k_ hk_ => trivial)) (below_size aq0)); have n1_ := Aside0.mk (below_step aq0 hb); clear HB; have HO107 := n0_; have HB := n1_; clear n0_ n1_; (try clear hb); (try clear hb2); (try clear hk); (try clear hi); (try clear ho0)))
   repeat (go_quiet (first | (go_at_call 92; (with_reducible refine (impl_cellOf.calls k a0 a1 t101 true _ A3.out).mono ?_); rintro e w7 ⟨rfl, hb⟩; have n0_ := Aside0.mk (below_step aq0 hb); clear HB; have HB := n0_; clear n0_; (try clear hb); (try clear hb2); (try clear hk); (try clear hi)) | (go_at_call 70; (with_reducible refine (impl_read.calls a0 t103 t104 t105 _ A5.out).mono ?_); rintro e w8 ⟨v106, rfl, ho0, hb⟩; have n0_ := Aside0.mk (Kd.V_lower (Kd.V_mono (ok' := fun k_ => True) ho0 (fun k_ hk_ => trivial)) (below_size aq0)); have n1_ := Aside0.mk (below_step aq0 hb); clear HB; have HO107 := n0_; have HB := n1_; clear n0_ n1_; (try clear hb); (try clear hb2); (try clear hk); (try clear hi); (try clear ho0))); try go_wp2_with (first | (go_at_call 92; (with_reducible refine (impl_cellOf.calls k a0 a1 t101 true _ A3.out).mono ?_); rintro e w7 ⟨rfl, hb⟩; have n0_ := Aside0.mk (below_step aq0 hb); clear HB; have HB := n0_; clear n0_; (try clear hb); (try clear hb2); (try clear hk); (try clear hi)) | (go_at_call 70; (with_reducible refine (impl_read.calls a0 t103 t104 t105 _ A5.out).mono ?_); rintro e w8 ⟨v106, rfl, ho0, hb⟩; have n0_ := Aside0.mk (Kd.V_lower (Kd.V_mono (ok' := fun k_ => True) ho0 (fun k_ hk_ => trivial)) (below_size aq0)); have n1_ := Aside0.mk (below_step aq0 hb); clear HB; have HO107 := n0_; have HB := n1_; clear n0_ n1_; (try clear hb); (try clear hb2); (try clear hk); (try clear hi); (try clear ho0))))
   go_ret3
   exact ⟨aq8, aq0⟩
 ·replace c4 := Bool.eq_false_iff.mpr c4
  subst c4
  have H1 : (some (0, 0, false)) = some (r1, r2, r3) := by rw [if_neg (show ¬ (false = true) by decide)] at H; exact H
  clear H
  have H := H1
  clear H1
  simp only [Option.some.injEq, Prod.mk.injEq] at H
  obtain ⟨rfl, rfl, rfl⟩ := H
  go_enter Tryz.func26, Tryz.ntmps26
  go_wp2_with (first | (go_at_call 92; (with_reducible refine (impl_cellOf.calls k a0 a1 t101 false _ A3.out).mono ?_); rintro e w9 ⟨rfl, hb⟩; have n0_ := Aside0.mk (below_step aq0 hb); clear HB; have HB := n0_; clear n0_; (try clear hb); (try clear hb2); (try clear hk); (try clear hi)))
  repeat (go_quiet (first | (go_at_call 92; (with_reducible refine (impl_cellOf.calls k a0 a1 t101 false _ A3.out).mono ?_); rintro e w9 ⟨rfl, hb⟩; have n0_ := Aside0.mk (below_step aq0 hb); clear HB; have HB := n0_; clear n0_; (try clear hb); (try clear hb2); (try clear hk); (try clear hi))); try go_wp2_with (first | (go_at_call 92; (with_reducible refine (impl_cellOf.calls k a0 a1 t101 false _ A3.out).mono ?_); rintro e w9 ⟨rfl, hb⟩; have n0_ := Aside0.mk (below_step aq0 hb); clear HB; have HB := n0_; clear n0_; (try clear hb); (try clear hb2); (try clear hk); (try clear hi))))
  go_ret3
  exact ⟨aq8, aq0⟩
end Go.Proofs.YtipjmlcbbimfpaaGreatDoor.F

namespace Go.Proofs.YtipjmlcbbimfpaaGreatDoor.F
open Go.Proofs.YtipjmlcbbimfpaaGreatDoor
open Go.RowKit Go.Proofs.YtipjmlcbbimfpaaGreatDoorW.PrintWords Go.Proofs.YtipjmlcbbimfpaaGreatDoorW.PrintLast Go.Proofs.YtipjmlcbbimfpaaGreatDoorW.PrintMore
attribute [local go_sem] max2_int min2_int max_two min_two max_three min_three max_four min_four   -- for this text's walks alone
set_option linter.unusedVariables false
set_option linter.unusedSimpArgs false
mutual
def spec_PlaceOf.j0 : Nat → ByteArray → Bool → Int → Int → List Int → Option (Int × Int × Bool)
 | 0, _, _, _, _, _ => none
 | k + 1, x1, x32, x108000, x108001, x108002 => if x32 = true then (some (0, 0, false)) else (spec_PlaceOf.l0 k x1 x108002 (x108002.length : Int) 0 x108000 x108001 x108002)
def spec_PlaceOf.l0 : Nat → ByteArray → List Int → Int → Int → Int → Int → List Int → Option (Int × Int × Bool)
 | 0, _, _, _, _, _, _, _ => none
 | k + 1, x1, x34, x35, x36, x108000, x108001, x108002 => if x36 < x35 then (if 0 ≤ x36 then (if x36 < (x34.length : Int) then (if 0 < (x1.size : Int) then (if (rd x34 x36) = (bt x1 0) then (if x108000 = 0 then (none) else (some (Int.tmod x36 x108000, wrap64 (Int.tdiv x36 x108000), true))) else (spec_PlaceOf.l0 k x1 x34 x35 (wrap64 (x36 + 1)) x108000 x108001 x108002)) else (none)) else (none)) else (none)) else (some (0, 0, false))
end
def spec_PlaceOf.f (k : Nat) (a0 : ByteArray) (a1 : ByteArray) : Option (Int × Int × Bool) := (spec_tyRead.f k a0).bind fun bt101 => (if bt101.2.2.2 = true then (if (a1.size : Int) = 1 then (if 0 < (a1.size : Int) then (if (bt a1 0) < 97 then (spec_PlaceOf.j0 k a1 true bt101.1 bt101.2.1 bt101.2.2.1) else (spec_PlaceOf.j0 k a1 (decide ((bt a1 0) > 102)) bt101.1 bt101.2.1 bt101.2.2.1)) else (none)) else (spec_PlaceOf.j0 k a1 true bt101.1 bt101.2.1 bt101.2.2.1)) else (spec_PlaceOf.j0 k a1 true bt101.1 bt101.2.1 bt101.2.2.1))
set_option maxHeartbeats 8000000 in
set_option maxRecDepth 100000 in
theorem spec_PlaceOf.calls (k : Nat) (a0 : ByteArray) (a1 : ByteArray) (r1 : Int) (r2 : Int) (r3 : Bool) (w : World) (h : spec_PlaceOf.f k a0 a1 = some (r1, r2, r3)) :
  Calls Tryz.prog 27 #[.string a0, .string a1] w fun e w' => e = .returned (.tuple #[.int .i64 r1, .int .i64 r2, .bool r3]) ∧ Below w.heap.size w w' := by
 have hu66 := Tryz.underlying66
 have HB := Aside0.mk (Below.refl w.heap.size w)
 have H : ((spec_tyRead.f k a0).bind fun bt101 => (if bt101.2.2.2 = true then (if (a1.size : Int) = 1 then (if 0 < (a1.size : Int) then (if (bt a1 0) < 97 then (spec_PlaceOf.j0 k a1 true bt101.1 bt101.2.1 bt101.2.2.1) else (spec_PlaceOf.j0 k a1 (decide ((bt a1 0) > 102)) bt101.1 bt101.2.1 bt101.2.2.1)) else (none)) else (spec_PlaceOf.j0 k a1 true bt101.1 bt101.2.1 bt101.2.2.1)) else (spec_PlaceOf.j0 k a1 true bt101.1 bt101.2.1 bt101.2.2.1))) = some (r1, r2, r3) := h
 clear h
 replace H := Option.bind_eq_some_iff.mp H
 obtain ⟨⟨t101, t102, t103, t106⟩, A30, H⟩ := H
 replace H : (if t106 = true then (if (a1.size : Int) = 1 then (if 0 < (a1.size : Int) then (if (bt a1 0) < 97 then (spec_PlaceOf.j0 k a1 true t101 t102 t103) else (spec_PlaceOf.j0 k a1 (decide ((bt a1 0) > 102)) t101 t102 t103)) else (none)) else (spec_PlaceOf.j0 k a1 true t101 t102 t103)) else (spec_PlaceOf.j0 k a1 true t101 t102 t103)) = some (r1, r2, r3) := H
 have A3 := Aside0.mk A30
 clear A30
 have HC4 := Aside0.mk H
 clear H
 go_enter Tryz.func27, Tryz.ntmps27
 go_upto_region 2 with (first | (go_at_call 72; (with_reducible refine (spec_tyRead.calls k a0 t101 t102 t103 t106 _ A3.out).mono ?_); rintro e w5 ⟨v104, rfl, ho0, hb⟩; have n0_ := Aside0.mk (Kd.R_lower ho0 (below_size aq0)); have n1_ := Aside0.mk (below_step aq0 hb); clear HB; have HO105 := n0_; have HB := n1_; clear n0_ n1_; (try clear hb); (try clear hb2); (try clear hk); (try clear hi); (try clear ho0)) | ((with_reducible refine gate_dst (N := 7) rfl ?_); (try (refine gate_guard (by rfl) ?_; dsimp only)); refine box_event ?hg (N := 7) ?hd (cs := #[.int .i64 0, .int .i64 0, .slice none 0 0]) (t := 66) ?hr ?_; (case hd => rfl); (case hg => rfl); (case hr => exact aq23); intro gb107 hg w6 hbox hb; have n0_ := Aside0.mk (Kd.R_below aq15 hb); have n1_ := Aside0.mk (below_step aq0 hb); have n2_ := Aside0.mk (hbox); have n3_ := Aside0.mk ((by rw [hg]; exact (below_size aq0) : w.heap.size ≤ gb107)); have n4_ := Aside0.mk ((by rw [hg]; exact (below_size aq0) : w.heap.size ≤ gb107)); clear HO105; clear HB; have HO105 := n0_; have HB := n1_; have BK107 := n2_; have GW107 := n3_; have GE107 := n4_; clear n0_ n1_ n2_ n3_ n4_; clear hb hbox hg; have hcz7_0 : w6.cell? ⟨gb107, 0, none⟩ = some (.int .i64 0) := (blk_cell BK107.out 0).trans rfl; have hcz7_1 : w6.cell? ⟨gb107, 1, none⟩ = some (.int .i64 0) := (blk_cell BK107.out 1).trans rfl; have hcz7_2 : w6.cell? ⟨gb107, 2, none⟩ = some (.slice none 0 0) := (blk_cell BK107.out 2).trans rfl; have hfz7_0 := blk_frozen BK107.out 0; have hfz7_1 := blk_frozen BK107.out 1; have hfz7_2 := blk_frozen BK107.out 2; obtain ⟨Ao8, co8, eo8⟩ := Kd.R_slice HO105.out; subst eo8))
 repeat (go_quiet (first | (go_at_call 72; (with_reducible refine (spec_tyRead.calls k a0 t101 t102 t103 t106 _ A3.out).mono ?_); rintro e w5 ⟨v104, rfl, ho0, hb⟩; have n0_ := Aside0.mk (Kd.R_lower ho0 (below_size aq0)); have n1_ := Aside0.mk (below_step aq0 hb); clear HB; have HO105 := n0_; have HB := n1_; clear n0_ n1_; (try clear hb); (try clear hb2); (try clear hk); (try clear hi); (try clear ho0)) | ((with_reducible refine gate_dst (N := 7) rfl ?_); (try (refine gate_guard (by rfl) ?_; dsimp only)); refine box_event ?hg (N := 7) ?hd (cs := #[.int .i64 0, .int .i64 0, .slice none 0 0]) (t := 66) ?hr ?_; (case hd => rfl); (case hg => rfl); (case hr => exact aq23); intro gb107 hg w6 hbox hb; have n0_ := Aside0.mk (Kd.R_below aq15 hb); have n1_ := Aside0.mk (below_step aq0 hb); have n2_ := Aside0.mk (hbox); have n3_ := Aside0.mk ((by rw [hg]; exact (below_size aq0) : w.heap.size ≤ gb107)); have n4_ := Aside0.mk ((by rw [hg]; exact (below_size aq0) : w.heap.size ≤ gb107)); clear HO105; clear HB; have HO105 := n0_; have HB := n1_; have BK107 := n2_; have GW107 := n3_; have GE107 := n4_; clear n0_ n1_ n2_ n3_ n4_; clear hb hbox hg; have hcz7_0 : w6.cell? ⟨gb107, 0, none⟩ = some (.int .i64 0) := (blk_cell BK107.out 0).trans rfl; have hcz7_1 : w6.cell? ⟨gb107, 1, none⟩ = some (.int .i64 0) := (blk_cell BK107.out 1).trans rfl; have hcz7_2 : w6.cell? ⟨gb107, 2, none⟩ = some (.slice none 0 0) := (blk_cell BK107.out 2).trans rfl; have hfz7_0 := blk_frozen BK107.out 0; have hfz7_1 := blk_frozen BK107.out 1; have hfz7_2 := blk_frozen BK107.out 2; obtain ⟨Ao8, co8, eo8⟩ := Kd.R_slice HO105.out; subst eo8)); go_upto_region 2 with (first | (go_at_call 72; (with_reducible refine (spec_tyRead.calls k a0 t101 t102 t103 t106 _ A3.out).mono ?_); rintro e w5 ⟨v104, rfl, ho0, hb⟩; have n0_ := Aside0.mk (Kd.R_lower ho0 (below_size aq0)); have n1_ := Aside0.mk (below_step aq0 hb); clear HB; have HO105 := n0_; have HB := n1_; clear n0_ n1_; (try clear hb); (try clear hb2); (try clear hk); (try clear hi); (try clear ho0)) | ((with_reducible refine gate_dst (N := 7) rfl ?_); (try (refine gate_guard (by rfl) ?_; dsimp only)); refine box_event ?hg (N := 7) ?hd (cs := #[.int .i64 0, .int .i64 0, .slice none 0 0]) (t := 66) ?hr ?_; (case hd => rfl); (case hg => rfl); (case hr => exact aq23); intro gb107 hg w6 hbox hb; have n0_ := Aside0.mk (Kd.R_below aq15 hb); have n1_ := Aside0.mk (below_step aq0 hb); have n2_ := Aside0.mk (hbox); have n3_ := Aside0.mk ((by rw [hg]; exact (below_size aq0) : w.heap.size ≤ gb107)); have n4_ := Aside0.mk ((by rw [hg]; exact (below_size aq0) : w.heap.size ≤ gb107)); clear HO105; clear HB; have HO105 := n0_; have HB := n1_; have BK107 := n2_; have GW107 := n3_; have GE107 := n4_; clear n0_ n1_ n2_ n3_ n4_; clear hb hbox hg; have hcz7_0 : w6.cell? ⟨gb107, 0, none⟩ = some (.int .i64 0) := (blk_cell BK107.out 0).trans rfl; have hcz7_1 : w6.cell? ⟨gb107, 1, none⟩ = some (.int .i64 0) := (blk_cell BK107.out 1).trans rfl; have hcz7_2 : w6.cell? ⟨gb107, 2, none⟩ = some (.slice none 0 0) := (blk_cell BK107.out 2).trans rfl; have hfz7_0 := blk_frozen BK107.out 0; have hfz7_1 := blk_frozen BK107.out 1; have hfz7_2 := blk_frozen BK107.out 2; obtain ⟨Ao8, co8, eo8⟩ := Kd.R_slice HO105.out; subst eo8)))
 (try simp only [Act.put, List.setIfInBounds_toArray, List.set_cons_zero, List.set_cons_succ])
 go_cut [32] (fun v32 wc => ∃ (kq : Nat) (x32_3 : Bool), v32 = .bool x32_3 ∧ Aside0 (spec_PlaceOf.j0 kq a1 x32_3 t101 t102 t103 = some (r1, r2, r3)) ∧ Aside0 (kq ≤ k) ∧ Aside0 (Kd.R (Kd.int .u8) 5 wc w.heap.size (fun _ => True) (.slice Ao8 t103.length co8) t103) ∧ Aside0 (wc.heap[gb107]? = some (.cells #[.int .i64 t101, .int .i64 t102, (.slice Ao8 t103.length co8)] 66 (0, 0))) ∧ Aside0 (Below w.heap.size w wc))
 case first =>
  have H := HC4.out
  clear HC4
  by_cases c9 : t106 = true
  ·subst c9
   have H1 : (if (a1.size : Int) = 1 then (if 0 < (a1.size : Int) then (if (bt a1 0) < 97 then (spec_PlaceOf.j0 k a1 true t101 t102 t103) else (spec_PlaceOf.j0 k a1 (decide ((bt a1 0) > 102)) t101 t102 t103)) else (none)) else (spec_PlaceOf.j0 k a1 true t101 t102 t103)) = some (r1, r2, r3) := by rw [if_pos rfl] at H; exact H
   clear H
   have H := H1
   clear H1
   by_cases c10 : (a1.size : Int) = 1
   ·rw [if_pos c10] at H
    have c10b0 : ((a1.size : Int) == 1) = true := beq_iff_eq.mpr c10
    have c10b1 : ((a1.size : Int) != 1) = false := bne_eq_false_iff_eq.mpr c10
    clear c10
    (first | rw [c10b0] | (simp only [i64_w, i32_w]; rw [c10b0]) | skip)
    by_cases c11 : 0 < (a1.size : Int)
    ·rw [if_pos c11] at H
     have c11b0 : decide (0 < (a1.size : Int)) = true := decide_eq_true c11
     have c11b1 : decide (0 < a1.size) = true := decide_eq_true (by omega)
     clear c11
     by_cases c13 : (bt a1 0) < 97
     ·rw [if_pos c13] at H
      have c13b0 : decide ((bt a1 0) < 97) = true := decide_eq_true c13
      clear c13
      have H' := Aside0.mk H
      clear H
      have p12 : 0 ≤ (0 : Int) := (by omega)
      have q12 : 0 < a1.size := (by have : (0 : Int) < (a1.size : Int) := of_decide_eq_true aq9; omega)
      have hx12 : ∀ h : 0 < a1.size, ((a1[0]'h).toNat : Int) = bt a1 0 := bt_at a1 0
      clear p12
      have qi12 : (0 < (a1.size : Int)) = True := eq_true (of_decide_eq_true aq9)
      replace q12 := eq_true q12
      go_wp2
      repeat (go_quiet (fail); try go_wp2)
      go_meet
      case rel => exact ⟨_, (true), aq11, H', ⟨aq68⟩, ⟨aq22⟩, ⟨aq12⟩, ⟨aq10⟩⟩
     ·rw [if_neg c13] at H
      have c13b0 : decide ((bt a1 0) < 97) = false := decide_eq_false c13
      clear c13
      have H' := Aside0.mk H
      clear H
      have p12 : 0 ≤ (0 : Int) := (by omega)
      have q12 : 0 < a1.size := (by have : (0 : Int) < (a1.size : Int) := of_decide_eq_true aq9; omega)
      have hx12 : ∀ h : 0 < a1.size, ((a1[0]'h).toNat : Int) = bt a1 0 := bt_at a1 0
      clear p12
      have qi12 : (0 < (a1.size : Int)) = True := eq_true (of_decide_eq_true aq9)
      replace q12 := eq_true q12
      have p14 : 0 ≤ (0 : Int) := (by omega)
      have q14 : 0 < a1.size := (by have : (0 : Int) < (a1.size : Int) := of_decide_eq_true aq9; omega)
      have hx14 : ∀ h : 0 < a1.size, ((a1[0]'h).toNat : Int) = bt a1 0 := bt_at a1 0
      clear p14
      have qi14 : (0 < (a1.size : Int)) = True := eq_true (of_decide_eq_true aq9)
      replace q14 := eq_true q14
      go_wp2
      repeat (go_quiet (fail); try go_wp2)
      go_meet
      case rel => exact ⟨_, (decide ((bt a1 0) > 102)), aq11, H', ⟨aq68⟩, ⟨aq22⟩, ⟨aq12⟩, ⟨aq10⟩⟩
    ·rw [if_neg c11] at H
     exact absurd H (by simp)
   ·rw [if_neg c10] at H
    have c10b0 : ((a1.size : Int) == 1) = false := beq_eq_false_iff_ne.mpr c10
    have c10b1 : ((a1.size : Int) != 1) = true := bne_iff_ne.mpr c10
    (first | rw [c10b0] | (simp only [i64_w, i32_w]; rw [c10b0]) | skip)
    have H' := Aside0.mk H
    clear H
    go_wp2
    repeat (go_quiet (fail); try go_wp2)
    go_meet
    case rel => exact ⟨_, (true), aq11, H', ⟨aq68⟩, ⟨aq22⟩, ⟨aq12⟩, ⟨aq10⟩⟩
  ·replace c9 := Bool.eq_false_iff.mpr c9
   subst c9
   have H1 : (spec_PlaceOf.j0 k a1 true t101 t102 t103) = some (r1, r2, r3) := by rw [if_neg (show ¬ (false = true) by decide)] at H; exact H
   clear H
   have H := H1
   clear H1
   have H' := Aside0.mk H
   clear H
   go_wp2
   repeat (go_quiet (fail); try go_wp2)
   go_meet
   case rel => exact ⟨_, (true), aq11, H', ⟨aq68⟩, ⟨aq22⟩, ⟨aq12⟩, ⟨aq10⟩⟩
 case rest =>
  clear HC4
  try clear c1
  try clear p1
  try clear q1
  try clear hx1
  try clear qi1
  try clear c2
  try clear p2
  try clear c9
  try clear c10
  try clear c10b0
  try clear c10b1
  try clear c11
  try clear c11b0
  try clear c11b1
  try clear p12
  try clear q12
  try clear hx12
  try clear qi12
  try clear c13
  try clear c13b0
  try clear p14
  try clear q14
  try clear hx14
  try clear qi14
  try clear hcz7_0
  try clear hcz7_1
  try clear hcz7_2
  try clear hfz7_0
  try clear hfz7_1
  try clear hfz7_2
  try clear p12
  try clear p14
  try clear q12
  try clear q14
  obtain ⟨kq, x32_3, rfl, HA, HJ3, HO_108002, BK107, HB⟩ := hcut
  cases kq with
  | zero => exact absurd HA.out (by simp [spec_PlaceOf.j0])
  | succ kj3 =>
   have H := HA.out
   clear HA
   simp only [spec_PlaceOf.j0] at H
   by_cases c15 : x32_3 = true
   ·subst c15
    have H1 : (some (0, 0, false)) = some (r1, r2, r3) := by rw [if_pos rfl] at H; exact H
    clear H
    have H := H1
    clear H1
    simp only [Option.some.injEq, Prod.mk.injEq] at H
    obtain ⟨rfl, rfl, rfl⟩ := H
    go_wp2
    repeat (go_quiet (fail); try go_wp2)
    go_ret3
    exact ⟨aq8, aq10⟩
   ·replace c15 := Bool.eq_false_iff.mpr c15
    subst c15
    have H1 : (spec_PlaceOf.l0 kj3 a1 t103 (t103.length : Int) 0 t101 t102 t103) = some (r1, r2, r3) := by rw [if_neg (show ¬ (false = true) by decide)] at H; exact H
    clear H
    have H := H1
    clear H1
    have H' := Aside0.mk H
    clear H
    have hcz16_0 : wc.cell? ⟨gb107, 0, none⟩ = some (.int .i64 t101) := (blk_cell BK107.out 0).trans rfl
    have hcz16_1 : wc.cell? ⟨gb107, 1, none⟩ = some (.int .i64 t102) := (blk_cell BK107.out 1).trans rfl
    have hcz16_2 : wc.cell? ⟨gb107, 2, none⟩ = some (.slice Ao8 t103.length co8) := (blk_cell BK107.out 2).trans rfl
    have hfz16_0 := blk_frozen BK107.out 0
    have hfz16_1 := blk_frozen BK107.out 1
    have hfz16_2 := blk_frozen BK107.out 2
    go_wp2
    repeat (go_quiet (fail); try go_wp2)
    go_loopg [36] kj3 (fun kq v36 w' => ∃ (x36_2 : Int), v36 = .int .i64 x36_2 ∧ Aside0 (spec_PlaceOf.l0 kq a1 t103 (t103.length : Int) x36_2 t101 t102 t103 = some (r1, r2, r3)) ∧ Aside0 (kq ≤ kj3) ∧ Aside0 (Kd.R (Kd.int .u8) 5 w' w.heap.size (fun _ => True) (.slice Ao8 t103.length co8) t103) ∧ Aside0 (Kd.R (Kd.int .u8) 5 w' w.heap.size (fun _ => True) (.slice Ao8 t103.length co8) t103) ∧ Aside0 (w'.heap[gb107]? = some (.cells #[.int .i64 t101, .int .i64 t102, (.slice Ao8 t103.length co8)] 66 (0, 0))) ∧ Aside0 (Below w.heap.size w w'))
    case atStart => exact ⟨(0), aq11, H', ⟨Nat.le_refl _⟩, ⟨aq35⟩, ⟨aq35⟩, ⟨aq39⟩, ⟨aq10⟩⟩
    case round =>
     clear H'
     try clear c1
     try clear p1
     try clear q1
     try clear hx1
     try clear qi1
     try clear c2
     try clear p2
     try clear c9
     try clear c10
     try clear c10b0
     try clear c10b1
     try clear c11
     try clear c11b0
     try clear c11b1
     try clear p12
     try clear q12
     try clear hx12
     try clear qi12
     try clear c13
     try clear c13b0
     try clear p14
     try clear q14
     try clear hx14
     try clear qi14
     try clear c15
     try clear hcz16_0
     try clear hcz16_1
     try clear hcz16_2
     try clear hcz7_0
     try clear hcz7_1
     try clear hcz7_2
     try clear hfz16_0
     try clear hfz16_1
     try clear hfz16_2
     try clear hfz7_0
     try clear hfz7_1
     try clear hfz7_2
     try clear p1
     try clear p12
     try clear p14
     try clear p2
     try clear q1
     try clear q12
     try clear q14
     obtain ⟨x36_2, rfl, HA, HK2, HO_34, HO_108002, BK107, HB⟩ := hrel
     cases gk with
     | zero => exact absurd HA.out (by simp [spec_PlaceOf.l0])
     | succ k2 =>
      have H := HA.out
      clear HA
      simp only [spec_PlaceOf.l0] at H
      by_cases c17 : x36_2 < (t103.length : Int)
      ·rw [if_pos c17] at H
       have c17b0 : decide (x36_2 < (t103.length : Int)) = true := decide_eq_true c17
       clear c17
       by_cases c18 : 0 ≤ x36_2
       ·rw [if_pos c18] at H
        have c18b0 : decide (0 ≤ x36_2) = true := decide_eq_true c18
        clear c18
        by_cases c19 : x36_2 < (t103.length : Int)
        ·rw [if_pos c19] at H
         have c19b0 : decide (x36_2 < (t103.length : Int)) = true := decide_eq_true c19
         clear c19
         by_cases c20 : 0 < (a1.size : Int)
         ·rw [if_pos c20] at H
          have c20b0 : decide (0 < (a1.size : Int)) = true := decide_eq_true c20
          have c20b1 : decide (0 < a1.size) = true := decide_eq_true (by omega)
          clear c20
          by_cases c22 : (rd t103 x36_2) = (bt a1 0)
          ·rw [if_pos c22] at H
           have c22b0 : ((rd t103 x36_2) == (bt a1 0)) = true := beq_iff_eq.mpr c22
           have c22b1 : ((rd t103 x36_2) != (bt a1 0)) = false := bne_eq_false_iff_eq.mpr c22
           clear c22
           by_cases c23 : t101 = 0
           ·rw [if_pos c23] at H
            exact absurd H (by simp)
           ·rw [if_neg c23] at H
            have c23b0 : (t101 == 0) = false := beq_eq_false_iff_ne.mpr c23
            have c23b1 : (t101 != 0) = true := bne_iff_ne.mpr c23
            simp only [Option.some.injEq, Prod.mk.injEq] at H
            obtain ⟨rfl, rfl, rfl⟩ := H
            have p108 : 0 ≤ (x36_2 : Int) := of_decide_eq_true aq9
            have q108 : x36_2 < (t103.length : Int) := of_decide_eq_true aq9
            obtain ⟨ad108, e108, hx108_0⟩ := Kd.at_int (Kd.R_reads' HO_34.out).2.2 x36_2 p108 q108
            cases e108
            replace p108 := eq_true p108
            replace q108 := eq_true q108
            have p21 : 0 ≤ (0 : Int) := (by omega)
            have q21 : 0 < a1.size := (by have : (0 : Int) < (a1.size : Int) := of_decide_eq_true aq9; omega)
            have hx21 : ∀ h : 0 < a1.size, ((a1[0]'h).toNat : Int) = bt a1 0 := bt_at a1 0
            clear p21
            have qi21 : (0 < (a1.size : Int)) = True := eq_true (of_decide_eq_true aq9)
            replace q21 := eq_true q21
            have hcz24_0 : wr.cell? ⟨gb107, 0, none⟩ = some (.int .i64 t101) := (blk_cell BK107.out 0).trans rfl
            have hcz24_1 : wr.cell? ⟨gb107, 1, none⟩ = some (.int .i64 t102) := (blk_cell BK107.out 1).trans rfl
            have hcz24_2 : wr.cell? ⟨gb107, 2, none⟩ = some (.slice (some ad108) t103.length co8) := (blk_cell BK107.out 2).trans rfl
            have hfz24_0 := blk_frozen BK107.out 0
            have hfz24_1 := blk_frozen BK107.out 1
            have hfz24_2 := blk_frozen BK107.out 2
            go_wp2
            repeat (go_quiet (fail); try go_wp2)
            go_ret3
            exact ⟨aq8, aq10⟩
          ·rw [if_neg c22] at H
           have c22b0 : ((rd t103 x36_2) == (bt a1 0)) = false := beq_eq_false_iff_ne.mpr c22
           have c22b1 : ((rd t103 x36_2) != (bt a1 0)) = true := bne_iff_ne.mpr c22
           have H' := Aside0.mk H
           clear H
           have p108 : 0 ≤ (x36_2 : Int) := of_decide_eq_true aq9
           have q108 : x36_2 < (t103.length : Int) := of_decide_eq_true aq9
           obtain ⟨ad108, e108, hx108_0⟩ := Kd.at_int (Kd.R_reads' HO_34.out).2.2 x36_2 p108 q108
           cases e108
           replace p108 := eq_true p108
           replace q108 := eq_true q108
           have p21 : 0 ≤ (0 : Int) := (by omega)
           have q21 : 0 < a1.size := (by have : (0 : Int) < (a1.size : Int) := of_decide_eq_true aq9; omega)
           have hx21 : ∀ h : 0 < a1.size, ((a1[0]'h).toNat : Int) = bt a1 0 := bt_at a1 0
           clear p21
           have qi21 : (0 < (a1.size : Int)) = True := eq_true (of_decide_eq_true aq9)
           replace q21 := eq_true q21
           go_wp2
           repeat (go_quiet (fail); try go_wp2)
           go_roundg k2
           case measure => have := HJ3.out; have := HK2.out; omega
           case rel => exact ⟨(wrap64 (x36_2 + 1)), aq11, H', ⟨by have := HJ3.out; have := HK2.out; omega⟩, ⟨by (with_reducible repeat (first | apply Kd.R_alloc | apply Kd.R_drewN | apply Kd.R_drew)); exact HO_34.out⟩, ⟨aq35⟩, ⟨aq39⟩, ⟨aq10⟩⟩
         ·rw [if_neg c20] at H
          exact absurd H (by simp)
        ·rw [if_neg c19] at H
         exact absurd H (by simp)
       ·rw [if_neg c18] at H
        exact absurd H (by simp)
      ·rw [if_neg c17] at H
       have c17b0 : decide (x36_2 < (t103.length : Int)) = false := decide_eq_false c17
       clear c17
       simp only [Option.some.injEq, Prod.mk.injEq] at H
       obtain ⟨rfl, rfl, rfl⟩ := H
       go_wp2
       repeat (go_quiet (fail); try go_wp2)
       go_ret3
       exact ⟨aq8, aq10⟩
end Go.Proofs.YtipjmlcbbimfpaaGreatDoor.F

namespace Go.Proofs.YtipjmlcbbimfpaaGreatDoor.F
open Go.Proofs.YtipjmlcbbimfpaaGreatDoor
open Go.RowKit Go.Proofs.YtipjmlcbbimfpaaGreatDoorW.PrintWords Go.Proofs.YtipjmlcbbimfpaaGreatDoorW.PrintLast Go.Proofs.YtipjmlcbbimfpaaGreatDoorW.PrintMore
attribute [local go_sem] max2_int min2_int max_two min_two max_three min_three max_four min_four   -- for this text's walks alone
set_option linter.unusedVariables false
set_option linter.unusedSimpArgs false
def impl_isPlace.f (k : Nat) (a0 : ByteArray) (a1 : Int) (a2 : Int) : Option (Bool) := (impl_IsTray.f k a0).bind fun t101 => (if t101 = true then ((impl_read.f a0).bind fun bt102 => ((impl_within.f a1 0 (wrap64 (bt102.1 - 1))).bind fun t107 => (if t107 = true then ((impl_read.f a0).bind fun bt108 => ((impl_within.f a2 0 (wrap64 (bt108.2.1 - 1))).bind fun t113 => (some t113))) else (some false)))) else (some false))
set_option maxHeartbeats 8000000 in
set_option maxRecDepth 100000 in
theorem impl_isPlace.calls (k : Nat) (a0 : ByteArray) (a1 : Int) (a2 : Int) (r : Bool) (w : World) (h : impl_isPlace.f k a0 a1 a2 = some r) :
  Calls Tryz.prog 93 #[.string a0, .int .i64 a1, .int .i64 a2] w fun e w' => e = .returned (.bool r) ∧ Below w.heap.size w w' := by
 have hfd62_0 : ∀ (x0_ x1_ x2_ : Value) (W : World), (Instr.field 62 (.agg #[x0_, x1_, x2_]) 0).run Tryz.prog W = .ok x0_ W := fun _ _ _  _ => by kernel_rfl
 have hfd62_1 : ∀ (x0_ x1_ x2_ : Value) (W : World), (Instr.field 62 (.agg #[x0_, x1_, x2_]) 1).run Tryz.prog W = .ok x1_ W := fun _ _ _  _ => by kernel_rfl
 have HB := Aside0.mk (Below.refl w.heap.size w)
 have H : ((impl_IsTray.f k a0).bind fun t101 => (if t101 = true then ((impl_read.f a0).bind fun bt102 => ((impl_within.f a1 0 (wrap64 (bt102.1 - 1))).bind fun t107 => (if t107 = true then ((impl_read.f a0).bind fun bt108 => ((impl_within.f a2 0 (wrap64 (bt108.2.1 - 1))).bind fun t113 => (some t113))) else (some false)))) else (some false))) = some r := h
 clear h
 replace H := Option.bind_eq_some_iff.mp H
 obtain ⟨t101, A40, H⟩ := H
 replace H : (if t101 = true then ((impl_read.f a0).bind fun bt102 => ((impl_within.f a1 0 (wrap64 (bt102.1 - 1))).bind fun t107 => (if t107 = true then ((impl_read.f a0).bind fun bt108 => ((impl_within.f a2 0 (wrap64 (bt108.2.1 - 1))).bind fun t113 => (some t113))) else (some false)))) else (some false)) = some r := H
 have A4 := Aside0.mk A40
 clear A40
 by_cases c5 : t101 = true
 ·subst c5
  have H1 : ((impl_read.f a0).bind fun bt102 => ((impl_within.f a1 0 (wrap64 (bt102.1 - 1))).bind fun t107 => (if t107 = true then ((impl_read.f a0).bind fun bt108 => ((impl_within.f a2 0 (wrap64 (bt108.2.1 - 1))).bind fun t113 => (some t113))) else (some false)))) = some r := by rw [if_pos rfl] at H; exact H
  clear H
  have H := H1
  clear H1
  replace H := Option.bind_eq_some_iff.mp H
  obtain ⟨⟨t102, t103, t104⟩, A60, H⟩ := H
  replace H : ((impl_within.f a1 0 (wrap64 (t102 - 1))).bind fun t107 => (if t107 = true then ((impl_read.f a0).bind fun bt108 => ((impl_within.f a2 0 (wrap64 (bt108.2.1 - 1))).bind fun t113 => (some t113))) else (some false))) = some r := H
  have A6 := Aside0.mk A60
  clear A60
  replace H := Option.bind_eq_some_iff.mp H
  obtain ⟨t107, A70, H⟩ := H
  replace H : (if t107 = true then ((impl_read.f a0).bind fun bt108 => ((impl_within.f a2 0 (wrap64 (bt108.2.1 - 1))).bind fun t113 => (some t113))) else (some false)) = some r := H
  have A7 := Aside0.mk A70
  clear A70
  by_cases c8 : t107 = true
  ·subst c8
   have H1 : ((impl_read.f a0).bind fun bt108 => ((impl_within.f a2 0 (wrap64 (bt108.2.1 - 1))).bind fun t113 => (some t113))) = some r := by rw [if_pos rfl] at H; exact H
   clear H
   have H := H1
   clear H1
   replace H := Option.bind_eq_some_iff.mp H
   obtain ⟨⟨t108, t109, t110⟩, A90, H⟩ := H
   replace H : ((impl_within.f a2 0 (wrap64 (t109 - 1))).bind fun t113 => (some t113)) = some r := H
   have A9 := Aside0.mk A90
   clear A90
   replace H := Option.bind_eq_some_iff.mp H
   obtain ⟨t113, A100, H⟩ := H
   replace H : (some t113) = some r := H
   have A10 := Aside0.mk A100
   clear A100
   obtain rfl := Option.some.inj H
   go_enter Tryz.func93, Tryz.ntmps93
   go_wp2_with (first | ((with_reducible refine gate_callee (f := 18) rfl ?_); refine goesL_ (some 8) rfl rfl Tryz.func18 (by kernel_rfl) rfl #[.string a0] rfl aq1 ?_; (with_reducible refine (impl_IsTray.calls k a0 true _ A4.out).mono ?_); rintro e w11 ⟨rfl, hb⟩; refine ⟨_, rfl, ?_⟩; have n0_ := Aside0.mk (below_step aq0 hb); clear HB; have HB := n0_; clear n0_; (try clear hb); (try clear hb2); (try clear hk); (try clear hi)) | (go_at_call 70; (with_reducible refine (impl_read.calls a0 t102 t103 t104 _ A6.out).mono ?_); rintro e w12 ⟨v105, rfl, ho0, hb⟩; have n0_ := Aside0.mk (Kd.V_lower (Kd.V_mono (ok' := fun k_ => True) ho0 (fun k_ hk_ => trivial)) (below_size aq0)); have n1_ := Aside0.mk (below_step aq0 hb); clear HB; have HO106 := n0_; have HB := n1_; clear n0_ n1_; (try clear hb); (try clear hb2); (try clear hk); (try clear hi); (try clear ho0); (try clear A6)) | (go_at_call 135; (with_reducible refine (impl_within.calls a1 0 (wrap64 (t102 - 1)) true _ A7.out).mono ?_); rintro e w' ⟨rfl, ⟨nd, rfl⟩⟩; (try clear A7)) | (go_at_call 70; (with_reducible refine (impl_read.calls a0 t108 t109 t110 _ A9.out).mono ?_); rintro e w13 ⟨v111, rfl, ho0, hb⟩; have n0_ := Aside0.mk (Kd.V_below aq33 hb); have n1_ := Aside0.mk (Kd.V_lower (Kd.V_mono (ok' := fun k_ => True) ho0 (fun k_ hk_ => trivial)) (below_size aq0)); have n2_ := Aside0.mk (below_step aq0 hb); clear HO106; clear HB; have HO106 := n0_; have HO112 := n1_; have HB := n2_; clear n0_ n1_ n2_; (try clear hb); (try clear hb2); (try clear hk); (try clear hi); (try clear ho0); (try clear A9)) | (go_at_call 135; (with_reducible refine (impl_within.calls a2 0 (wrap64 (t109 - 1)) t113 _ A10.out).mono ?_); rintro e w' ⟨rfl, ⟨nd, rfl⟩⟩; (try clear A10)))
   go_ret
   exact ⟨aq8, aq0⟩
  ·replace c8 := Bool.eq_false_iff.mpr c8
   subst c8
   have H1 : (some false) = some r := by rw [if_neg (show ¬ (false = true) by decide)] at H; exact H
   clear H
   have H := H1
   clear H1
   obtain rfl := Option.some.inj H
   go_enter Tryz.func93, Tryz.ntmps93
   go_wp2_with (first | ((with_reducible refine gate_callee (f := 18) rfl ?_); refine goesL_ (some 8) rfl rfl Tryz.func18 (by kernel_rfl) rfl #[.string a0] rfl aq1 ?_; (with_reducible refine (impl_IsTray.calls k a0 true _ A4.out).mono ?_); rintro e w14 ⟨rfl, hb⟩; refine ⟨_, rfl, ?_⟩; have n0_ := Aside0.mk (below_step aq0 hb); clear HB; have HB := n0_; clear n0_; (try clear hb); (try clear hb2); (try clear hk); (try clear hi)) | (go_at_call 70; (with_reducible refine (impl_read.calls a0 t102 t103 t104 _ A6.out).mono ?_); rintro e w15 ⟨v105, rfl, ho0, hb⟩; have n0_ := Aside0.mk (Kd.V_lower (Kd.V_mono (ok' := fun k_ => True) ho0 (fun k_ hk_ => trivial)) (below_size aq0)); have n1_ := Aside0.mk (below_step aq0 hb); clear HB; have HO106 := n0_; have HB := n1_; clear n0_ n1_; (try clear hb); (try clear hb2); (try clear hk); (try clear hi); (try clear ho0)) | (go_at_call 135; (with_reducible refine (impl_within.calls a1 0 (wrap64 (t102 - 1)) false _ A7.out).mono ?_); rintro e w' ⟨rfl, ⟨nd, rfl⟩⟩))
   go_ret
   exact ⟨aq8, aq0⟩
 ·replace c5 := Bool.eq_false_iff.mpr c5
  subst c5
  have H1 : (some false) = some r := by rw [if_neg (show ¬ (false = true) by decide)] at H; exact H
  clear H
  have H := H1
  clear H1
  obtain rfl := Option.some.inj H
  go_enter Tryz.func93, Tryz.ntmps93
  go_wp2_with (first | ((with_reducible refine gate_callee (f := 18) rfl ?_); refine goesL_ (some 8) rfl rfl Tryz.func18 (by kernel_rfl) rfl #[.string a0] rfl aq1 ?_; (with_reducible refine (impl_IsTray.calls k a0 false _ A4.out).mono ?_); rintro e w16 ⟨rfl, hb⟩; refine ⟨_, rfl, ?_⟩; have n0_ := Aside0.mk (below_step aq0 hb); clear HB; have HB := n0_; clear n0_; (try clear hb); (try clear hb2); (try clear hk); (try clear hi)))
  go_ret
  exact ⟨aq8, aq0⟩
end Go.Proofs.YtipjmlcbbimfpaaGreatDoor.F

namespace Go.Proofs.YtipjmlcbbimfpaaGreatDoor.F
open Go.Proofs.YtipjmlcbbimfpaaGreatDoor
open Go.RowKit Go.Proofs.YtipjmlcbbimfpaaGreatDoorW.PrintWords Go.Proofs.YtipjmlcbbimfpaaGreatDoorW.PrintLast Go.Proofs.YtipjmlcbbimfpaaGreatDoorW.PrintMore
attribute [local go_sem] max2_int min2_int max_two min_two max_three min_three max_four min_four   -- for this text's walks alone
set_option linter.unusedVariables false
set_option linter.unusedSimpArgs false
def impl_CellAt.f (k : Nat) (a0 : ByteArray) (a1 : Int) (a2 : Int) : Option (ByteArray × Bool) := (impl_isPlace.f k a0 a1 a2).bind fun t101 => (if t101 = true then ((impl_read.f a0).bind fun bt102 => (if 0 ≤ (wrap64 ((wrap64 (a2 * bt102.1)) + a1)) then (if (wrap64 ((wrap64 (a2 * bt102.1)) + a1)) ≤ (wrap64 ((wrap64 ((wrap64 (a2 * bt102.1)) + a1)) + 1)) then (if (wrap64 ((wrap64 ((wrap64 (a2 * bt102.1)) + a1)) + 1)) ≤ (bt102.2.2.length : Int) then (some (strOfNums ((bt102.2.2.take ((wrap64 ((wrap64 ((wrap64 (a2 * bt102.1)) + a1)) + 1)) : Int).toNat).drop ((wrap64 ((wrap64 (a2 * bt102.1)) + a1)) : Int).toNat), true)) else (none)) else (none)) else (none))) else (some ((⟨#[]⟩ : ByteArray), false)))
set_option maxHeartbeats 8000000 in
set_option maxRecDepth 100000 in
theorem impl_CellAt.calls (k : Nat) (a0 : ByteArray) (a1 : Int) (a2 : Int) (r1 : ByteArray) (r2 : Bool) (w : World) (h : impl_CellAt.f k a0 a1 a2 = some (r1, r2)) :
  Calls Tryz.prog 28 #[.string a0, .int .i64 a1, .int .i64 a2] w fun e w' => e = .returned (.tuple #[.string r1, .bool r2]) ∧ Below w.heap.size w w' := by
 have hu62 := Tryz.underlying62
 have HB := Aside0.mk (Below.refl w.heap.size w)
 have H : ((impl_isPlace.f k a0 a1 a2).bind fun t101 => (if t101 = true then ((impl_read.f a0).bind fun bt102 => (if 0 ≤ (wrap64 ((wrap64 (a2 * bt102.1)) + a1)) then (if (wrap64 ((wrap64 (a2 * bt102.1)) + a1)) ≤ (wrap64 ((wrap64 ((wrap64 (a2 * bt102.1)) + a1)) + 1)) then (if (wrap64 ((wrap64 ((wrap64 (a2 * bt102.1)) + a1)) + 1)) ≤ (bt102.2.2.length : Int) then (some (strOfNums ((bt102.2.2.take ((wrap64 ((wrap64 ((wrap64 (a2 * bt102.1)) + a1)) + 1)) : Int).toNat).drop ((wrap64 ((wrap64 (a2 * bt102.1)) + a1)) : Int).toNat), true)) else (none)) else (none)) else (none))) else (some ((⟨#[]⟩ : ByteArray), false)))) = some (r1, r2) := h
 clear h
 replace H := Option.bind_eq_some_iff.mp H
 obtain ⟨t101, A40, H⟩ := H
 replace H : (if t101 = true then ((impl_read.f a0).bind fun bt102 => (if 0 ≤ (wrap64 ((wrap64 (a2 * bt102.1)) + a1)) then (if (wrap64 ((wrap64 (a2 * bt102.1)) + a1)) ≤ (wrap64 ((wrap64 ((wrap64 (a2 * bt102.1)) + a1)) + 1)) then (if (wrap64 ((wrap64 ((wrap64 (a2 * bt102.1)) + a1)) + 1)) ≤ (bt102.2.2.length : Int) then (some (strOfNums ((bt102.2.2.take ((wrap64 ((wrap64 ((wrap64 (a2 * bt102.1)) + a1)) + 1)) : Int).toNat).drop ((wrap64 ((wrap64 (a2 * bt102.1)) + a1)) : Int).toNat), true)) else (none)) else (none)) else (none))) else (some ((⟨#[]⟩ : ByteArray), false))) = some (r1, r2) := H
 have A4 := Aside0.mk A40
 clear A40
 by_cases c5 : t101 = true
 ·subst c5
  have H1 : ((impl_read.f a0).bind fun bt102 => (if 0 ≤ (wrap64 ((wrap64 (a2 * bt102.1)) + a1)) then (if (wrap64 ((wrap64 (a2 * bt102.1)) + a1)) ≤ (wrap64 ((wrap64 ((wrap64 (a2 * bt102.1)) + a1)) + 1)) then (if (wrap64 ((wrap64 ((wrap64 (a2 * bt102.1)) + a1)) + 1)) ≤ (bt102.2.2.length : Int) then (some (strOfNums ((bt102.2.2.take ((wrap64 ((wrap64 ((wrap64 (a2 * bt102.1)) + a1)) + 1)) : Int).toNat).drop ((wrap64 ((wrap64 (a2 * bt102.1)) + a1)) : Int).toNat), true)) else (none)) else (none)) else (none))) = some (r1, r2) := by rw [if_pos rfl] at H; exact H
  clear H
  have H := H1
  clear H1
  replace H := Option.bind_eq_some_iff.mp H
  obtain ⟨⟨t102, t103, t104⟩, A60, H⟩ := H
  replace H : (if 0 ≤ (wrap64 ((wrap64 (a2 * t102)) + a1)) then (if (wrap64 ((wrap64 (a2 * t102)) + a1)) ≤ (wrap64 ((wrap64 ((wrap64 (a2 * t102)) + a1)) + 1)) then (if (wrap64 ((wrap64 ((wrap64 (a2 * t102)) + a1)) + 1)) ≤ (t104.length : Int) then (some (strOfNums ((t104.take ((wrap64 ((wrap64 ((wrap64 (a2 * t102)) + a1)) + 1)) : Int).toNat).drop ((wrap64 ((wrap64 (a2 * t102)) + a1)) : Int).toNat), true)) else (none)) else (none)) else (none)) = some (r1, r2) := H
  have A6 := Aside0.mk A60
  clear A60
  obtain ⟨ji7, hji7⟩ : ∃ j_ : Int, (wrap64 ((wrap64 (a2 * t102)) + a1)) = j_ := ⟨_, rfl⟩
  replace H : (if 0 ≤ (ji7) then (if (ji7) ≤ (wrap64 ((ji7) + 1)) then (if (wrap64 ((ji7) + 1)) ≤ (t104.length : Int) then (some (strOfNums ((t104.take ((wrap64 ((ji7) + 1)) : Int).toNat).drop ((ji7) : Int).toNat), true)) else (none)) else (none)) else (none)) = some (r1, r2) := by first | (rw [hji7] at H; exact H) | (simp only [hji7] at H ⊢; exact H)
  (try rw [hji7] at A4)
  (try rw [hji7] at A6)
  have hji7w : (IntKind.i64.wrap ((wrap64 (a2 * t102)) + a1)) = ji7 := (i64_w _).trans hji7
  by_cases c8 : 0 ≤ (ji7)
  ·rw [if_pos c8] at H
   have c8b0 := eq_true c8
   have c8b1 : decide (0 ≤ (ji7)) = true := decide_eq_true c8
   clear c8
   by_cases c9 : (ji7) ≤ (wrap64 ((ji7) + 1))
   ·rw [if_pos c9] at H
    have c9b0 := eq_true c9
    have c9b1 : decide ((ji7) ≤ (wrap64 ((ji7) + 1))) = true := decide_eq_true c9
    by_cases c10 : (wrap64 ((ji7) + 1)) ≤ (t104.length : Int)
    ·rw [if_pos c10] at H
     have c10b0 := eq_true c10
     have c10b1 : decide ((wrap64 ((ji7) + 1)) ≤ (t104.length : Int)) = true := decide_eq_true c10
     obtain ⟨y108, hy108⟩ : ∃ y_ : List Int, y_ = ((t104.take ((wrap64 ((ji7) + 1)) : Int).toNat).drop ((ji7) : Int).toNat) := ⟨_, rfl⟩
     replace H : (some (strOfNums y108, true)) = some (r1, r2) := by first | (rw [hy108]; with_reducible exact H) | (have H2_ := (Option.bind_some _ _).symm.trans H; rw [hy108]; with_reducible exact H2_) | (have H2_ := (Option.bind_some _ _).symm.trans H; with_reducible exact H2_) | with_reducible exact H | (rw [hy108]; exact H) | exact H
     have Ny108 := Aside0.mk hy108
     clear hy108
     simp only [Option.some.injEq, Prod.mk.injEq] at H
     obtain ⟨rfl, rfl⟩ := H
     go_enter Tryz.func28, Tryz.ntmps28
     go_wp2_with (first | ((with_reducible refine gate_callee (f := 93) rfl ?_); refine goesL_ (some 12) rfl rfl Tryz.func93 (by kernel_rfl) rfl #[.string a0, .int .i64 a1, .int .i64 a2] rfl aq1 ?_; (with_reducible refine (impl_isPlace.calls k a0 a1 a2 true _ A4.out).mono ?_); rintro e w11 ⟨rfl, hb⟩; refine ⟨_, rfl, ?_⟩; have n0_ := Aside0.mk (below_step aq0 hb); clear HB; have HB := n0_; clear n0_; (try clear hb); (try clear hb2); (try clear hk); (try clear hi)) | ((with_reducible refine gate_callee (f := 70) rfl ?_); refine goesL_ (some 15) rfl rfl Tryz.func70 (by kernel_rfl) rfl #[.string a0] rfl aq1 ?_; (with_reducible refine (impl_read.calls a0 t102 t103 t104 _ A6.out).mono ?_); rintro e w12 ⟨v105, rfl, ho0, hb⟩; refine ⟨_, rfl, ?_⟩; have n0_ := Aside0.mk (Kd.V_lower (Kd.V_mono (ok' := fun k_ => True) ho0 (fun k_ hk_ => trivial)) (below_size aq0)); have n1_ := Aside0.mk (below_step aq0 hb); clear HB; have HO106 := n0_; have HB := n1_; clear n0_ n1_; (try clear hb); (try clear hb2); (try clear hk); (try clear hi); (try clear ho0)) | ((with_reducible refine gate_dst (N := 8) rfl ?_); refine box_event ?hg (N := 8) ?hd (cs := #[.int .i64 0, .int .i64 0, .slice none 0 0]) (t := 62) ?hr ?_; (case hd => rfl); (case hg => rfl); (case hr => exact aq23); intro gb107 hg w13 hbox hb; have n0_ := Aside0.mk (Kd.V_below (Kd.V_elderB aq33 gb107 (Nat.le_of_eq hg.symm)) hb); have n1_ := Aside0.mk (below_step aq0 hb); have n2_ := Aside0.mk (hbox); have n3_ := Aside0.mk ((by rw [hg]; exact (below_size aq0) : w.heap.size ≤ gb107)); have n4_ := Aside0.mk ((by rw [hg]; exact (below_size aq0) : w.heap.size ≤ gb107)); clear HO106; clear HB; have HO106 := n0_; have HB := n1_; have BK107 := n2_; have GW107 := n3_; have GE107 := n4_; clear n0_ n1_ n2_ n3_ n4_; clear hb hbox hg; have hcz14_0 : w13.cell? ⟨gb107, 0, none⟩ = some (.int .i64 0) := (blk_cell BK107.out 0).trans rfl; have hcz14_1 : w13.cell? ⟨gb107, 1, none⟩ = some (.int .i64 0) := (blk_cell BK107.out 1).trans rfl; have hcz14_2 : w13.cell? ⟨gb107, 2, none⟩ = some (.slice none 0 0) := (blk_cell BK107.out 2).trans rfl; have hfz14_0 := blk_frozen BK107.out 0; have hfz14_1 := blk_frozen BK107.out 1; have hfz14_2 := blk_frozen BK107.out 2; obtain ⟨Ao15, co15, eo15⟩ := Kd.V_slice HO106.out; subst eo15) | ((with_reducible refine gate_store (t := 62) (p := 8) rfl ?_); refine store_event (t := 62) (p := 8) (v := ?vo_w16) (w1 := (((w13.setCell ⟨gb107, 0, none⟩ (.int .i64 t102)).setCell ⟨gb107, 1, none⟩ (.int .i64 t103)).setCell ⟨gb107, 2, none⟩ (.slice Ao15 t104.length co15))) ?hg ?ho ?hn ?hr ?_; (case ho => rfl); (case hg => rfl); (case hn => rfl); (case hr => exact aq23); intro w16 hw; have n0_ : Aside0 (Kd.V (Kd.int .u8) 5 w16 w.heap.size (fun k_ => k_ ≠ gb107) (.slice Ao15 t104.length co15) t104) := ⟨(by rw [hw]; exact (by (with_reducible repeat (first | apply Kd.V_alloc | apply Kd.V_drewN | apply Kd.V_drew)); exact Kd.V_mono (Kd.V_far (p := ⟨gb107, 2, none⟩) (Kd.V_far (p := ⟨gb107, 1, none⟩) (Kd.V_far (p := ⟨gb107, 0, none⟩) (Kd.V_mono HO106.out (fun k_ hk => (⟨hk, hk.2⟩ : _ ∧ k_ ≠ gb107))) (fun _ hk => hk.2) (.int .i64 t102)) (fun _ hk => hk.2) (.int .i64 t103)) (fun _ hk => hk.2) (.slice Ao15 t104.length co15)) (fun _ hk => hk.1.2)))⟩; have n1_ : Aside0 (w16.heap[gb107]? = some (.cells #[.int .i64 t102, .int .i64 t103, .slice Ao15 t104.length co15] 62 (0, 0))) := ⟨(by rw [hw]; exact (by (with_reducible repeat (first | refine blk_drewN ?_ _ | refine blk_drew ?_ | refine blk_alloc ?_ _)); refine blk_put (cs := #[.int .i64 t102, .int .i64 t103, .slice none 0 0]) ?_ 2 _ rfl; (with_reducible repeat (first | refine blk_drewN ?_ _ | refine blk_drew ?_ | refine blk_alloc ?_ _)); refine blk_put (cs := #[.int .i64 t102, .int .i64 0, .slice none 0 0]) ?_ 1 _ rfl; (with_reducible repeat (first | refine blk_drewN ?_ _ | refine blk_drew ?_ | refine blk_alloc ?_ _)); refine blk_put (cs := #[.int .i64 0, .int .i64 0, .slice none 0 0]) ?_ 0 _ rfl; (with_reducible repeat (first | refine blk_drewN ?_ _ | refine blk_drew ?_ | refine blk_alloc ?_ _)); exact BK107.out))⟩; have n2_ : Aside0 (Below w.heap.size w w16) := ⟨(by rw [hw]; exact aq10)⟩; clear hw; clear HO106; clear BK107; clear HB; have HO106 := n0_; have BK107 := n1_; have HB := n2_; clear n0_ n1_ n2_; have hcz17_0 : w16.cell? ⟨gb107, 0, none⟩ = some (.int .i64 t102) := (blk_cell BK107.out 0).trans rfl; have hcz17_1 : w16.cell? ⟨gb107, 1, none⟩ = some (.int .i64 t103) := (blk_cell BK107.out 1).trans rfl; have hcz17_2 : w16.cell? ⟨gb107, 2, none⟩ = some (.slice Ao15 t104.length co15) := (blk_cell BK107.out 2).trans rfl; have hfz17_0 := blk_frozen BK107.out 0; have hfz17_1 := blk_frozen BK107.out 1; have hfz17_2 := blk_frozen BK107.out 2; have q18 : ((wrap64 ((ji7) + 1)) : Int) ≤ ((t104.length : Int) : Int) := of_decide_eq_true aq9; obtain ⟨i018, hi018, _, hsz18, _⟩ := info_parts info5; have hroom18 : t104.length ≤ co15 := (Kd.V_reads' HO106.out).2.1; have hC18 : Kd.F (Kd.int .u8) _ _ Ao15 t104.length t104 := (Kd.V_at (base := w.heap.size) HO106.out).2.2; have ql18 : ((ji7) : Int) ≤ ((wrap64 ((ji7) + 1)) : Int) := of_decide_eq_true aq9; have q018 : (0 : Int) ≤ ((ji7) : Int) := of_decide_eq_true aq9; have hcut18 := cut_mid (P := Tryz.prog) 22 5 .i64 .i64 Tryz.underlying22 hi018 1 hsz18 Ao15 t104.length co15 (ji7) (wrap64 ((ji7) + 1)) q018 ql18 q18 hroom18; have hr18 := Kd.F_mid (lo := ((ji7) : Int).toNat) (hi := ((wrap64 ((ji7) + 1)) : Int).toNat) (c := co15) hC18 (by omega) (by omega) hroom18; obtain ⟨A18, hA18⟩ : ∃ A1, A1 = (if co15 = ((ji7) : Int).toNat then Ao15 else (Ao15 : Option Addr).map (·.add (((ji7) : Int).toNat * 1))) := ⟨_, rfl⟩; obtain ⟨c18, hc18⟩ : ∃ c1, c1 = co15 - ((ji7) : Int).toNat := ⟨_, rfl⟩; have hy18 : y108.length = ((wrap64 ((ji7) + 1)) : Int).toNat - ((ji7) : Int).toNat := (by rw [Ny108.out, List.length_drop, List.length_take] <;> omega); rw [show ((t104).take ((wrap64 ((ji7) + 1)) : Int).toNat).drop ((ji7) : Int).toNat = y108 from Ny108.out.symm] at hr18; replace hr18 : Kd.F (Kd.int .u8) _ _ A18 y108.length y108 := (by rw [hA18]; exact hr18); rw [← hy18, ← hA18, ← hc18] at hcut18; have HO112 := Aside0.mk (show Kd.V (Kd.int .u8) 5 _ w.heap.size _ (.slice A18 y108.length c18) y108 from Kd.V_mk (by rw [hy18, hc18]; exact Nat.sub_le_sub_right (Nat.le_trans (by omega) hroom18) _) hr18); have HC112 := Aside0.mk (show y108.length ≤ c18 from by rw [hy18, hc18]; exact Nat.sub_le_sub_right (Nat.le_trans (by omega) hroom18) _); clear hr18 hC18 hroom18 hi018 hsz18 hc18; have KY18 := Aside0.mk hy18; have KA18 := Aside0.mk hA18; clear hy18 hA18; replace q18 := eq_true q18; (first | have hcv19 := own_string (P := Tryz.prog) Tryz.underlying22 Tryz.underlying5 Tryz.underlying9 (Kd.own_of_R HO112.out) | have hcv19 := (show ∀ {A : Option Addr} {n c : Nat} {xs : List Int} {ok : Nat → Prop} {W : World} {b : Nat}, Kd.V (Kd.int .u8) 5 W b ok (.slice A n c) xs → (convert 22 9 (.slice A n c)).run Tryz.prog W = .ok (.string (strOfNums xs)) W from fun h => by obtain ⟨rfl, _, hC⟩ := Kd.V_reads' h; exact Kd.C_string Tryz.underlying22 Tryz.underlying5 Tryz.underlying9 hC) HO112.out)))
     go_ret2
     exact ⟨by first | rfl | (simp [errW_none, errW_some] <;> rfl) | (simp only [← hji7]; first | rfl | (simp [errW_none, errW_some] <;> rfl)) | (simp [*, errW_none, errW_some] <;> rfl), aq10⟩
    ·rw [if_neg c10] at H
     exact absurd H (by simp)
   ·rw [if_neg c9] at H
    exact absurd H (by simp)
  ·rw [if_neg c8] at H
   exact absurd H (by simp)
 ·replace c5 := Bool.eq_false_iff.mpr c5
  subst c5
  have H1 : (some ((⟨#[]⟩ : ByteArray), false)) = some (r1, r2) := by rw [if_neg (show ¬ (false = true) by decide)] at H; exact H
  clear H
  have H := H1
  clear H1
  simp only [Option.some.injEq, Prod.mk.injEq] at H
  obtain ⟨rfl, rfl⟩ := H
  go_enter Tryz.func28, Tryz.ntmps28
  go_wp2_with (first | ((with_reducible refine gate_callee (f := 93) rfl ?_); refine goesL_ (some 12) rfl rfl Tryz.func93 (by kernel_rfl) rfl #[.string a0, .int .i64 a1, .int .i64 a2] rfl aq1 ?_; (with_reducible refine (impl_isPlace.calls k a0 a1 a2 false _ A4.out).mono ?_); rintro e w20 ⟨rfl, hb⟩; refine ⟨_, rfl, ?_⟩; have n0_ := Aside0.mk (below_step aq0 hb); clear HB; have HB := n0_; clear n0_; (try clear hb); (try clear hb2); (try clear hk); (try clear hi)))
  go_ret2
  exact ⟨aq8, aq0⟩
end Go.Proofs.YtipjmlcbbimfpaaGreatDoor.F

namespace Go.Proofs.YtipjmlcbbimfpaaGreatDoor.F
open Go.RowKit Go.Proofs.YtipjmlcbbimfpaaGreatDoor Go.Proofs.YtipjmlcbbimfpaaGreatDoorW.PrintWords
set_option linter.unusedVariables false
set_option linter.unusedSimpArgs false
def toI (g : (Nat × Nat × List Int)) : Int × Int × List Int := ((g.1 : Int), (g.2.1 : Int), g.2.2)
theorem turnN_ev : ∀ (n : Nat) {g : (Nat × Nat × List Int)}, Vg g → Ev (fun k => turnN k n g.1 g.2.1 g.2.2) (toI (turns n g))
  | 0, g, v => Ev.now _
  | n + 1, g, v => by
    have h1 := impl_turn_ev (w := g.1) (h := g.2.1) (cs := g.2.2) v.len ⟨v.w1, by have := v.w7; omega⟩ (by have := v.h7; omega)
    exact Ev.bind h1 (turnN_ev n v.T)
theorem moved_ev {g : (Nat × Nat × List Int)} (v : Vg g) {m : Nat} (hm : m < 8) : Ev (fun k => impl_tray_moved.f k g.1 g.2.1 g.2.2 m) (toI (mv m g)) := by
  have hlen : 0 < g.2.2.length := by rw [show g.2.2.length = g.1 * g.2.1 from v.len]; exact Nat.mul_pos v.w1 v.h1
  by_cases h4 : 4 ≤ m
  · have h1 := impl_mirror_eq (w := g.1) (h := g.2.1) (cs := g.2.2) v.len ⟨v.w1, by have := v.w7; omega⟩ ⟨v.h1, by have := v.h7; omega⟩
    have h2 := turnN_ev (m % 4) v.M
    rw [show turns (m % 4) (Mg g) = mv m g by unfold mv; rw [if_pos h4]] at h2
    refine Ev.congr (fun k => ?_) h2
    unfold impl_tray_moved.f
    rw [if_pos ⟨by omega, by omega, hlen⟩, if_pos (by omega), h1, Option.bind_some, Int.toNat_natCast]
    rfl
  · have h2 := turnN_ev (m % 4) v
    rw [show turns (m % 4) g = mv m g by unfold mv; rw [if_neg h4]] at h2
    refine Ev.congr (fun k => ?_) h2
    unfold impl_tray_moved.f
    rw [if_pos ⟨by omega, by omega, hlen⟩, if_neg (by omega), Int.toNat_natCast]
def texts (g : (Nat × Nat × List Int)) (n : Nat) : List ByteArray := (List.range n).map fun m => textB (mv m g)
theorem eightN_ev {g : (Nat × Nat × List Int)} (v : Vg g) : ∀ n, n ≤ 8 → Ev (fun k => eightN k g.1 g.2.1 g.2.2 n) (texts g n)
  | 0, _ => Ev.now _
  | n + 1, hn => by
    have ih := eightN_ev v n (by omega)
    refine Ev.bind ih (Ev.bind (moved_ev v (by omega)) ?_)
    refine Ev.congr (fun k => ?_) (Ev.now _)
    show (impl_tray_text.f (mv n g).1 (mv n g).2.1 (mv n g).2.2).bind _ = _
    rw [impl_text_eq (v.mv n), Option.bind_some, texts, texts, map_snoc]
theorem impl_eight_ev {g : (Nat × Nat × List Int)} (v : Vg g) : Ev (fun k => impl_tray_eight.f k g.1 g.2.1 g.2.2) (texts g 8) := eightN_ev v 8 (Nat.le_refl _)
def qG (g : (Nat × Nat × List Int)) : Nat → (Nat × Nat × List Int)
  | 0 => g
  | i + 1 => if i = 3 then Mg (Tg (qG g i)) else Tg (qG g i)
theorem qG_v {g : (Nat × Nat × List Int)} (v : Vg g) : ∀ i, Vg (qG g i)
  | 0 => v
  | i + 1 => by
    have ih := qG_v v i
    unfold qG
    split
    · exact ih.T.M
    · exact ih.T
theorem qG_mv {g : (Nat × Nat × List Int)} (hg : Lg g) {i : Nat} (hi : i < 8) : qG g i = mv i g := by
  have t4 := TTTT hg
  have hi' : i = 0 ∨ i = 1 ∨ i = 2 ∨ i = 3 ∨ i = 4 ∨ i = 5 ∨ i = 6 ∨ i = 7 := by omega
  rcases hi' with rfl | rfl | rfl | rfl | rfl | rfl | rfl | rfl <;> simp [qG, mv, turns, t4]
def toS (g : (Nat × Nat × List Int)) : S66 := ⟨(g.1 : Int), (g.2.1 : Int), g.2.2⟩
theorem eight_l0 {g : (Nat × Nat × List Int)} (v : Vg g) : ∀ (d i : Nat), i + d = 8 → Ev (fun k => spec_tyEight.l0 k ((List.range i).map fun j => toS (qG g j)) i (qG g i).1 (qG g i).2.1 (qG g i).2.2) ((List.range 8).map fun j => toS (qG g j))
  | 0, i, hi => by
    obtain rfl : i = 8 := by omega
    refine Ev.step (f := fun _ => some _) (fun k => ?_) (Ev.now _)
    rw [spec_tyEight.l0, if_neg (by omega)]
  | d + 1, i, hi => by
    have ih := eight_l0 v d (i + 1) (by omega)
    have vi := qG_v v i
    have h1 := spec_turn_ev (w := (qG g i).1) (h := (qG g i).2.1) (cs := (qG g i).2.2) vi.len (by have := vi.w7; omega) (by have := vi.h7; omega)
    have h2 := spec_mirror_ev (w := (Tg (qG g i)).1) (h := (Tg (qG g i)).2.1) (cs := (Tg (qG g i)).2.2) vi.T.len (by have := vi.T.w7; omega) (by have := vi.T.h7; omega)
    rw [map_snoc] at ih
    refine Ev.step (f := fun k => (spec_tyTurn.f k (qG g i).1 (qG g i).2.1 (qG g i).2.2).bind fun bt105 => (if (i : Int) = 3 then ((spec_tyMirror.f k bt105.1 bt105.2.1 bt105.2.2).bind fun bt110 => (spec_tyEight.l0 k ((List.range i).map (fun j => toS (qG g j)) ++ [toS (qG g i)]) ((i + 1 : Nat) : Int) bt110.1 bt110.2.1 bt110.2.2)) else (spec_tyEight.l0 k ((List.range i).map (fun j => toS (qG g j)) ++ [toS (qG g i)]) ((i + 1 : Nat) : Int) bt105.1 bt105.2.1 bt105.2.2))) (fun k => ?_) ?_
    · rw [spec_tyEight.l0, if_pos (by omega), if_pos (by rw [List.length_map, List.length_range]; omega), Option.bind_some, show (i : Int) + 1 = ((i + 1 : Nat) : Int) by omega, w64t (by omega)]
      rfl
    · refine Ev.bind h1 ?_
      by_cases h3 : i = 3
      · subst h3
        refine Ev.congr (fun k => if_pos (by omega)) ?_
        refine Ev.bind h2 ?_
        exact ih
      · refine Ev.congr (fun k => if_neg (by omega)) ?_
        have e : qG g (i + 1) = Tg (qG g i) := by rw [qG, if_neg h3]
        rw [e] at ih
        exact ih
theorem spec_eight_ev {g : (Nat × Nat × List Int)} (v : Vg g) : Ev (fun k => spec_tyEight.f k g.1 g.2.1 g.2.2) ((List.range 8).map fun j => toS (mv j g)) := by
  have h1 := eight_l0 v 8 0 (by omega)
  have e : ((List.range 8).map fun j => toS (qG g j)) = (List.range 8).map fun j => toS (mv j g) := by
    apply List.map_congr_left
    intro j hj
    rw [qG_mv v.len (List.mem_range.1 hj)]
  rw [e] at h1
  exact Ev.congr (fun k => by rfl) h1
end Go.Proofs.YtipjmlcbbimfpaaGreatDoor.F

namespace Go.Proofs.YtipjmlcbbimfpaaGreatDoor.F
open Go.RowKit Go.Proofs.YtipjmlcbbimfpaaGreatDoor Go.Proofs.YtipjmlcbbimfpaaGreatDoorW.PrintWords
set_option linter.unusedVariables false
set_option linter.unusedSimpArgs false
def lessB (a b : ByteArray) : Prop := a.data.toList < b.data.toList
theorem minS_eq (x y : ByteArray) : Lib.minS x y = if Op.bytesLess y.toList x.toList = true then y else x := by
  have hb : Op.bytesLess y.toList x.toList = true ↔ y.data.toList < x.data.toList := by
    rw [Proofs.bytesLess_eq, Lib.toList_data, Lib.toList_data]; exact decide_eq_true_iff
  unfold Lib.minS
  by_cases h1 : y.data.toList < x.data.toList
  · rw [if_pos (hb.2 h1), if_neg]
    rintro (h2 | h2)
    · exact absurd h2 (List.lt_asymm h1)
    · rw [h2] at h1; exact absurd h1 (List.lt_irrefl _)
  · rw [if_neg (fun h => h1 (hb.1 h))]
    by_cases h2 : x.data.toList < y.data.toList
    · rw [if_pos (.inl h2)]
    · have : x.data.toList = y.data.toList := List.le_antisymm (List.not_lt.1 h1) (List.not_lt.1 h2)
      rw [if_pos (.inr this)]
def leastG (g : (Nat × Nat × List Int)) : ByteArray := Lib.minOfS (texts g 8)
theorem texts_get {g : (Nat × Nat × List Int)} {i : Nat} (hi : i < 8) : (texts g 8)[i]? = some (textB (mv i g)) := by
  unfold texts
  rw [List.getElem?_map, List.getElem?_range hi]; rfl
theorem texts_head (g : (Nat × Nat × List Int)) : (texts g 8).headD ByteArray.empty = textB g := rfl
theorem least_l0 {g : (Nat × Nat × List Int)} (v : Vg g) : ∀ (d i : Nat) (cur : ByteArray), i + d = 8 →
    Ev (fun k => spec_tyLeast.l0 k cur ((List.range 8).map fun j => toS (mv j g)) 8 i) (((texts g 8).drop i).foldl Lib.minS cur)
  | 0, i, cur, hi => by
    obtain rfl : i = 8 := by omega
    refine Ev.step (f := fun _ => some cur) (fun k => ?_) (Ev.now _)
    rw [spec_tyLeast.l0, if_neg (by omega)]
  | d + 1, i, cur, hi => by
    have hlt : i < 8 := by omega
    have ih := least_l0 v d (i + 1) (Lib.minS cur (textB (mv i g))) (by omega)
    have vm := v.mv i
    have h1 := spec_text_ev (w := (mv i g).1) (h := (mv i g).2.1) (cs := (mv i g).2.2) (by have := vm.w7; omega) (by have := vm.h7; omega) vm.len
    have hdrop : (texts g 8).drop i = textB (mv i g) :: (texts g 8).drop (i + 1) := by
      have hl : i < (texts g 8).length := by simp [texts]; exact hlt
      rw [List.drop_eq_getElem_cons hl]
      congr 1
      have := texts_get (g := g) hlt
      rw [List.getElem?_eq_getElem hl] at this
      exact Option.some.inj this
    rw [hdrop, List.foldl_cons]
    have hrd : rd_T66 ((List.range 8).map fun j => toS (mv j g)) (i : Int) = toS (mv i g) := by
      unfold rd_T66
      rw [Int.toNat_natCast, List.getD_eq_getElem?_getD, List.getElem?_map, List.getElem?_range hlt]; rfl
    refine Ev.step (f := fun k => (spec_tyText.f k (mv i g).1 (mv i g).2.1 (mv i g).2.2).bind fun t108 => (if (Op.bytesLess t108.toList cur.toList) = true then (spec_tyLeast.l0 k t108 ((List.range 8).map fun j => toS (mv j g)) 8 ((i + 1 : Nat) : Int)) else (spec_tyLeast.l0 k cur ((List.range 8).map fun j => toS (mv j g)) 8 ((i + 1 : Nat) : Int)))) (fun k => ?_) ?_
    · rw [spec_tyLeast.l0, if_pos (by omega), if_pos (by omega), if_pos (by simp; omega), hrd, show (i : Int) + 1 = ((i + 1 : Nat) : Int) by omega, w64t (by omega)]
      rfl
    · refine Ev.bind h1 ?_
      rw [minS_eq] at ih ⊢
      show Ev (fun k => if (Op.bytesLess (textB (mv i g)).toList cur.toList) = true then _ else _) _
      by_cases hb : Op.bytesLess (textB (mv i g)).toList cur.toList = true
      · simp only [if_pos hb] at ih ⊢; exact ih
      · simp only [if_neg hb] at ih ⊢; exact ih
theorem spec_least_ev {g : (Nat × Nat × List Int)} (v : Vg g) : Ev (fun k => spec_tyLeast.f k g.1 g.2.1 g.2.2) (leastG g) := by
  have h1 := spec_text_ev (w := g.1) (h := g.2.1) (cs := g.2.2) (by have := v.w7; omega) (by have := v.h7; omega) v.len
  refine Ev.bind h1 (Ev.bind (spec_eight_ev v) ?_)
  have h2 := least_l0 v 8 0 (textB g) (by omega)
  rw [List.drop_zero] at h2
  refine Ev.congr (fun k => ?_) h2
  rw [List.length_map, List.length_range]
  rfl
theorem min_texts (g : (Nat × Nat × List Int)) : slices_Min.f (texts g 8) = some (leastG g) := by
  have hl : (texts g 8).length = 8 := by simp [texts]
  unfold slices_Min.f leastG
  rw [if_pos (by omega)]
def leastAns (s : ByteArray) : ByteArray × Bool := match tyGrid (bytesOf s) with | none => ((⟨#[]⟩ : ByteArray), false) | some g => (leastG g, true)
theorem spec_leastTray_ev (s : ByteArray) : Ev (fun k => spec_LeastTray.f k s) (leastAns s) := by
  have h1 := spec_tyRead_ev s
  unfold leastAns
  cases hg : tyGrid (bytesOf s) with
  | none =>
    rw [hg] at h1
    exact Ev.bind h1 (Ev.congr (fun k => if_neg Bool.false_ne_true) (Ev.now _))
  | some g =>
    rw [hg] at h1
    obtain ⟨v, _⟩ := textB_grid hg
    exact Ev.bind h1 (Ev.congr (fun k => if_pos rfl) (Ev.bind (spec_least_ev v) (Ev.now _)))
theorem impl_leastTray_ev (s : ByteArray) (hs : s.size < 4294967281) : Ev (fun k => impl_LeastTray.f k s) (leastAns s) := by
  have h1 := impl_IsTray_ev s hs
  unfold leastAns
  cases hg : tyGrid (bytesOf s) with
  | none =>
    rw [hg] at h1
    exact Ev.bind h1 (Ev.congr (fun k => if_neg (by simp)) (Ev.now _))
  | some g =>
    rw [hg] at h1
    obtain ⟨v, _⟩ := textB_grid hg
    obtain ⟨w, h, cs⟩ := g
    refine Ev.bind h1 (Ev.congr (fun k => if_pos rfl) ?_)
    have h2 := impl_eight_ev v
    dsimp only at h2
    refine Ev.congr (f := fun k => (impl_tray_eight.f k (w : Int) (h : Int) cs).bind fun t107 => (slices_Min.f t107).bind fun t110 => some (t110, true)) (fun k => by rw [impl_read_eq s hg, Option.bind_some]) ?_
    refine Ev.bind h2 ?_
    refine Ev.congr (fun k => ?_) (Ev.now _)
    have h9 : slices_Min.f (texts (w, h, cs) 8) = some (leastG (w, h, cs)) := min_texts _
    rw [h9, Option.bind_some]
def mapAns (f : (Nat × Nat × List Int) → (Nat × Nat × List Int)) (s : ByteArray) : ByteArray × Bool := match tyGrid (bytesOf s) with | none => ((⟨#[]⟩ : ByteArray), false) | some g => (textB (f g), true)
theorem spec_turnTray_ev (s : ByteArray) : Ev (fun k => spec_TurnTray.f k s) (mapAns Tg s) := by
  have h1 := spec_tyRead_ev s
  unfold mapAns
  cases hg : tyGrid (bytesOf s) with
  | none =>
    rw [hg] at h1
    exact Ev.bind h1 (Ev.congr (fun k => if_neg Bool.false_ne_true) (Ev.now _))
  | some g =>
    rw [hg] at h1
    obtain ⟨v, _⟩ := textB_grid hg
    have h2 := spec_turn_ev (w := g.1) (h := g.2.1) (cs := g.2.2) v.len (by have := v.w7; omega) (by have := v.h7; omega)
    have h3 := spec_text_ev (w := (Tg g).1) (h := (Tg g).2.1) (cs := (Tg g).2.2) (by have := v.T.w7; omega) (by have := v.T.h7; omega) v.T.len
    exact Ev.bind h1 (Ev.congr (fun k => if_pos rfl) (Ev.bind h2 (Ev.bind h3 (Ev.now _))))
theorem spec_mirrorTray_ev (s : ByteArray) : Ev (fun k => spec_MirrorTray.f k s) (mapAns Mg s) := by
  have h1 := spec_tyRead_ev s
  unfold mapAns
  cases hg : tyGrid (bytesOf s) with
  | none =>
    rw [hg] at h1
    exact Ev.bind h1 (Ev.congr (fun k => if_neg Bool.false_ne_true) (Ev.now _))
  | some g =>
    rw [hg] at h1
    obtain ⟨v, _⟩ := textB_grid hg
    have h2 := spec_mirror_ev (w := g.1) (h := g.2.1) (cs := g.2.2) v.len (by have := v.w7; omega) (by have := v.h7; omega)
    have h3 := spec_text_ev (w := (Mg g).1) (h := (Mg g).2.1) (cs := (Mg g).2.2) (by have := v.M.w7; omega) (by have := v.M.h7; omega) v.M.len
    exact Ev.bind h1 (Ev.congr (fun k => if_pos rfl) (Ev.bind h2 (Ev.bind h3 (Ev.now _))))
theorem spec_transTray_ev (s : ByteArray) : Ev (fun k => spec_TransposeTray.f k s) (mapAns (fun g => Mg (Tg g)) s) := by
  have h1 := spec_tyRead_ev s
  unfold mapAns
  cases hg : tyGrid (bytesOf s) with
  | none =>
    rw [hg] at h1
    exact Ev.bind h1 (Ev.congr (fun k => if_neg Bool.false_ne_true) (Ev.now _))
  | some g =>
    rw [hg] at h1
    obtain ⟨v, _⟩ := textB_grid hg
    have h2 := spec_turn_ev (w := g.1) (h := g.2.1) (cs := g.2.2) v.len (by have := v.w7; omega) (by have := v.h7; omega)
    have h4 := spec_mirror_ev (w := (Tg g).1) (h := (Tg g).2.1) (cs := (Tg g).2.2) v.T.len (by have := v.T.w7; omega) (by have := v.T.h7; omega)
    have h3 := spec_text_ev (w := (Mg (Tg g)).1) (h := (Mg (Tg g)).2.1) (cs := (Mg (Tg g)).2.2) (by have := v.T.M.w7; omega) (by have := v.T.M.h7; omega) v.T.M.len
    exact Ev.bind h1 (Ev.congr (fun k => if_pos rfl) (Ev.bind h2 (Ev.bind h4 (Ev.bind h3 (Ev.now _)))))
theorem impl_turnTray_ev (s : ByteArray) (hs : s.size < 4294967281) : Ev (fun k => impl_TurnTray.f k s) (mapAns Tg s) := by
  have h1 := impl_IsTray_ev s hs
  unfold mapAns
  cases hg : tyGrid (bytesOf s) with
  | none =>
    rw [hg] at h1
    exact Ev.bind (a := ((⟨#[]⟩ : ByteArray), false)) (Ev.bind h1 (Ev.congr (fun k => if_neg (by simp)) (Ev.now _))) (Ev.now _)
  | some g =>
    rw [hg] at h1
    obtain ⟨v, _⟩ := textB_grid hg
    obtain ⟨w, h, cs⟩ := g
    have h2 := impl_turn_ev (w := w) (h := h) (cs := cs) v.len ⟨v.w1, by have := v.w7; simp only at this; omega⟩ (by have := v.h7; simp only at this; omega)
    refine Ev.bind (a := (textB (Tg (w, h, cs)), true)) (Ev.bind h1 (Ev.congr (fun k => if_pos rfl) ?_)) (Ev.now _)
    refine Ev.congr (fun k => by rw [impl_read_eq s hg, Option.bind_some]) ?_
    refine Ev.bind h2 ?_
    refine Ev.congr (fun k => ?_) (Ev.now _)
    show (impl_tray_text.f (Tg (w, h, cs)).1 (Tg (w, h, cs)).2.1 (Tg (w, h, cs)).2.2).bind _ = _
    rw [impl_text_eq v.T, Option.bind_some]
theorem impl_mirrorTray_ev (s : ByteArray) (hs : s.size < 4294967281) : Ev (fun k => impl_MirrorTray.f k s) (mapAns Mg s) := by
  have h1 := impl_IsTray_ev s hs
  unfold mapAns
  cases hg : tyGrid (bytesOf s) with
  | none =>
    rw [hg] at h1
    exact Ev.bind (a := ((⟨#[]⟩ : ByteArray), false)) (Ev.bind h1 (Ev.congr (fun k => if_neg (by simp)) (Ev.now _))) (Ev.now _)
  | some g =>
    rw [hg] at h1
    obtain ⟨v, _⟩ := textB_grid hg
    obtain ⟨w, h, cs⟩ := g
    have h2 := impl_mirror_eq (w := w) (h := h) (cs := cs) v.len ⟨v.w1, by have := v.w7; simp only at this; omega⟩ ⟨v.h1, by have := v.h7; simp only at this; omega⟩
    refine Ev.bind (a := (textB (Mg (w, h, cs)), true)) (Ev.bind h1 (Ev.congr (fun k => if_pos rfl) ?_)) (Ev.now _)
    refine Ev.congr (fun k => ?_) (Ev.now _)
    rw [impl_read_eq s hg, Option.bind_some]
    show (impl_tray_mirrored.f w h cs).bind _ = _
    rw [h2, Option.bind_some]
    show (impl_tray_text.f (Mg (w, h, cs)).1 (Mg (w, h, cs)).2.1 (Mg (w, h, cs)).2.2).bind _ = _
    rw [impl_text_eq v.M, Option.bind_some]
theorem impl_transTray_ev (s : ByteArray) (hs : s.size < 4294967281) : Ev (fun k => impl_TransposeTray.f k s) (mapAns (fun g => Mg (Tg g)) s) := by
  have h1 := impl_IsTray_ev s hs
  unfold mapAns
  cases hg : tyGrid (bytesOf s) with
  | none =>
    rw [hg] at h1
    exact Ev.bind (a := ((⟨#[]⟩ : ByteArray), false)) (Ev.bind h1 (Ev.congr (fun k => if_neg (by simp)) (Ev.now _))) (Ev.now _)
  | some g =>
    rw [hg] at h1
    obtain ⟨v, _⟩ := textB_grid hg
    obtain ⟨w, h, cs⟩ := g
    have h2 := impl_turn_ev (w := w) (h := h) (cs := cs) v.len ⟨v.w1, by have := v.w7; simp only at this; omega⟩ (by have := v.h7; simp only at this; omega)
    have h3 := impl_mirror_eq (w := (Tg (w, h, cs)).1) (h := (Tg (w, h, cs)).2.1) (cs := (Tg (w, h, cs)).2.2) v.T.len ⟨v.T.w1, by have := v.T.w7; omega⟩ ⟨v.T.h1, by have := v.T.h7; omega⟩
    refine Ev.bind (a := (textB (Mg (Tg (w, h, cs))), true)) (Ev.bind h1 (Ev.congr (fun k => if_pos rfl) ?_)) (Ev.now _)
    refine Ev.congr (fun k => by rw [impl_read_eq s hg, Option.bind_some]) ?_
    have h4 : Ev (fun k => impl_TransposeTray_1.f k w h cs) (toI (Mg (Tg (w, h, cs)))) := by
      refine Ev.bind h2 ?_
      refine Ev.congr (fun k => ?_) (Ev.now _)
      show (impl_tray_mirrored.f (Tg (w, h, cs)).1 (Tg (w, h, cs)).2.1 (Tg (w, h, cs)).2.2).bind _ = _
      rw [h3, Option.bind_some]; rfl
    refine Ev.bind h4 ?_
    refine Ev.congr (fun k => ?_) (Ev.now _)
    show (impl_tray_text.f (Mg (Tg (w, h, cs))).1 (Mg (Tg (w, h, cs))).2.1 (Mg (Tg (w, h, cs))).2.2).bind _ = _
    rw [impl_text_eq v.T.M, Option.bind_some]
end Go.Proofs.YtipjmlcbbimfpaaGreatDoor.F

namespace Go.Proofs.YtipjmlcbbimfpaaGreatDoor.F
open Go.RowKit Go.Proofs.YtipjmlcbbimfpaaGreatDoor Go.Proofs.YtipjmlcbbimfpaaGreatDoorW.PrintWords
set_option linter.unusedVariables false
set_option linter.unusedSimpArgs false
theorem toList_iff {a b : ByteArray} : a.toList = b.toList ↔ a = b := by
  rw [Lib.toList_data, Lib.toList_data]
  constructor
  · intro h; exact ByteArray.ext (Array.toList_inj.1 h)
  · intro h; rw [h]
def keeps (g : (Nat × Nat × List Int)) (m : Nat) : Bool := decide (mv m g = g)
def keepN (g : (Nat × Nat × List Int)) : Nat := (List.range 8).countP (keeps g)
theorem text_keeps {g : (Nat × Nat × List Int)} (v : Vg g) (m : Nat) : (textB (mv m g)).toList = (textB g).toList ↔ keeps g m = true := by
  rw [toList_iff, keeps, decide_eq_true_iff]
  exact ⟨fun h => textB_inj (v.mv m) v h, fun h => by rw [h]⟩
theorem range_drop {i : Nat} (hi : i < 8) : (List.range 8).drop i = i :: (List.range 8).drop (i + 1) := by
  rw [List.drop_eq_getElem_cons (by simpa using hi)]
  simp
theorem texts_rd {g : (Nat × Nat × List Int)} {i : Nat} (hi : i < 8) : rdOf ByteArray.empty (texts g 8) (i : Int) = textB (mv i g) := by
  unfold rdOf
  rw [Int.toNat_natCast, List.getD_eq_getElem?_getD, texts_get hi]; rfl
theorem impl_keep_l0 {g : (Nat × Nat × List Int)} (v : Vg g) : ∀ (d i acc : Nat), i + d = 8 → acc ≤ i →
    Ev (fun k => impl_KeepersOf.l0 k (textB g) acc (texts g 8) 8 i) (((acc + ((List.range 8).drop i).countP (keeps g) : Nat) : Int), true)
  | 0, i, acc, hi, ha => by
    obtain rfl : i = 8 := by omega
    refine Ev.step (f := fun _ => some ((acc : Int), true)) (fun k => ?_) (Ev.now _)
    rw [impl_KeepersOf.l0, if_neg (by omega)]
  | d + 1, i, acc, hi, ha => by
    have hlt : i < 8 := by omega
    have hl8 : (texts g 8).length = 8 := by simp [texts]
    have hbeq : ((textB (mv i g)).toList == (textB g).toList) = keeps g i := by
      rw [Bool.eq_iff_iff, beq_iff_eq]; exact text_keeps v i
    rw [range_drop hlt, List.countP_cons]
    cases hk : keeps g i with
    | true =>
      have ih := impl_keep_l0 v d (i + 1) (acc + 1) (by omega) (by omega)
      rw [if_pos rfl, show acc + (((List.range 8).drop (i + 1)).countP (keeps g) + 1) = acc + 1 + ((List.range 8).drop (i + 1)).countP (keeps g) by omega]
      refine Ev.step (fun k => ?_) ih
      rw [impl_KeepersOf.l0, if_pos (by omega), if_pos (by omega), if_pos (by rw [hl8]; omega), texts_rd hlt, hbeq, hk, impl_bit.f, if_pos rfl, Option.bind_some, show (acc : Int) + 1 = ((acc + 1 : Nat) : Int) by omega, w64t (by omega), show (i : Int) + 1 = ((i + 1 : Nat) : Int) by omega, w64t (by omega)]
    | false =>
      have ih := impl_keep_l0 v d (i + 1) acc (by omega) (by omega)
      rw [if_neg Bool.false_ne_true, Nat.add_zero]
      refine Ev.step (fun k => ?_) ih
      rw [impl_KeepersOf.l0, if_pos (by omega), if_pos (by omega), if_pos (by rw [hl8]; omega), texts_rd hlt, hbeq, hk, impl_bit.f, if_neg Bool.false_ne_true, Option.bind_some, Int.add_zero, w64t (by omega), show (i : Int) + 1 = ((i + 1 : Nat) : Int) by omega, w64t (by omega)]
theorem spec_keep_l0 {g : (Nat × Nat × List Int)} (v : Vg g) : ∀ (d i acc : Nat), i + d = 8 → acc ≤ i →
    Ev (fun k => spec_KeepersOf.l0 k (textB g) acc ((List.range 8).map fun j => toS (mv j g)) 8 i) (((acc + ((List.range 8).drop i).countP (keeps g) : Nat) : Int), true)
  | 0, i, acc, hi, ha => by
    obtain rfl : i = 8 := by omega
    refine Ev.step (f := fun _ => some ((acc : Int), true)) (fun k => ?_) (Ev.now _)
    rw [spec_KeepersOf.l0, if_neg (by omega)]
  | d + 1, i, acc, hi, ha => by
    have hlt : i < 8 := by omega
    have vm := v.mv i
    have h1 := spec_text_ev (w := (mv i g).1) (h := (mv i g).2.1) (cs := (mv i g).2.2) (by have := vm.w7; omega) (by have := vm.h7; omega) vm.len
    have hrd : rd_T66 ((List.range 8).map fun j => toS (mv j g)) (i : Int) = toS (mv i g) := by
      unfold rd_T66
      rw [Int.toNat_natCast, List.getD_eq_getElem?_getD, List.getElem?_map, List.getElem?_range hlt]; rfl
    rw [range_drop hlt, List.countP_cons]
    refine Ev.step (f := fun k => (spec_tyText.f k (mv i g).1 (mv i g).2.1 (mv i g).2.2).bind fun t113 => (if t113.toList = (textB g).toList then (spec_KeepersOf.l0 k (textB g) (wrap64 ((acc : Int) + 1)) ((List.range 8).map fun j => toS (mv j g)) 8 ((i + 1 : Nat) : Int)) else (spec_KeepersOf.l0 k (textB g) acc ((List.range 8).map fun j => toS (mv j g)) 8 ((i + 1 : Nat) : Int)))) (fun k => ?_) ?_
    · rw [spec_KeepersOf.l0, if_pos (by omega), if_pos (by omega), if_pos (by rw [List.length_map, List.length_range]; omega), hrd, show (i : Int) + 1 = ((i + 1 : Nat) : Int) by omega, w64t (by omega)]
      rfl
    · refine Ev.bind h1 ?_
      cases hk : keeps g i with
      | true =>
        have ih := spec_keep_l0 v d (i + 1) (acc + 1) (by omega) (by omega)
        rw [if_pos rfl, show acc + (((List.range 8).drop (i + 1)).countP (keeps g) + 1) = acc + 1 + ((List.range 8).drop (i + 1)).countP (keeps g) by omega]
        refine Ev.congr (fun k => if_pos ((text_keeps v i).2 hk)) ?_
        rw [show (acc : Int) + 1 = ((acc + 1 : Nat) : Int) by omega, w64t (by omega)]
        exact ih
      | false =>
        have ih := spec_keep_l0 v d (i + 1) acc (by omega) (by omega)
        rw [if_neg Bool.false_ne_true, Nat.add_zero]
        refine Ev.congr (fun k => if_neg (fun h => ?_)) ih
        rw [(text_keeps v i).1 h] at hk; cases hk
def keepAns (s : ByteArray) : Int × Bool := match tyGrid (bytesOf s) with | none => (0, false) | some g => ((keepN g : Int), true)
theorem impl_keepers_ev (s : ByteArray) (hs : s.size < 4294967281) : Ev (fun k => impl_KeepersOf.f k s) (keepAns s) := by
  have h1 := impl_IsTray_ev s hs
  unfold keepAns
  cases hg : tyGrid (bytesOf s) with
  | none =>
    rw [hg] at h1
    exact Ev.bind h1 (Ev.congr (fun k => if_neg (by simp)) (Ev.now _))
  | some g =>
    rw [hg] at h1
    obtain ⟨v, es⟩ := textB_grid hg
    obtain ⟨w, h, cs⟩ := g
    refine Ev.bind h1 (Ev.congr (fun k => if_pos rfl) ?_)
    have h2 := impl_eight_ev v
    dsimp only at h2
    have h3 := impl_keep_l0 v 8 0 0 (by omega) (by omega)
    rw [es, Nat.zero_add, List.drop_zero] at h3
    have hl8 : (texts (w, h, cs) 8).length = 8 := by simp [texts]
    refine Ev.congr (f := fun k => (impl_tray_eight.f k (w : Int) (h : Int) cs).bind fun t107 => (impl_KeepersOf.l0 k s 0 t107 (t107.length : Int) 0)) (fun k => by rw [impl_read_eq s hg, Option.bind_some]) ?_
    refine Ev.bind h2 ?_
    refine Ev.congr (fun k => ?_) h3
    rw [hl8]; rfl
theorem spec_keepers_ev (s : ByteArray) : Ev (fun k => spec_KeepersOf.f k s) (keepAns s) := by
  have h1 := spec_tyRead_ev s
  unfold keepAns
  cases hg : tyGrid (bytesOf s) with
  | none =>
    rw [hg] at h1
    exact Ev.bind h1 (Ev.congr (fun k => if_neg Bool.false_ne_true) (Ev.now _))
  | some g =>
    rw [hg] at h1
    obtain ⟨v, es⟩ := textB_grid hg
    have h3 := spec_keep_l0 v 8 0 0 (by omega) (by omega)
    rw [es, Nat.zero_add, List.drop_zero] at h3
    refine Ev.bind h1 (Ev.congr (fun k => if_pos rfl) (Ev.bind (spec_eight_ev v) ?_))
    refine Ev.congr (fun k => ?_) h3
    rw [List.length_map, List.length_range]; rfl
theorem sub_all : ∀ b0 b1 b2 b3 b4 b5 b6 b7 : Bool, b0 = true → ((List.range 8).all fun i => (List.range 8).all fun j => !([b0, b1, b2, b3, b4, b5, b6, b7].getD i false && [b0, b1, b2, b3, b4, b5, b6, b7].getD j false) || [b0, b1, b2, b3, b4, b5, b6, b7].getD (mul i j) false) = true → 8 % ([b0, b1, b2, b3, b4, b5, b6, b7].countP id) = 0 := by
  decide
theorem keeps_zero (g : (Nat × Nat × List Int)) : keeps g 0 = true := by simp [keeps, mv, turns]
theorem keeps_mul {g : (Nat × Nat × List Int)} (v : Vg g) {i j : Nat} (hi : i < 8) (hj : j < 8) (h1 : keeps g i = true) (h2 : keeps g j = true) : keeps g (mul i j) = true := by
  unfold keeps at *
  rw [decide_eq_true_iff] at *
  rw [← mv_mv v.len i j hi hj, h2, h1]
theorem keepN_eight {g : (Nat × Nat × List Int)} (v : Vg g) : 8 % keepN g = 0 ∧ 1 ≤ keepN g := by
  have hl : (List.range 8).map (keeps g) = [keeps g 0, keeps g 1, keeps g 2, keeps g 3, keeps g 4, keeps g 5, keeps g 6, keeps g 7] := rfl
  have hn : keepN g = ([keeps g 0, keeps g 1, keeps g 2, keeps g 3, keeps g 4, keeps g 5, keeps g 6, keeps g 7]).countP id := by
    rw [← hl, List.countP_map]; rfl
  have hget : ∀ i, i < 8 → ([keeps g 0, keeps g 1, keeps g 2, keeps g 3, keeps g 4, keeps g 5, keeps g 6, keeps g 7]).getD i false = keeps g i := by
    intro i hi
    have hi' : i = 0 ∨ i = 1 ∨ i = 2 ∨ i = 3 ∨ i = 4 ∨ i = 5 ∨ i = 6 ∨ i = 7 := by omega
    rcases hi' with rfl | rfl | rfl | rfl | rfl | rfl | rfl | rfl <;> rfl
  have hmul : ∀ i j, i < 8 → j < 8 → mul i j < 8 := by
    intro i j hi hj
    unfold mul
    split <;> split <;> omega
  constructor
  · rw [hn]
    refine sub_all _ _ _ _ _ _ _ _ (keeps_zero g) ?_
    rw [List.all_eq_true]
    intro i hi
    rw [List.all_eq_true]
    intro j hj
    have hi := List.mem_range.1 hi
    have hj := List.mem_range.1 hj
    rw [hget i hi, hget j hj, hget _ (hmul i j hi hj)]
    cases h1 : keeps g i with
    | false => rfl
    | true =>
      cases h2 : keeps g j with
      | false => rfl
      | true => rw [keeps_mul v hi hj h1 h2]; rfl
  · rw [keepN]
    exact List.countP_pos_iff.2 ⟨0, by simp, keeps_zero g⟩
theorem minOfS_least : ∀ (zs : List ByteArray) (m : ByteArray), (zs.foldl Lib.minS m = m ∨ zs.foldl Lib.minS m ∈ zs) ∧ (¬ lessB m (zs.foldl Lib.minS m)) ∧ ∀ y ∈ zs, ¬ lessB y (zs.foldl Lib.minS m)
  | [], m => ⟨.inl rfl, List.lt_irrefl _, fun y hy => by cases hy⟩
  | z :: zs, m => by
    obtain ⟨h1, h2, h3⟩ := minOfS_least zs (Lib.minS m z)
    rw [List.foldl_cons]
    generalize List.foldl Lib.minS (Lib.minS m z) zs = r at *
    have hle : ¬ lessB m (Lib.minS m z) ∧ ¬ lessB z (Lib.minS m z) ∧ (Lib.minS m z = m ∨ Lib.minS m z = z) := by
      unfold Lib.minS lessB
      by_cases h : m.data.toList < z.data.toList ∨ m.data.toList = z.data.toList
      · rw [if_pos h]
        refine ⟨List.lt_irrefl _, ?_, .inl rfl⟩
        rcases h with h | h
        · exact List.lt_asymm h
        · rw [h]; exact List.lt_irrefl _
      · rw [if_neg h]
        exact ⟨fun h' => h (.inl h'), List.lt_irrefl _, .inr rfl⟩
    have tr : ∀ a : ByteArray, ¬ lessB a (Lib.minS m z) → ¬ lessB a r := by
      intro a ha hb
      unfold lessB at *
      have e1 := List.not_lt.1 h2
      have e2 := List.not_lt.1 ha
      exact absurd hb (List.not_lt.2 (List.le_trans e1 e2))
    refine ⟨?_, tr m hle.1, fun y hy => ?_⟩
    · rcases h1 with h1 | h1
      · rcases hle.2.2 with h4 | h4
        · exact .inl (h1.trans h4)
        · exact .inr (by rw [h1, h4]; simp)
      · exact .inr (List.mem_cons_of_mem _ h1)
    · rcases List.mem_cons.1 hy with rfl | hy
      · exact tr _ hle.2.1
      · exact h3 y hy
theorem leastG_mem (g : (Nat × Nat × List Int)) : leastG g ∈ texts g 8 ∧ ∀ y ∈ texts g 8, ¬ lessB y (leastG g) := by
  obtain ⟨h1, h2, h3⟩ := minOfS_least (texts g 8) ((texts g 8).headD ByteArray.empty)
  refine ⟨?_, h3⟩
  rcases h1 with h1 | h1
  · show Lib.minOfS _ ∈ _
    unfold Lib.minOfS
    rw [h1, texts_head]
    exact List.mem_of_getElem? (texts_get (g := g) (i := 0) (by decide))
  · exact h1
theorem mem_texts {g : (Nat × Nat × List Int)} {t : ByteArray} : t ∈ texts g 8 ↔ ∃ i, i < 8 ∧ t = textB (mv i g) := by
  unfold texts
  rw [List.mem_map]
  exact ⟨fun ⟨i, hi, e⟩ => ⟨i, List.mem_range.1 hi, e.symm⟩, fun ⟨i, hi, e⟩ => ⟨i, List.mem_range.2 hi, e.symm⟩⟩
theorem mul_lt : ∀ i, i < 8 → ∀ j, j < 8 → mul i j < 8 := by decide
theorem mul_inv : ∀ m, m < 8 → ∀ i, i < 8 → ∃ j, j < 8 ∧ mul j m = i := by decide
theorem texts_moved {g : (Nat × Nat × List Int)} (v : Vg g) {m : Nat} (hm : m < 8) (t : ByteArray) : t ∈ texts (mv m g) 8 ↔ t ∈ texts g 8 := by
  rw [mem_texts, mem_texts]
  constructor
  · rintro ⟨i, hi, e⟩
    exact ⟨mul i m, mul_lt i hi m hm, by rw [e, mv_mv v.len i m hi hm]⟩
  · rintro ⟨i, hi, e⟩
    obtain ⟨j, hj, ej⟩ := mul_inv m hm i hi
    exact ⟨j, hj, by rw [e, mv_mv v.len j m hj hm, ej]⟩
theorem leastG_moved {g : (Nat × Nat × List Int)} (v : Vg g) {m : Nat} (hm : m < 8) : leastG (mv m g) = leastG g := by
  obtain ⟨a1, a2⟩ := leastG_mem (mv m g)
  obtain ⟨b1, b2⟩ := leastG_mem g
  have h1 := b2 _ ((texts_moved v hm _).1 a1)
  have h2 := a2 _ ((texts_moved v hm _).2 b1)
  unfold lessB at h1 h2
  exact ByteArray.ext (Array.toList_inj.1 (List.le_antisymm (List.not_lt.1 h2) (List.not_lt.1 h1)))
end Go.Proofs.YtipjmlcbbimfpaaGreatDoor.F

namespace Go.Proofs.YtipjmlcbbimfpaaGreatDoor.F
open Go.RowKit Go.Proofs.YtipjmlcbbimfpaaGreatDoor Go.Proofs.YtipjmlcbbimfpaaGreatDoorW.PrintWords
set_option linter.unusedVariables false
set_option linter.unusedSimpArgs false
theorem textB_short {g : (Nat × Nat × List Int)} (v : Vg g) : (textB g).size < 4294967281 := by have := textB_small v; omega
theorem mapAns_text {g : (Nat × Nat × List Int)} (v : Vg g) (f : (Nat × Nat × List Int) → (Nat × Nat × List Int)) : mapAns f (textB g) = (textB (f g), true) := by unfold mapAns; rw [grid_textB v]
theorem moved_l0 {m : Nat} (hm : m < 8) : ∀ (d i : Nat) {g : (Nat × Nat × List Int)}, Vg g → i + d = m % 4 → Ev (fun k => laws_yMoved.l0 k (textB g) m i) (textB (turns d g))
  | 0, i, g, v, hi => by
    refine Ev.step (f := fun _ => some (textB g)) (fun k => ?_) (Ev.now _)
    rw [laws_yMoved.l0, if_neg]
    rw [show Int.tmod (m : Int) 4 = ((m % 4 : Nat) : Int) from (Int.ofNat_tmod m 4).symm]; omega
  | d + 1, i, g, v, hi => by
    have ih := moved_l0 hm d (i + 1) v.T (by omega)
    have h1 := impl_turnTray_ev (textB g) (textB_short v)
    rw [mapAns_text v] at h1
    refine Ev.step (f := fun k => (impl_TurnTray.f k (textB g)).bind fun bt103 => (laws_yMoved.l0 k bt103.1 m ((i + 1 : Nat) : Int))) (fun k => ?_) (Ev.bind h1 ih)
    rw [laws_yMoved.l0, if_pos, show (i : Int) + 1 = ((i + 1 : Nat) : Int) by omega, w64t (by omega)]
    rw [show Int.tmod (m : Int) 4 = ((m % 4 : Nat) : Int) from (Int.ofNat_tmod m 4).symm]; omega
theorem yMoved_ev {g : (Nat × Nat × List Int)} (v : Vg g) {m : Nat} (hm : m < 8) : Ev (fun k => laws_yMoved.f k (textB g) m) (textB (mv m g)) := by
  by_cases h4 : 4 ≤ m
  · have h1 := impl_mirrorTray_ev (textB g) (textB_short v)
    rw [mapAns_text v] at h1
    have h2 := moved_l0 hm (m % 4) 0 v.M (by omega)
    rw [show turns (m % 4) (Mg g) = mv m g by unfold mv; rw [if_pos h4]] at h2
    refine Ev.congr (fun k => if_pos (show (m : Int) ≥ 4 by omega)) (Ev.bind h1 ?_)
    refine Ev.step (fun k => ?_) h2
    rw [laws_yMoved.j0]; rfl
  · have h2 := moved_l0 hm (m % 4) 0 v (by omega)
    rw [show turns (m % 4) g = mv m g by unfold mv; rw [if_neg h4]] at h2
    refine Ev.congr (fun k => if_neg (show ¬ (m : Int) ≥ 4 by omega)) ?_
    refine Ev.step (fun k => ?_) h2
    rw [laws_yMoved.j0]; rfl
theorem isName_eq (c : Int) : impl_isName.f c = some (isNameC c) := by
  unfold impl_isName.f isNameC
  by_cases h : c ≥ 97
  · rw [if_pos h]; simp [show 97 ≤ c from h]
  · rw [if_neg h]; simp [show ¬ 97 ≤ c from h]
theorem isBall_eq (c : Int) : impl_isBall.f c = some (isBallC c) := by
  unfold impl_isBall.f isBallC
  rw [isName_eq]
  by_cases h : c = 111
  · simp [h]
  · simp [h]
def oneCell (c : ByteArray) : Bool := decide (c.size = 1) && isCellC (bt c 0)
theorem isCell_eq (c : ByteArray) : impl_isCell.f c = some (oneCell c) := by
  unfold impl_isCell.f oneCell isCellC
  rw [isBall_eq]
  by_cases h : c.size = 1
  · rw [if_pos (by omega), if_pos (by omega)]
    by_cases h1 : bt c 0 = 35
    · simp [h, h1]
    by_cases h2 : bt c 0 = 46
    · simp [h, h2]
    simp [h, h1, h2]
  · rw [if_neg (by omega)]; simp [h]
theorem tyOne_eq (c : ByteArray) : spec_tyOne.f c = some (oneCell c) := by
  unfold spec_tyOne.f oneCell
  rw [spec_tyIs_eq]
  by_cases h : c.size = 1
  · rw [if_pos (by omega), if_pos (by omega)]; simp [h]
  · rw [if_neg (by omega)]; simp [h]
theorem one_byte {c : ByteArray} (h : c.size = 1) : ∃ b : UInt8, c = ⟨#[b]⟩ ∧ bt c 0 = (b.toNat : Int) := by
  have := one_byte_of h
  refine ⟨_, this, ?_⟩
  rw [bt, dif_pos (by show (0 : Int).toNat < c.size; rw [h]; decide)]
  rfl
def countAns (s c : ByteArray) : Int × Bool := match tyGrid (bytesOf s) with | none => (0, false) | some g => if oneCell c = true then (((g.2.2.count (bt c 0) : Nat) : Int), true) else (0, false)
theorem impl_count_ev (s c : ByteArray) (hs : s.size < 4294967281) : Ev (fun k => impl_CountCells.f k s c) (countAns s c) := by
  have h1 := impl_IsTray_ev s hs
  unfold countAns
  cases hg : tyGrid (bytesOf s) with
  | none =>
    rw [hg] at h1
    exact Ev.bind h1 (Ev.congr (fun k => if_neg (by simp)) (Ev.now _))
  | some g =>
    rw [hg] at h1
    refine Ev.bind h1 (Ev.congr (fun k => if_pos rfl) ?_)
    refine Ev.congr (fun k => ?_) (Ev.now _)
    rw [isCell_eq, Option.bind_some]
    cases ho : oneCell c with
    | false => simp
    | true =>
      unfold oneCell at ho
      rw [Bool.and_eq_true, decide_eq_true_iff] at ho
      obtain ⟨b, e, eb⟩ := one_byte ho.1
      have hb47 : (b.toNat : Int) ≠ 47 := by rw [← eb]; exact cell_no47 ho.2
      obtain ⟨e1, _⟩ := tyGrid_parts (w := g.1) (h := g.2.1) (cs := g.2.2) hg
      have h2 := rowsI_count 47 (b.toNat : Int) hb47 (bytesOf s)
      rw [← e1] at h2
      rw [if_pos rfl, eb, e, count_byte, Option.bind_some, h2]
      rfl
theorem spec_count_l0 {c : ByteArray} (hc : c.size = 1) {cs : List Int} (hl : cs.length ≤ 1000) : ∀ (d i acc : Nat), i + d = cs.length → acc ≤ i →
    Ev (fun k => spec_CountCells.l0 k c acc cs (cs.length : Int) i) (((acc + (cs.drop i).count (bt c 0) : Nat) : Int), true)
  | 0, i, acc, hi, ha => by
    obtain rfl : i = cs.length := by omega
    rw [List.drop_length]
    refine Ev.step (f := fun _ => some ((acc : Int), true)) (fun k => ?_) (Ev.now _)
    rw [spec_CountCells.l0, if_neg (by omega)]
  | d + 1, i, acc, hi, ha => by
    have hlt : i < cs.length := by omega
    have hrd : rd cs (i : Int) = cs[i] := by unfold rd; rw [Int.toNat_natCast, List.getD_eq_getElem?_getD, List.getElem?_eq_getElem hlt]; rfl
    rw [List.drop_eq_getElem_cons hlt, List.count_cons]
    by_cases he : cs[i] = bt c 0
    · have ih := spec_count_l0 hc hl d (i + 1) (acc + 1) (by omega) (by omega)
      rw [if_pos (by rw [he]; exact beq_self_eq_true _), show acc + ((cs.drop (i + 1)).count (bt c 0) + 1) = acc + 1 + (cs.drop (i + 1)).count (bt c 0) by omega]
      refine Ev.step (fun k => ?_) ih
      rw [spec_CountCells.l0, if_pos (by omega), if_pos (by omega), if_pos (by omega), if_pos (by omega), hrd, if_pos he, show (acc : Int) + 1 = ((acc + 1 : Nat) : Int) by omega, w64t (by omega), show (i : Int) + 1 = ((i + 1 : Nat) : Int) by omega, w64t (by omega)]
    · have ih := spec_count_l0 hc hl d (i + 1) acc (by omega) (by omega)
      rw [if_neg (by simpa using he), Nat.add_zero]
      refine Ev.step (fun k => ?_) ih
      rw [spec_CountCells.l0, if_pos (by omega), if_pos (by omega), if_pos (by omega), if_pos (by omega), hrd, if_neg he, show (i : Int) + 1 = ((i + 1 : Nat) : Int) by omega, w64t (by omega)]
theorem spec_count_ev (s c : ByteArray) : Ev (fun k => spec_CountCells.f k s c) (countAns s c) := by
  have h1 := spec_tyRead_ev s
  have hno : ∀ (w h : Int) (cs : List Int), Ev (fun k => spec_CountCells.j0 k c true w h cs) (0, false) := fun w h cs =>
    Ev.step (f := fun _ => some (0, false)) (fun k => by rw [spec_CountCells.j0, if_pos rfl]) (Ev.now _)
  unfold countAns
  cases hg : tyGrid (bytesOf s) with
  | none =>
    rw [hg] at h1
    exact Ev.bind h1 (Ev.congr (fun k => if_neg Bool.false_ne_true) (hno _ _ _))
  | some g =>
    rw [hg] at h1
    obtain ⟨v, _⟩ := textB_grid hg
    refine Ev.bind h1 (Ev.congr (fun k => if_pos rfl) ?_)
    refine Ev.congr (fun k => by rw [tyOne_eq, Option.bind_some]) ?_
    cases ho : oneCell c with
    | false => exact hno _ _ _
    | true =>
      have hc : c.size = 1 := by
        unfold oneCell at ho
        rw [Bool.and_eq_true, decide_eq_true_iff] at ho
        exact ho.1
      have h2 := spec_count_l0 hc (cs := g.2.2) (by rw [show g.2.2.length = g.1 * g.2.1 from v.len]; have := v.small; omega) g.2.2.length 0 0 (by omega) (by omega)
      rw [Nat.zero_add, List.drop_zero] at h2
      show Ev _ (((g.2.2.count (bt c 0) : Nat) : Int), true)
      refine Ev.step (fun k => ?_) h2
      rw [spec_CountCells.j0]
      exact if_neg Bool.false_ne_true
def firstAt (cs : List Int) (c : Int) : Nat := cs.findIdx (· == c)
theorem first_split {cs : List Int} {c : Int} {i : Nat} (h : ∀ j, j < i → ∀ hj : j < cs.length, cs[j] ≠ c) (hi : i < cs.length) (he : cs[i] = c) : firstAt cs c = i := by
  unfold firstAt
  rw [List.findIdx_eq hi]
  refine ⟨by rw [he]; exact beq_self_eq_true _, fun j hj => ?_⟩
  have := h j hj (by omega)
  simpa using this
theorem first_none {cs : List Int} {c : Int} (h : ∀ j, ∀ hj : j < cs.length, cs[j] ≠ c) : firstAt cs c = cs.length := by
  unfold firstAt
  rw [List.findIdx_eq_length]
  intro x hx
  obtain ⟨j, hj, rfl⟩ := List.getElem_of_mem hx
  have := h j hj
  simpa using this
theorem index_l0 {cs : List Int} (hl : cs.length ≤ 1000) (c : Int) : ∀ (d i : Nat), i + d = cs.length → (∀ j, j < i → ∀ hj : j < cs.length, cs[j] ≠ c) →
    Ev (fun k => slices_Index_byte_byte.l0 k cs c (cs.length : Int) i) (if firstAt cs c < cs.length then (firstAt cs c : Int) else -1)
  | 0, i, hi, hn => by
    obtain rfl : i = cs.length := by omega
    rw [first_none (fun j hj => hn j hj hj), if_neg (by omega)]
    refine Ev.step (f := fun _ => some (-1)) (fun k => ?_) (Ev.now _)
    rw [slices_Index_byte_byte.l0, if_neg (by omega)]
  | d + 1, i, hi, hn => by
    have hlt : i < cs.length := by omega
    have hrd : rd cs (i : Int) = cs[i] := by unfold rd; rw [Int.toNat_natCast, List.getD_eq_getElem?_getD, List.getElem?_eq_getElem hlt]; rfl
    by_cases he : c = cs[i]
    · rw [first_split hn hlt he.symm, if_pos hlt]
      refine Ev.step (f := fun _ => some (i : Int)) (fun k => ?_) (Ev.now _)
      rw [slices_Index_byte_byte.l0, if_pos (by omega), if_pos (by omega), if_pos (by omega), hrd, if_pos he]
    · have ih := index_l0 hl c d (i + 1) (by omega) (fun j hj hj' => by
        by_cases e : j = i
        · subst e; exact fun h => he h.symm
        · exact hn j (by omega) hj')
      refine Ev.step (fun k => ?_) ih
      rw [slices_Index_byte_byte.l0, if_pos (by omega), if_pos (by omega), if_pos (by omega), hrd, if_neg he, show (i : Int) + 1 = ((i + 1 : Nat) : Int) by omega, w64t (by omega)]
def oneName (c : ByteArray) : Bool := decide (c.size = 1) && isNameC (bt c 0)
def placeAns (s c : ByteArray) : Int × Int × Bool := match tyGrid (bytesOf s) with
  | none => (0, 0, false)
  | some g => if oneName c = true ∧ firstAt g.2.2 (bt c 0) < g.2.2.length then (((firstAt g.2.2 (bt c 0) % g.1 : Nat) : Int), ((firstAt g.2.2 (bt c 0) / g.1 : Nat) : Int), true) else (0, 0, false)
def cellOfAns (s c : ByteArray) : Int × Bool := match tyGrid (bytesOf s) with
  | none => (0, false)
  | some g => if oneName c = true then (if firstAt g.2.2 (bt c 0) < g.2.2.length then ((firstAt g.2.2 (bt c 0) : Int), true) else (-1, false)) else (0, false)
theorem impl_cellOf_ev (s c : ByteArray) (hs : s.size < 4294967281) : Ev (fun k => impl_cellOf.f k s c) (cellOfAns s c) := by
  have h1 := impl_IsTray_ev s hs
  have hno : Ev (fun k => impl_cellOf.j0 k s c true) (0, false) :=
    Ev.step (f := fun _ => some (0, false)) (fun k => by rw [impl_cellOf.j0, if_pos rfl]) (Ev.now _)
  unfold cellOfAns
  cases hg : tyGrid (bytesOf s) with
  | none =>
    rw [hg] at h1
    exact Ev.bind h1 (Ev.congr (fun k => if_neg (by simp)) hno)
  | some g =>
    rw [hg] at h1
    obtain ⟨v, _⟩ := textB_grid hg
    obtain ⟨w, h, cs⟩ := g
    refine Ev.bind h1 (Ev.congr (fun k => if_pos rfl) ?_)
    unfold oneName
    by_cases hc : c.size = 1
    · refine Ev.congr (fun k => by rw [if_pos (show (c.size : Int) = 1 by omega), if_pos (show 0 < (c.size : Int) by omega), isName_eq, Option.bind_some]) ?_
      cases hn : isNameC (bt c 0) with
      | false => simp only [hc, decide_true, Bool.true_and, Bool.false_eq_true, if_false]; exact hno
      | true =>
        have hl : cs.length ≤ 1000 := by rw [show cs.length = w * h from v.len]; have := v.small; simp only at this; omega
        have h2 := index_l0 hl (bt c 0) cs.length 0 (by omega) (fun j hj => by omega)
        simp only [hc, decide_true, Bool.true_and, if_true]
        refine Ev.step (f := fun k => (slices_Index_byte_byte.f k cs (bt c 0)).bind fun t108 => (some (t108, decide (t108 ≥ 0)))) (fun k => ?_) ?_
        · rw [impl_cellOf.j0, if_neg (by simp), impl_read_eq s hg, Option.bind_some, if_pos (by omega)]
        · refine Ev.bind h2 ?_
          refine Ev.congr (fun k => ?_) (Ev.now _)
          by_cases hf : firstAt cs (bt c 0) < cs.length
          · rw [if_pos hf, if_pos hf]; simp
          · rw [if_neg hf, if_neg hf]; simp
    · refine Ev.congr (fun k => by rw [if_neg (show ¬ (c.size : Int) = 1 by omega)]) ?_
      simp only [hc, decide_false, Bool.false_and, Bool.false_eq_true, if_false]
      exact hno
theorem impl_place_ev (s c : ByteArray) (hs : s.size < 4294967281) : Ev (fun k => impl_PlaceOf.f k s c) (placeAns s c) := by
  have h1 := impl_cellOf_ev s c hs
  unfold cellOfAns at h1
  unfold placeAns
  cases hg : tyGrid (bytesOf s) with
  | none =>
    rw [hg] at h1
    exact Ev.bind h1 (Ev.congr (fun k => if_neg Bool.false_ne_true) (Ev.now _))
  | some g =>
    rw [hg] at h1
    obtain ⟨v, _⟩ := textB_grid hg
    obtain ⟨w, h, cs⟩ := g
    simp only at h1 ⊢
    have hw : 1 ≤ w := v.w1
    have hl : cs.length ≤ 1000 := by rw [show cs.length = w * h from v.len]; have := v.small; simp only at this; omega
    cases hn : oneName c with
    | false =>
      rw [hn, if_neg Bool.false_ne_true] at h1
      rw [if_neg (fun h => by cases h.1)]
      exact Ev.bind h1 (Ev.congr (fun k => if_neg Bool.false_ne_true) (Ev.now _))
    | true =>
      rw [hn, if_pos rfl] at h1
      by_cases hf : firstAt cs (bt c 0) < cs.length
      · rw [if_pos hf] at h1
        rw [if_pos ⟨rfl, hf⟩]
        refine Ev.bind h1 (Ev.congr (fun k => if_pos rfl) ?_)
        refine Ev.congr (fun k => ?_) (Ev.now _)
        have hq : firstAt cs (bt c 0) / w ≤ 1000 := Nat.le_trans (Nat.div_le_self _ _) (by omega)
        rw [impl_read_eq s hg, Option.bind_some, if_neg (show ¬ (w : Int) = 0 by omega), ← Int.ofNat_tmod, ← Int.ofNat_tdiv, w64t (by omega)]
      · rw [if_neg hf] at h1
        rw [if_neg (fun h => hf h.2)]
        exact Ev.bind h1 (Ev.congr (fun k => if_neg Bool.false_ne_true) (Ev.now _))
theorem spec_place_l0 {c : ByteArray} (hc : c.size = 1) {w : Nat} (hw : 1 ≤ w) (h : Int) {cs : List Int} (hl : cs.length ≤ 1000) : ∀ (d i : Nat), i + d = cs.length → (∀ j, j < i → ∀ hj : j < cs.length, cs[j] ≠ bt c 0) →
    Ev (fun k => spec_PlaceOf.l0 k c cs (cs.length : Int) i w h cs) (if firstAt cs (bt c 0) < cs.length then (((firstAt cs (bt c 0) % w : Nat) : Int), ((firstAt cs (bt c 0) / w : Nat) : Int), true) else (0, 0, false))
  | 0, i, hi, hn => by
    obtain rfl : i = cs.length := by omega
    rw [first_none (fun j hj => hn j hj hj), if_neg (by omega)]
    refine Ev.step (f := fun _ => some (0, 0, false)) (fun k => ?_) (Ev.now _)
    rw [spec_PlaceOf.l0, if_neg (by omega)]
  | d + 1, i, hi, hn => by
    have hlt : i < cs.length := by omega
    have hrd : rd cs (i : Int) = cs[i] := by unfold rd; rw [Int.toNat_natCast, List.getD_eq_getElem?_getD, List.getElem?_eq_getElem hlt]; rfl
    by_cases he : cs[i] = bt c 0
    · rw [first_split hn hlt he, if_pos hlt]
      have hq : i / w ≤ 1000 := Nat.le_trans (Nat.div_le_self _ _) (by omega)
      refine Ev.step (f := fun _ => some (((i % w : Nat) : Int), ((i / w : Nat) : Int), true)) (fun k => ?_) (Ev.now _)
      rw [spec_PlaceOf.l0, if_pos (by omega), if_pos (by omega), if_pos (by omega), if_pos (by omega), hrd, if_pos he, if_neg (by omega), ← Int.ofNat_tmod, ← Int.ofNat_tdiv, w64t (by omega)]
    · have ih := spec_place_l0 hc hw h hl d (i + 1) (by omega) (fun j hj hj' => by
        by_cases e : j = i
        · subst e; exact he
        · exact hn j (by omega) hj')
      refine Ev.step (fun k => ?_) ih
      rw [spec_PlaceOf.l0, if_pos (by omega), if_pos (by omega), if_pos (by omega), if_pos (by omega), hrd, if_neg he, show (i : Int) + 1 = ((i + 1 : Nat) : Int) by omega, w64t (by omega)]
theorem spec_place_ev (s c : ByteArray) : Ev (fun k => spec_PlaceOf.f k s c) (placeAns s c) := by
  have h1 := spec_tyRead_ev s
  have hno : ∀ (w h : Int) (cs : List Int), Ev (fun k => spec_PlaceOf.j0 k c true w h cs) (0, 0, false) := fun w h cs =>
    Ev.step (f := fun _ => some (0, 0, false)) (fun k => by rw [spec_PlaceOf.j0, if_pos rfl]) (Ev.now _)
  unfold placeAns
  cases hg : tyGrid (bytesOf s) with
  | none =>
    rw [hg] at h1
    exact Ev.bind h1 (Ev.congr (fun k => if_neg Bool.false_ne_true) (hno _ _ _))
  | some g =>
    rw [hg] at h1
    obtain ⟨v, _⟩ := textB_grid hg
    obtain ⟨w, h, cs⟩ := g
    simp only
    have hw : 1 ≤ w := v.w1
    have hl : cs.length ≤ 1000 := by rw [show cs.length = w * h from v.len]; have := v.small; simp only at this; omega
    refine Ev.bind h1 (Ev.congr (fun k => if_pos rfl) ?_)
    unfold oneName isNameC
    by_cases hc : c.size = 1
    · refine Ev.congr (fun k => by rw [if_pos (show (c.size : Int) = 1 by omega), if_pos (show 0 < (c.size : Int) by omega)]) ?_
      by_cases h97 : bt c 0 < 97
      · refine Ev.congr (fun k => if_pos h97) ?_
        rw [if_neg (fun h => by simp [show ¬ 97 ≤ bt c 0 by omega] at h)]
        exact hno _ _ _
      · refine Ev.congr (fun k => if_neg h97) ?_
        by_cases h102 : bt c 0 > 102
        · rw [if_neg (fun h => by simp [show ¬ bt c 0 ≤ 102 by omega] at h), decide_eq_true h102]
          exact hno _ _ _
        · have h2 := spec_place_l0 hc hw h hl cs.length 0 (by omega) (fun j hj => by omega)
          rw [decide_eq_false h102]
          refine Ev.step (f := fun k => spec_PlaceOf.l0 k c cs (cs.length : Int) 0 w h cs) (fun k => ?_) ?_
          · rw [spec_PlaceOf.j0]; exact if_neg Bool.false_ne_true
          · have e : (decide (c.size = 1) && (decide (97 ≤ bt c 0) && decide (bt c 0 ≤ 102))) = true := by simp [hc]; omega
            rw [e]
            simp only [true_and]
            exact h2
    · refine Ev.congr (fun k => by rw [if_neg (show ¬ (c.size : Int) = 1 by omega)]) ?_
      rw [if_neg (fun h => by simp [hc] at h)]
      exact hno _ _ _
theorem impl_cellAt_ev {s : ByteArray} {g : (Nat × Nat × List Int)} (hg : tyGrid (bytesOf s) = some g) (hs : s.size < 4294967281) {i : Nat} (hi : i < g.2.2.length) : Ev (fun k => impl_CellAt.f k s ((i % g.1 : Nat) : Int) ((i / g.1 : Nat) : Int)) (strOfNums [g.2.2.getD i 0], true) := by
  obtain ⟨v, _⟩ := textB_grid hg
  have h1 := impl_IsTray_ev s hs
  rw [hg] at h1
  obtain ⟨w, h, cs⟩ := g
  simp only at hi ⊢
  have hlen : cs.length = w * h := v.len
  have hdl : (w, h, cs).2.2.length = w * h := v.len
  have hsm : w * h ≤ 36 := v.small
  have hw : w ≤ 7 := v.w7
  have hh : h ≤ 7 := v.h7
  obtain ⟨p1, p2, p3⟩ := place_of (w := w) (h := h) (i := i) (by omega)
  have hp : Ev (fun k => impl_isPlace.f k s ((i % w : Nat) : Int) ((i / w : Nat) : Int)) true := by
    refine Ev.bind h1 (Ev.congr (fun k => if_pos rfl) ?_)
    refine Ev.congr (fun k => ?_) (Ev.now _)
    generalize i / w = q at *
    generalize i % w = r at *
    rw [impl_read_eq s hg, Option.bind_some, w64 (show -9223372036854775808 ≤ (w : Int) - 1 by omega) (by omega), impl_within.f, if_pos (by omega), Option.bind_some, if_pos (by simp; omega), Option.bind_some, w64 (show -9223372036854775808 ≤ (h : Int) - 1 by omega) (by omega), impl_within.f, if_pos (by omega), Option.bind_some]
    simp; omega
  refine Ev.bind hp (Ev.congr (fun k => if_pos rfl) ?_)
  refine Ev.congr (fun k => ?_) (Ev.now _)
  have e1 : wrap64 (((i / w : Nat) : Int) * w) = ((i / w * w : Nat) : Int) := by
    rw [← Int.natCast_mul]; exact w64t (Nat.le_trans (Nat.div_mul_le_self i w) (by omega))
  have e2 : ((i / w * w : Nat) : Int) + ((i % w : Nat) : Int) = (i : Int) := by rw [← Int.natCast_add, p3]
  rw [impl_read_eq s hg, Option.bind_some, e1, e2]
  clear e1 e2 p1 p2 p3
  dsimp only
  have hi' : i < cs.length := hi
  rw [w64t (n := i) (by omega), show (i : Int) + 1 = ((i + 1 : Nat) : Int) by omega, w64t (n := i + 1) (by omega), if_pos (by omega), if_pos (by omega), if_pos (by omega), Int.toNat_natCast, Int.toNat_natCast]
  congr 3
  rw [List.drop_take, show i + 1 - i = 1 by omega, List.drop_eq_getElem_cons hi, List.take_succ_cons, List.take_zero, List.getD_eq_getElem?_getD, List.getElem?_eq_getElem hi]
  rfl
end Go.Proofs.YtipjmlcbbimfpaaGreatDoor.F
