/- The proof that the law's row holds, part 5: the kit's words, the printed walks and the plain law. No conditions beyond the card's own. -/
import Derived.Test.YtdffgeoegdkiaaaGreatDoorM0
import Derived.Test.YtdffgeoegdkiaaaGreatDoorM1
import Derived.Test.YtdffgeoegdkiaaaGreatDoorM2
import Derived.Test.YtdffgeoegdkiaaaGreatDoorM3
import Derived.Test.YtdffgeoegdkiaaaGreatDoorM4
set_option linter.unusedVariables false
set_option linter.unusedSimpArgs false
namespace Go.Proofs.YtdffgeoegdkiaaaGreatDoor.F
open Go.Proofs.YtdffgeoegdkiaaaGreatDoor
open Go.RowKit Go.Proofs.YtdffgeoegdkiaaaGreatDoorW.PrintWords Go.Proofs.YtdffgeoegdkiaaaGreatDoorW.PrintLast Go.Proofs.YtdffgeoegdkiaaaGreatDoorW.PrintMore
attribute [local go_sem] max2_int min2_int max_two min_two max_three min_three max_four min_four
mutual
def spec_AllStill.l0 : Nat → List ByteArray → List ByteArray → Int → Int → Option (List ByteArray × Bool)
 | 0, _, _, _, _ => none
 | k + 1, x10, x31, x32, x33 => if x33 < x32 then (if 0 ≤ x33 then (if x33 < (x31.length : Int) then (spec_AllStill.l1 k x10 (rdOf ByteArray.empty x31 x33) 0 x31 x32 x33) else (none)) else (none)) else (some (x10, true))
def spec_AllStill.l1 : Nat → List ByteArray → ByteArray → Int → List ByteArray → Int → Int → Option (List ByteArray × Bool)
 | 0, _, _, _, _, _, _ => none
 | k + 1, x10, x12, x13, x31, x32, x33 => if x13 < (x10.length : Int) then (if 0 ≤ x13 then (if (Op.bytesLess ((rdOf ByteArray.empty x10 x13).toList) x12.toList) = true then (spec_AllStill.l1 k x10 x12 (wrap64 (x13 + 1)) x31 x32 x33) else ((some (([] : List ByteArray) : List ByteArray)).bind fun y114 => (if x13 ≤ (x10.length : Int) then ((some (x10.take (x13 : Int).toNat : List ByteArray)).bind fun y117 => (if y114.length + y117.length < 8796093022208 then ((some (y114 ++ y117 : List ByteArray)).bind fun y121 => (if y121.length < 8796093022208 then ((some (y121 ++ [x12] : List ByteArray)).bind fun y124 => ((some (x10.drop (x13 : Int).toNat : List ByteArray)).bind fun y127 => (if y124.length + y127.length < 8796093022208 then (spec_AllStill.l0 k (y124 ++ y127) x31 x32 (wrap64 (x33 + 1))) else (none)))) else (none))) else (none))) else (none)))) else (none)) else ((some (([] : List ByteArray) : List ByteArray)).bind fun y134 => (if 0 ≤ x13 then (if x13 ≤ (x10.length : Int) then ((some (x10.take (x13 : Int).toNat : List ByteArray)).bind fun y137 => (if y134.length + y137.length < 8796093022208 then ((some (y134 ++ y137 : List ByteArray)).bind fun y141 => (if y141.length < 8796093022208 then ((some (y141 ++ [x12] : List ByteArray)).bind fun y144 => ((some (x10.drop (x13 : Int).toNat : List ByteArray)).bind fun y147 => (if y144.length + y147.length < 8796093022208 then (spec_AllStill.l0 k (y144 ++ y147) x31 x32 (wrap64 (x33 + 1))) else (none)))) else (none))) else (none))) else (none)) else (none)))
end
def spec_AllStill.f (k : Nat) (a0 : ByteArray) (a1 : ByteArray) : Option (List ByteArray × Bool) := (spec_cnLooked.f k a0 a1).bind fun bt101 => (if bt101.2.2.2.2 = true then ((spec_cnAllStill.f k bt101.1 bt101.2.1 bt101.2.2.1 bt101.2.2.2.1 a1).bind fun t109 => (if (t109.length : Int) > 200 then (some (([] : List ByteArray), false)) else (spec_AllStill.l0 k ([] : List ByteArray) t109 (t109.length : Int) 0))) else (some (([] : List ByteArray), false)))
theorem spec_AllStill.mono_l : ∀ k, (∀ y0 y1 y2 y3, LeO (spec_AllStill.l0 k y0 y1 y2 y3) (spec_AllStill.l0 (k + 1) y0 y1 y2 y3)) ∧ (∀ y0 y1 y2 y3 y4 y5, LeO (spec_AllStill.l1 k y0 y1 y2 y3 y4 y5) (spec_AllStill.l1 (k + 1) y0 y1 y2 y3 y4 y5))
 | 0 => ⟨fun _ _ _ _ r h => by simp [spec_AllStill.l0] at h, fun _ _ _ _ _ _ r h => by simp [spec_AllStill.l1] at h⟩
 | k + 1 => by
  obtain ⟨ih0, ih1⟩ := spec_AllStill.mono_l k
  refine ⟨?_, ?_⟩
  ·intro y0 y1 y2 y3
   unfold spec_AllStill.l0
   have im0 := @spec_cnAllStill.mono; have im1 := @spec_cnLooked.mono; exact mo
  ·intro y0 y1 y2 y3 y4 y5
   unfold spec_AllStill.l1
   have im0 := @spec_cnAllStill.mono; have im1 := @spec_cnLooked.mono; exact mo
theorem spec_AllStill.mono : ∀ a0 a1 k, LeO (spec_AllStill.f k a0 a1) (spec_AllStill.f (k + 1) a0 a1) := by
 intro a0 a1 k
 obtain ⟨ih0, ih1⟩ := spec_AllStill.mono_l k
 unfold spec_AllStill.f
 have im0 := @spec_cnAllStill.mono; have im1 := @spec_cnLooked.mono; exact mo
set_option maxHeartbeats 8000000 in
set_option maxRecDepth 100000 in
theorem spec_AllStill.calls (k : Nat) (a0 : ByteArray) (a1 : ByteArray) (r1 : List ByteArray) (r2 : Bool) (w : World) (h : spec_AllStill.f k a0 a1 = some (r1, r2)) :
  Calls Tryz.prog 49 #[.string a0, .string a1] w fun e w' => ∃ v0_ : Value, e = .returned (.tuple #[v0_, .bool r2]) ∧ Kd.R Kd.string 9 w' w.heap.size (fun _ => True) v0_ r1 ∧ Below w.heap.size w w' := by
 have hu62 := Tryz.underlying62
 have HB := am (Below.refl w.heap.size w)
 have H : ((spec_cnLooked.f k a0 a1).bind fun bt101 => (if bt101.2.2.2.2 = true then ((spec_cnAllStill.f k bt101.1 bt101.2.1 bt101.2.2.1 bt101.2.2.2.1 a1).bind fun t109 => (if (t109.length : Int) > 200 then (some (([] : List ByteArray), false)) else (spec_AllStill.l0 k ([] : List ByteArray) t109 (t109.length : Int) 0))) else (some (([] : List ByteArray), false)))) = some (r1, r2) := h
 clear h
 replace H := Option.bind_eq_some_iff.mp H
 obtain ⟨⟨t101, t102, t103, t106, t107⟩, A30, H⟩ := H
 replace H : (if t107 = true then ((spec_cnAllStill.f k t101 t102 t103 t106 a1).bind fun t109 => (if (t109.length : Int) > 200 then (some (([] : List ByteArray), false)) else (spec_AllStill.l0 k ([] : List ByteArray) t109 (t109.length : Int) 0))) else (some (([] : List ByteArray), false))) = some (r1, r2) := H
 have A3 := am A30
 clear A30
 by_cases c4 : t107 = true
 ·subst c4
  rw [if_pos rfl] at H
  obtain ⟨t109, A50, H⟩ := Option.bind_eq_some_iff.mp H
  have A5 := am A50
  clear A50
  by_cases c6 : (t109.length : Int) > 200
  ·rw [if_pos c6] at H
   have c6b0 := decide_eq_true c6
   have c6b1 : decide (200 < t109.length) = true := decide_eq_true (by omega)
   clear c6
   simp only [Option.some.injEq, Prod.mk.injEq] at H
   obtain ⟨rfl, rfl⟩ := H
   go_enter Tryz.func49, Tryz.ntmps49
   go_wp2_with (first | ((with_reducible refine gate_callee (f := 92) rfl ?_); refine goesL_ (some 18) rfl rfl Tryz.func92 (by kernel_rfl) rfl #[.string a0, .string a1] rfl aq4 ?_; (with_reducible refine (spec_cnLooked.calls k a0 a1 t101 t102 t103 t106 true _ A3.out).mono ?_); rintro e w7 ⟨v104, rfl, ho0, hb⟩; refine ⟨_, rfl, ?_⟩; have n0_ := am (Kd.R_lower ho0 (below_size aq1)); have n1_ := am (below_step aq1 hb); clear HB; have HO105 := n0_; have HB := n1_; clear n0_ n1_; (try clear hb); (try clear hb2); (try clear hk); (try clear hi); (try clear ho0)) | ((with_reducible refine gate_dst (N := 6) rfl ?_); refine box_event ?hg (N := 6) ?hd (cs := #[.int .i64 0, .int .i64 0, .slice none 0 0]) (t := 62) ?hr ?_; (case hd => rfl); (case hg => rfl); (case hr => exact aq19); intro gb108 hg w8 hbox hb; have n0_ := am (Kd.R_below aq49 hb); have n1_ := am (below_step aq1 hb); have n2_ := am (hbox); have n3_ := am ((by rw [hg]; exact (below_size aq1) : w.heap.size ≤ gb108)); have n4_ := am ((by rw [hg]; exact (below_size aq1) : w.heap.size ≤ gb108)); clear HO105; clear HB; have HO105 := n0_; have HB := n1_; have BK108 := n2_; have GW108 := n3_; have GE108 := n4_; clear n0_ n1_ n2_ n3_ n4_; clear hb hbox hg; obtain ⟨hcz9_0, hcz9_1, hcz9_2, hfz9_0, hfz9_1, hfz9_2⟩ := blk3_ BK108.out; obtain ⟨Ao10, co10, eo10⟩ := Kd.R_slice HO105.out; subst eo10) | ((with_reducible refine gate_callee (f := 93) rfl ?_); refine goesL_ (some 27) rfl rfl Tryz.func93 (by kernel_rfl) rfl #[.agg #[.int .i64 t101, .int .i64 t102, .slice Ao10 t103.length co10], .int .i64 t106, .string a1] rfl aq4 ?_; (with_reducible refine (spec_cnAllStill.calls k t101 t102 _ _ t103 t106 a1 t109 _ ?side1 ?side2 A5.out).mono ?_); (case side1 => refine (Kd.R_reads' (e := 5) (base := w.heap.size) (ok := fun k_ => True) (n := t103.length) (c := co10) ?_).2.2; exact aq61); (case side2 => exact (Kd.R_reads' HO105.out).2.1); rintro e w11 ⟨v110, rfl, ho0, hb⟩; refine ⟨_, rfl, ?_⟩; have n0_ := am (Kd.R_below aq61 hb); have n1_ := am (Kd.R_lower ho0 (below_size aq9)); have n2_ := am (blk_below (g := gb108) (o := .cells #[.int .i64 t101, .int .i64 t102, .slice Ao10 t103.length co10] 62 (0, 0)) aq42 hb); have n3_ := am (below_step aq9 hb); clear HO105; clear BK108; clear HB; have HO105 := n0_; have HO111 := n1_; have BK108 := n2_; have HB := n3_; clear n0_ n1_ n2_ n3_; (try clear hb); (try clear hb2); (try clear hk); (try clear hi); (try clear ho0); obtain ⟨Ao12, co12, eo12⟩ := Kd.R_slice HO111.out; subst eo12))
   go_ret2
   exact ⟨_, aq8, aq17, aq9⟩
  ·rw [if_neg c6] at H
   have c6b0 := decide_eq_false c6
   have c6b1 : decide (200 < t109.length) = false := decide_eq_false (by omega)
   clear c6
   have H' := am H
   clear H
   go_enter Tryz.func49, Tryz.ntmps49
   go_wp2_with (first | ((with_reducible refine gate_callee (f := 92) rfl ?_); refine goesL_ (some 18) rfl rfl Tryz.func92 (by kernel_rfl) rfl #[.string a0, .string a1] rfl aq4 ?_; (with_reducible refine (spec_cnLooked.calls k a0 a1 t101 t102 t103 t106 true _ A3.out).mono ?_); rintro e w13 ⟨v104, rfl, ho0, hb⟩; refine ⟨_, rfl, ?_⟩; have n0_ := am (Kd.R_lower ho0 (below_size aq1)); have n1_ := am (below_step aq1 hb); clear HB; have HO105 := n0_; have HB := n1_; clear n0_ n1_; (try clear hb); (try clear hb2); (try clear hk); (try clear hi); (try clear ho0)) | ((with_reducible refine gate_dst (N := 6) rfl ?_); refine box_event ?hg (N := 6) ?hd (cs := #[.int .i64 0, .int .i64 0, .slice none 0 0]) (t := 62) ?hr ?_; (case hd => rfl); (case hg => rfl); (case hr => exact aq19); intro gb108 hg w14 hbox hb; have n0_ := am (Kd.R_below aq49 hb); have n1_ := am (below_step aq1 hb); have n2_ := am (hbox); have n3_ := am ((by rw [hg]; exact (below_size aq1) : w.heap.size ≤ gb108)); have n4_ := am ((by rw [hg]; exact (below_size aq1) : w.heap.size ≤ gb108)); clear HO105; clear HB; have HO105 := n0_; have HB := n1_; have BK108 := n2_; have GW108 := n3_; have GE108 := n4_; clear n0_ n1_ n2_ n3_ n4_; clear hb hbox hg; obtain ⟨hcz15_0, hcz15_1, hcz15_2, hfz15_0, hfz15_1, hfz15_2⟩ := blk3_ BK108.out; obtain ⟨Ao16, co16, eo16⟩ := Kd.R_slice HO105.out; subst eo16) | ((with_reducible refine gate_callee (f := 93) rfl ?_); refine goesL_ (some 27) rfl rfl Tryz.func93 (by kernel_rfl) rfl #[.agg #[.int .i64 t101, .int .i64 t102, .slice Ao16 t103.length co16], .int .i64 t106, .string a1] rfl aq4 ?_; (with_reducible refine (spec_cnAllStill.calls k t101 t102 _ _ t103 t106 a1 t109 _ ?side1 ?side2 A5.out).mono ?_); (case side1 => refine (Kd.R_reads' (e := 5) (base := w.heap.size) (ok := fun k_ => True) (n := t103.length) (c := co16) ?_).2.2; exact aq60); (case side2 => exact (Kd.R_reads' HO105.out).2.1); rintro e w17 ⟨v110, rfl, ho0, hb⟩; refine ⟨_, rfl, ?_⟩; have n0_ := am (Kd.R_below aq60 hb); have n1_ := am (Kd.R_lower ho0 (below_size aq9)); have n2_ := am (blk_below (g := gb108) (o := .cells #[.int .i64 t101, .int .i64 t102, .slice Ao16 t103.length co16] 62 (0, 0)) aq42 hb); have n3_ := am (below_step aq9 hb); clear HO105; clear BK108; clear HB; have HO105 := n0_; have HO111 := n1_; have BK108 := n2_; have HB := n3_; clear n0_ n1_ n2_ n3_; (try clear hb); (try clear hb2); (try clear hk); (try clear hi); (try clear ho0); obtain ⟨Ao18, co18, eo18⟩ := Kd.R_slice HO111.out; subst eo18))
   go_loopg [10, 33] k (fun kq v10 v33 w' => ∃ (x10_1 : List ByteArray) (x33_1 : Int), v33 = .int .i64 x33_1 ∧ Aside0 (spec_AllStill.l0 kq x10_1 t109 (t109.length : Int) x33_1 = some (r1, r2)) ∧ Aside0 (kq ≤ k) ∧ Aside0 (Kd.R Kd.string 9 w' w.heap.size (fun k_ => some k_ ≠ ((.slice Ao18 t109.length co18) : Value).ownBlock) v10 x10_1) ∧ Aside0 (Kd.R Kd.string 9 w' w.heap.size (fun k_ => some k_ ≠ (v10 : Value).ownBlock) (.slice Ao18 t109.length co18) t109) ∧ Aside0 (Kd.R (Kd.int .u8) 5 w' w.heap.size (fun _ => True) (.slice Ao16 t103.length co16) t103) ∧ Aside0 (w'.heap[gb108]? = some (.cells #[.int .i64 t101, .int .i64 t102, (.slice Ao16 t103.length co16)] 62 (0, 0))) ∧ Aside0 (Below w.heap.size w w'))
   case atStart => exact ⟨(([] : List ByteArray)), (0), aq6, H', ⟨Nat.le_refl _⟩, ⟨aq17⟩, ⟨by (with_reducible repeat (first | apply Kd.R_alloc | apply Kd.R_drewN | apply Kd.R_drew)); exact Kd.R_mono HO111.out (fun _ hk => (by simp [Value.ownBlock]))⟩, ⟨aq49⟩, ⟨aq15⟩, ⟨aq9⟩⟩
   case round =>
    clear H'
    try clear p2
    try clear c4
    try clear c6
    try clear c6b0
    try clear c6b1
    try clear c9
    try clear hcz15_0
    try clear hcz15_1
    try clear hcz15_2
    try clear hcz9_0
    try clear hcz9_1
    try clear hcz9_2
    try clear hfz15_0
    try clear hfz15_1
    try clear hfz15_2
    try clear hfz9_0
    try clear hfz9_1
    try clear hfz9_2
    obtain ⟨x10_1, x33_1, rfl, HA, HK1, HO_10, HO_31, HO_109002, BK108, HB⟩ := hrel
    cases gk with
    | zero => exact absurd HA.out (by simp [spec_AllStill.l0])
    | succ k1 =>
     have H := HA.out
     clear HA
     simp only [spec_AllStill.l0] at H
     by_cases c19 : x33_1 < (t109.length : Int)
     ·rw [if_pos c19] at H
      have c19b0 := decide_eq_true c19
      clear c19
      by_cases c20 : 0 ≤ x33_1
      ·rw [if_pos c20] at H
       have c20b0 := decide_eq_true c20
       clear c20
       by_cases c21 : x33_1 < (t109.length : Int)
       ·rw [if_pos c21] at H
        have c21b0 := decide_eq_true c21
        clear c21
        have H' := am H
        clear H
        have p112 : 0 ≤ (x33_1 : Int) := of_decide_eq_true aq5
        have q112 : x33_1 < (t109.length : Int) := of_decide_eq_true aq5
        obtain ⟨ad112, e112, hx112_0⟩ := Kd.at_string (Kd.R_reads' HO_31.out).2.2 x33_1 p112 q112
        cases e112
        replace p112 := eq_true p112
        replace q112 := eq_true q112
        go_wp2
        go_loopg [13] k1 (fun kq v13 w' => ∃ (x13_2 : Int), v13 = .int .i64 x13_2 ∧ Aside0 (spec_AllStill.l1 kq x10_1 (rdOf ByteArray.empty t109 x33_1) x13_2 t109 (t109.length : Int) x33_1 = some (r1, r2)) ∧ Aside0 (kq ≤ k1) ∧ Aside0 (Kd.R Kd.string 9 w' w.heap.size (fun k_ => some k_ ≠ ((.slice (some ad112) t109.length co18) : Value).ownBlock) u10 x10_1) ∧ Aside0 (Kd.R Kd.string 9 w' w.heap.size (fun k_ => some k_ ≠ (u10 : Value).ownBlock) (.slice (some ad112) t109.length co18) t109) ∧ Aside0 (Kd.R (Kd.int .u8) 5 w' w.heap.size (fun _ => True) (.slice Ao16 t103.length co16) t103) ∧ Aside0 (w'.heap[gb108]? = some (.cells #[.int .i64 t101, .int .i64 t102, (.slice Ao16 t103.length co16)] 62 (0, 0))) ∧ Aside0 (Below w.heap.size w w'))
        case atStart => exact ⟨(0), aq6, H', ⟨Nat.le_refl _⟩, ⟨aq11⟩, ⟨aq20⟩, ⟨aq18⟩, ⟨aq15⟩, ⟨aq9⟩⟩
        case round =>
         clear H'
         try clear c1
         try clear p1
         try clear q1
         try clear hx1
         try clear c2
         try clear p2
         try clear c4
         try clear c6
         try clear c6b0
         try clear c6b1
         try clear c9
         try clear p11
         try clear q11
         try clear hx11
         try clear c19
         try clear c19b0
         try clear c20
         try clear c20b0
         try clear c21
         try clear c21b0
         try clear hcz15_0
         try clear hcz15_1
         try clear hcz15_2
         try clear hcz9_0
         try clear hcz9_1
         try clear hcz9_2
         try clear hfz15_0
         try clear hfz15_1
         try clear hfz15_2
         try clear hfz9_0
         try clear hfz9_1
         try clear hfz9_2
         try clear hx112_0
         try clear p112
         try clear p2
         try clear q112
         obtain ⟨x13_2, rfl, HA, HK2, HO_10, HO_31, HO_109002, BK108, HB⟩ := hrel
         cases gk with
         | zero => exact absurd HA.out (by simp [spec_AllStill.l1])
         | succ k2 =>
          have H := HA.out
          clear HA
          simp only [spec_AllStill.l1] at H
          by_cases c22 : x13_2 < (x10_1.length : Int)
          ·rw [if_pos c22] at H
           have c22b0 := decide_eq_true c22
           clear c22
           by_cases c23 : 0 ≤ x13_2
           ·rw [if_pos c23] at H
            have c23b0 := decide_eq_true c23
            clear c23
            by_cases c24 : (Op.bytesLess ((rdOf ByteArray.empty x10_1 x13_2).toList) (rdOf ByteArray.empty t109 x33_1).toList) = true
            ·rw [if_pos c24] at H
             have c24b0 : (Op.bytesLess ((rdOf ByteArray.empty x10_1 x13_2).toList) (rdOf ByteArray.empty t109 x33_1).toList) = true := c24
             clear c24
             have H' := am H
             clear H
             obtain ⟨Ao25, co25, eo25⟩ := Kd.R_slice HO_10.out
             subst eo25
             have p113 : 0 ≤ (x13_2 : Int) := of_decide_eq_true aq5
             have q113 : x13_2 < (x10_1.length : Int) := of_decide_eq_true aq5
             obtain ⟨ad113, e113, hx113_0⟩ := Kd.at_string (Kd.R_reads' HO_10.out).2.2 x13_2 p113 q113
             cases e113
             replace p113 := eq_true p113
             replace q113 := eq_true q113
             go_wp2
             go_roundg k2
             case measure => have := HK1.out; have := HK2.out; omega
             case rel => exact ⟨(wrap64 (x13_2 + 1)), aq6, H', ⟨aq64⟩, ⟨aq11⟩, ⟨aq20⟩, ⟨aq18⟩, ⟨aq15⟩, ⟨aq9⟩⟩
            ·rw [if_neg c24] at H
             have c24b0 : (Op.bytesLess ((rdOf ByteArray.empty x10_1 x13_2).toList) (rdOf ByteArray.empty t109 x33_1).toList) = false := by simpa using c24
             clear c24
             obtain ⟨y114, hy_⟩ : ∃ y_ : List ByteArray, y_ = (([] : List ByteArray)) := ⟨_, rfl⟩
             replace H : (if x13_2 ≤ (x10_1.length : Int) then ((some (x10_1.take (x13_2 : Int).toNat : List ByteArray)).bind fun y117 => (if y114.length + y117.length < 8796093022208 then ((some (y114 ++ y117 : List ByteArray)).bind fun y121 => (if y121.length < 8796093022208 then ((some (y121 ++ [(rdOf ByteArray.empty t109 x33_1)] : List ByteArray)).bind fun y124 => ((some (x10_1.drop (x13_2 : Int).toNat : List ByteArray)).bind fun y127 => (if y124.length + y127.length < 8796093022208 then (spec_AllStill.l0 k2 (y124 ++ y127) t109 (t109.length : Int) (wrap64 (x33_1 + 1))) else (none)))) else (none))) else (none))) else (none)) = some (r1, r2) := aq3
             have Ny114 := am hy_
             clear hy_
             have c26b0 := eq_true (of_decide_eq_true aq5 : 0 ≤ x13_2)
             by_cases c27 : x13_2 ≤ (x10_1.length : Int)
             ·rw [if_pos c27] at H
              have c27b0 := eq_true c27
              have c27b1 := decide_eq_true c27
              clear c27
              obtain ⟨y117, hy_⟩ : ∃ y_ : List ByteArray, y_ = (x10_1.take (x13_2 : Int).toNat) := ⟨_, rfl⟩
              replace H : (if y114.length + y117.length < 8796093022208 then ((some (y114 ++ y117 : List ByteArray)).bind fun y121 => (if y121.length < 8796093022208 then ((some (y121 ++ [(rdOf ByteArray.empty t109 x33_1)] : List ByteArray)).bind fun y124 => ((some (x10_1.drop (x13_2 : Int).toNat : List ByteArray)).bind fun y127 => (if y124.length + y127.length < 8796093022208 then (spec_AllStill.l0 k2 (y124 ++ y127) t109 (t109.length : Int) (wrap64 (x33_1 + 1))) else (none)))) else (none))) else (none)) = some (r1, r2) := aq3
              have Ny117 := am hy_
              clear hy_
              by_cases c28 : y114.length + y117.length < 8796093022208
              ·rw [if_pos c28] at H
               have LMc28 := am c28
               clear c28
               obtain ⟨y121, hy_⟩ : ∃ y_ : List ByteArray, y_ = (y114 ++ y117) := ⟨_, rfl⟩
               replace H : (if y121.length < 8796093022208 then ((some (y121 ++ [(rdOf ByteArray.empty t109 x33_1)] : List ByteArray)).bind fun y124 => ((some (x10_1.drop (x13_2 : Int).toNat : List ByteArray)).bind fun y127 => (if y124.length + y127.length < 8796093022208 then (spec_AllStill.l0 k2 (y124 ++ y127) t109 (t109.length : Int) (wrap64 (x33_1 + 1))) else (none)))) else (none)) = some (r1, r2) := aq3
               have Ny121 := am hy_
               clear hy_
               by_cases c29 : y121.length < 8796093022208
               ·rw [if_pos c29] at H
                have LMc29 := am c29
                clear c29
                obtain ⟨y124, hy_⟩ : ∃ y_ : List ByteArray, y_ = (y121 ++ [(rdOf ByteArray.empty t109 x33_1)]) := ⟨_, rfl⟩
                replace H : ((some (x10_1.drop (x13_2 : Int).toNat : List ByteArray)).bind fun y127 => (if y124.length + y127.length < 8796093022208 then (spec_AllStill.l0 k2 (y124 ++ y127) t109 (t109.length : Int) (wrap64 (x33_1 + 1))) else (none))) = some (r1, r2) := aq3
                have Ny124 := am hy_
                clear hy_
                have c30b0 := eq_true (of_decide_eq_true aq5 : 0 ≤ x13_2)
                have c31b0 := eq_true (of_decide_eq_true aq5 : x13_2 ≤ (x10_1.length : Int))
                obtain ⟨y127, hy_⟩ : ∃ y_ : List ByteArray, y_ = (x10_1.drop (x13_2 : Int).toNat) := ⟨_, rfl⟩
                replace H : (if y124.length + y127.length < 8796093022208 then (spec_AllStill.l0 k2 (y124 ++ y127) t109 (t109.length : Int) (wrap64 (x33_1 + 1))) else (none)) = some (r1, r2) := aq3
                have Ny127 := am hy_
                clear hy_
                by_cases c32 : y124.length + y127.length < 8796093022208
                ·rw [if_pos c32] at H
                 have LMc32 := am c32
                 clear c32
                 obtain ⟨y131, hy_⟩ : ∃ y_ : List ByteArray, y_ = (y124 ++ y127) := ⟨_, rfl⟩
                 replace H : (spec_AllStill.l0 k2 y131 t109 (t109.length : Int) (wrap64 (x33_1 + 1))) = some (r1, r2) := aq3
                 have Ny131 := am hy_
                 clear hy_
                 have H' := am H
                 clear H
                 obtain ⟨Ao33, co33, eo33⟩ := Kd.R_slice HO_10.out
                 subst eo33
                 have p113 : 0 ≤ (x13_2 : Int) := of_decide_eq_true aq5
                 have q113 : x13_2 < (x10_1.length : Int) := of_decide_eq_true aq5
                 obtain ⟨ad113, e113, hx113_0⟩ := Kd.at_string (Kd.R_reads' HO_10.out).2.2 x13_2 p113 q113
                 cases e113
                 replace p113 := eq_true p113
                 replace q113 := eq_true q113
                 go_wp2_with (first | ((with_reducible refine gate_dst (N := 51) rfl ?_); refine Kd.R_lit Kd.string _ 9 ?hg (N := 51) ?hd (xs := ([] : List ByteArray)) (inner := []) (ok := fun _ => True) (okp := fun _ => True) ?hr ?hp (fun _ hk => hk) trivial (Below.refl _ _) (Nat.le_refl _) (by simp) ?_; (case hd => rfl); (case hg => rfl); (case hr => exact aq19); (case hp => exact aq102); intro v115 w34 ho35 hb hg_ hnew_; clear hg_ hnew_; (first | rw [← Ny114.out] at ho35 | (simp only [Int.reduceToNat] at ho35; rw [← Ny114.out] at ho35)); have n0_ := am (Kd.R_elder' aq11 (Kd.R_base ho35) hb); have n1_ := am (Kd.R_elder' aq20 (Kd.R_base ho35) hb); have n2_ := am (Kd.R_below aq18 hb); have n3_ := am (Kd.R_lower (Kd.R_new' (Kd.R_new' ho35 (Kd.R_lt aq11)) (Kd.R_lt aq20)) (below_size aq9)); have n4_ := am (blk_below (g := gb108) (o := .cells #[.int .i64 t101, .int .i64 t102, .slice Ao16 t103.length co16] 62 (0, 0)) aq15 hb); have n5_ := am (below_step aq9 hb); clear HO_10; clear HO_31; clear HO_109002; clear BK108; clear HB; have HO_10 := n0_; have HO_31 := n1_; have HO_109002 := n2_; have HO116 := n3_; have BK108 := n4_; have HB := n5_; clear n0_ n1_ n2_ n3_ n4_ n5_; clear hb ho35; have q36 : (x13_2 : Int) ≤ ((x10_1.length : Int) : Int) := of_decide_eq_true aq5; obtain ⟨i036, hi036, _, hsz36, _⟩ := info_parts info9; have hroom36 : x10_1.length ≤ co33 := (Kd.R_reads' HO_10.out).2.1; have hC36 : Kd.C Kd.string _ (some ad113) x10_1.length x10_1 := (Kd.R_reads' HO_10.out).2.2; have hcut36 := cut_to (P := Tryz.prog) 22 9 .i64 Tryz.underlying22 hi036 (some ad113) x10_1.length co33 x13_2 (of_decide_eq_true aq5) q36 hroom36; have hr36 := Kd.C_take (m := (x13_2 : Int).toNat) hC36 (by omega); have hy36 : y117.length = (x13_2 : Int).toNat := (by rw [Ny117.out, List.length_take]; omega); rw [← Ny117.out] at hr36; rw [← hy36] at hcut36; have HR120 := am hr36; have HC120 := am (show y117.length ≤ co33 from by omega); clear hr36 hC36 hroom36 hi036 hsz36; have KY36 := am hy36; clear hy36; have KL36 := am (show (x13_2 : Int).toNat ≤ x10_1.length from by omega); replace q36 := eq_true q36) | ((with_reducible refine gate_builtin (b := .append) (xs := #[.tmp 51, .tmp 54]) rfl ?_); at_builtin; refine Kd.R_append_rows Kd.string (w0 := w) w.heap.size rfl (.tmp 51) (.tmp 54) 22 9 (.string ⟨#[]⟩) 16 rfl Tryz.underlying22 info9 rfl (by decide) (by omega) v115 y114 y117 _ _ _ (fun k_ => some k_ ≠ (.slice (some ad113) x10_1.length co33 : Value).ownBlock ∧ some k_ ≠ (.slice (some ad112) t109.length co18 : Value).ownBlock) (fun _ => False) rfl rfl ?aO ?aR (fun _ _ h => h) (fun _ h => h.elim) ?aF ?aB ?aS ?aL ?_; (case aR => repeat (first | exact (by repeat (first | (with_reducible exact HR120.out) | (with_reducible refine Kd.C_alloc ?_ _) | (with_reducible refine Kd.C_drewN ?_ _) | (with_reducible refine Kd.C_drew ?_) | exact HR120.out)) | (with_reducible refine Kd.C_alloc ?_ _) | (with_reducible refine Kd.C_drewN ?_ _) | (with_reducible refine Kd.C_drew ?_))); (case aB => exact aq9); (case aF => exact aq66); (case aO => exact (by (with_reducible repeat (first | apply Kd.R_alloc | apply Kd.R_drewN | apply Kd.R_drew)); exact Kd.R_mono HO116.out (fun _ hk => ⟨hk.1.2, hk.2⟩))); (case aS => exact (below_size aq9)); (case aL => have := LMc28.out; omega); intro v122 w37 ho hb hg hat; rw [← Ny121.out] at ho; have n0_ := am (Kd.R_after (ok := (fun k_ => some k_ ≠ (.slice (some ad112) t109.length co18 : Value).ownBlock)) aq11 hg hat); have n1_ := am (Kd.R_after (ok := (fun k_ => some k_ ≠ (.slice (some ad113) x10_1.length co33 : Value).ownBlock)) aq20 hg hat); have n2_ := am (Kd.R_over' aq18 (Kd.R_typed (by (with_reducible repeat (first | apply Kd.R_alloc | apply Kd.R_drewN | apply Kd.R_drew)); exact HO116.out)) (by decide) hg); have n3_ := am (blk_grown (g := gb108) (o := .cells #[.int .i64 t101, .int .i64 t102, .slice Ao16 t103.length co16] 62 (0, 0)) aq15 hg (Kd.R_ne HO116.out BK108.out (by decide))); have n4_ := am (hb); have n5_ := am ((show Kd.C Kd.string w37 (some ad113) y117.length y117 from by rw [Ny117.out]; exact Kd.C_take (m := (x13_2 : Int).toNat) ((Kd.R_reads' (Kd.R_after (ok := (fun k_ => some k_ ≠ (.slice (some ad112) t109.length co18 : Value).ownBlock)) aq11 hg hat)).2.2) KL36.out)); have n6_ := am (ho); clear HO_10; clear HO_31; clear HO_109002; clear BK108; clear HB; clear HR120; clear HO116; have HO_10 := n0_; have HO_31 := n1_; have HO_109002 := n2_; have BK108 := n3_; have HB := n4_; have HR120 := n5_; have HO123 := n6_; clear n0_ n1_ n2_ n3_ n4_ n5_ n6_; clear ho hb hg hat) | ((with_reducible refine gate_builtin (b := .append) (xs := #[.tmp 55, .tmp 57]) rfl ?_); at_builtin; refine Kd.R_append Kd.string (w0 := w) w.heap.size rfl (.tmp 55) (.tmp 57) 22 9 (.string ⟨#[]⟩) 16 rfl Tryz.underlying22 info9 rfl (by decide) (by omega) v122 y121 (rdOf ByteArray.empty t109 x33_1) [.string (rdOf ByteArray.empty t109 x33_1)] (fun k_ => some k_ ≠ (.slice (some ad113) x10_1.length co33 : Value).ownBlock ∧ some k_ ≠ (.slice (some ad112) t109.length co18 : Value).ownBlock) (fun _ => False) rfl rfl ?aP (fun _ hk => hk.elim) ?aF ?aO ?aB ?aS ?aL ?_; (case aP => exact rfl); (case aB => exact aq9); (case aF => exact aq66); (case aO => exact (by (with_reducible repeat (first | apply Kd.R_alloc | apply Kd.R_drewN | apply Kd.R_drew)); exact HO123.out)); (case aS => exact (below_size aq9)); (case aL => have := LMc29.out; omega); intro v125 w38 ho hb hg hat; rw [← Ny124.out] at ho; have n0_ := am (Kd.R_after (ok := (fun k_ => some k_ ≠ (.slice (some ad112) t109.length co18 : Value).ownBlock)) aq11 hg hat); have n1_ := am (Kd.R_after (ok := (fun k_ => some k_ ≠ (.slice (some ad113) x10_1.length co33 : Value).ownBlock)) aq20 hg hat); have n2_ := am (Kd.R_over' aq18 (Kd.R_typed (by (with_reducible repeat (first | apply Kd.R_alloc | apply Kd.R_drewN | apply Kd.R_drew)); exact HO123.out)) (by decide) hg); have n3_ := am (blk_grown (g := gb108) (o := .cells #[.int .i64 t101, .int .i64 t102, .slice Ao16 t103.length co16] 62 (0, 0)) aq15 hg (Kd.R_ne HO123.out BK108.out (by decide))); have n4_ := am (hb); have n5_ := am ((show Kd.C Kd.string w38 (some ad113) y117.length y117 from by rw [Ny117.out]; exact Kd.C_take (m := (x13_2 : Int).toNat) ((Kd.R_reads' (Kd.R_after (ok := (fun k_ => some k_ ≠ (.slice (some ad112) t109.length co18 : Value).ownBlock)) aq11 hg hat)).2.2) KL36.out)); have n6_ := am (ho); clear HO_10; clear HO_31; clear HO_109002; clear BK108; clear HB; clear HR120; clear HO123; have HO_10 := n0_; have HO_31 := n1_; have HO_109002 := n2_; have BK108 := n3_; have HB := n4_; have HR120 := n5_; have HO126 := n6_; clear n0_ n1_ n2_ n3_ n4_ n5_ n6_; clear ho hb hg hat; have q39 : (x13_2 : Int) ≤ ((x10_1.length : Int) : Int) := of_decide_eq_true aq5; obtain ⟨i039, hi039, _, hsz39, _⟩ := info_parts info9; have hroom39 : x10_1.length ≤ co33 := (Kd.R_reads' HO_10.out).2.1; have hC39 : Kd.C Kd.string _ (some ad113) x10_1.length x10_1 := (Kd.R_reads' HO_10.out).2.2; have q039 : (0 : Int) ≤ (x13_2 : Int) := of_decide_eq_true aq5; have hcut39 := cut_from (P := Tryz.prog) 22 9 .i64 Tryz.underlying22 hi039 1 hsz39 (some ad113) x10_1.length co33 x13_2 q039 q39; have hr39 := Kd.C_drop (m := (x13_2 : Int).toNat) (c := co33) hC39 (by omega) hroom39; obtain ⟨A39, hA39⟩ : ∃ A1, A1 = (if co33 = (x13_2 : Int).toNat then (some ad113) else ((some ad113) : Option Addr).map (·.add ((x13_2 : Int).toNat * 1))) := ⟨_, rfl⟩; obtain ⟨c39, hc39⟩ : ∃ c1, c1 = co33 - (x13_2 : Int).toNat := ⟨_, rfl⟩; have hy39 : y127.length = x10_1.length - (x13_2 : Int).toNat := (by rw [Ny127.out, List.length_drop] <;> omega); rw [show (x10_1).drop (x13_2 : Int).toNat = y127 from Ny127.out.symm] at hr39; replace hr39 : Kd.C Kd.string _ A39 y127.length y127 := (by rw [hA39]; exact hr39); rw [← hy39, ← hA39, ← hc39] at hcut39; have HR130 := am hr39; have HC130 := am (show y127.length ≤ c39 from by rw [hy39, hc39]; exact Nat.sub_le_sub_right hroom39 _); clear hr39 hC39 hroom39 hi039 hsz39 hc39; have KY39 := am hy39; have KA39 := am hA39; clear hy39 hA39; have KL39 := am (show (x13_2 : Int).toNat ≤ x10_1.length from by omega); replace q39 := eq_true q39) | ((with_reducible refine gate_builtin (b := .append) (xs := #[.tmp 59, .tmp 62]) rfl ?_); at_builtin; refine Kd.R_append_rows Kd.string (w0 := w) w.heap.size rfl (.tmp 59) (.tmp 62) 22 9 (.string ⟨#[]⟩) 16 rfl Tryz.underlying22 info9 rfl (by decide) (by omega) v125 y124 y127 _ _ _ (fun k_ => some k_ ≠ (.slice (some ad113) x10_1.length co33 : Value).ownBlock ∧ some k_ ≠ (.slice (some ad112) t109.length co18 : Value).ownBlock) (fun _ => False) rfl rfl ?aO ?aR (fun _ _ h => h) (fun _ h => h.elim) ?aF ?aB ?aS ?aL ?_; (case aR => repeat (first | exact (by repeat (first | (with_reducible exact HR130.out) | (with_reducible refine Kd.C_alloc ?_ _) | (with_reducible refine Kd.C_drewN ?_ _) | (with_reducible refine Kd.C_drew ?_) | exact HR130.out)) | (with_reducible refine Kd.C_alloc ?_ _) | (with_reducible refine Kd.C_drewN ?_ _) | (with_reducible refine Kd.C_drew ?_))); (case aB => exact aq9); (case aF => exact aq66); (case aO => exact aq78); (case aS => exact (below_size aq9)); (case aL => have := LMc32.out; omega); intro v132 w40 ho hb hg hat; rw [← Ny131.out] at ho; have n0_ := am (Kd.R_after (ok := (fun k_ => some k_ ≠ (.slice (some ad112) t109.length co18 : Value).ownBlock)) aq11 hg hat); have n1_ := am (Kd.R_after (ok := (fun k_ => some k_ ≠ (.slice (some ad113) x10_1.length co33 : Value).ownBlock)) aq20 hg hat); have n2_ := am (Kd.R_over' aq18 (Kd.R_typed aq78) (by decide) hg); have n3_ := am (blk_grown (g := gb108) (o := .cells #[.int .i64 t101, .int .i64 t102, .slice Ao16 t103.length co16] 62 (0, 0)) aq15 hg (Kd.R_ne HO126.out BK108.out (by decide))); have n4_ := am (hb); have n5_ := am ((show Kd.C Kd.string w40 (some ad113) y117.length y117 from by rw [Ny117.out]; exact Kd.C_take (m := (x13_2 : Int).toNat) ((Kd.R_reads' (Kd.R_after (ok := (fun k_ => some k_ ≠ (.slice (some ad112) t109.length co18 : Value).ownBlock)) aq11 hg hat)).2.2) KL36.out)); have n6_ := am ((show Kd.C Kd.string w40 A39 y127.length y127 from by rw [Ny127.out, KA39.out]; exact Kd.C_drop (m := (x13_2 : Int).toNat) (c := co33) ((Kd.R_reads' (Kd.R_after (ok := (fun k_ => some k_ ≠ (.slice (some ad112) t109.length co18 : Value).ownBlock)) aq11 hg hat)).2.2) KL39.out ((Kd.R_reads' (Kd.R_after (ok := (fun k_ => some k_ ≠ (.slice (some ad112) t109.length co18 : Value).ownBlock)) aq11 hg hat)).2.1))); have n7_ := am (ho); clear HO_10; clear HO_31; clear HO_109002; clear BK108; clear HB; clear HR120; clear HR130; clear HO126; have HO_10 := n0_; have HO_31 := n1_; have HO_109002 := n2_; have BK108 := n3_; have HB := n4_; have HR120 := n5_; have HR130 := n6_; have HO133 := n7_; clear n0_ n1_ n2_ n3_ n4_ n5_ n6_ n7_; clear ho hb hg hat))
                 go_roundg k2
                 case measure => have := HK1.out; have := HK2.out; omega
                 case rel => exact ⟨(y131), (wrap64 (x33_1 + 1)), aq6, H', ⟨aq64⟩, ⟨by (with_reducible repeat (first | apply Kd.R_alloc | apply Kd.R_drewN | apply Kd.R_drew)); exact Kd.R_mono HO133.out (fun _ hk => hk.2)⟩, ⟨aq98⟩, ⟨aq18⟩, ⟨aq15⟩, ⟨aq9⟩⟩
                ·rw [if_neg c32] at H
                 exact absurd H (by simp)
               ·rw [if_neg c29] at H
                exact absurd H (by simp)
              ·rw [if_neg c28] at H
               exact absurd H (by simp)
             ·rw [if_neg c27] at H
              exact absurd H (by simp)
           ·rw [if_neg c23] at H
            exact absurd H (by simp)
          ·rw [if_neg c22] at H
           have c22b0 := decide_eq_false c22
           clear c22
           obtain ⟨y134, hy_⟩ : ∃ y_ : List ByteArray, y_ = (([] : List ByteArray)) := ⟨_, rfl⟩
           replace H : (if 0 ≤ x13_2 then (if x13_2 ≤ (x10_1.length : Int) then ((some (x10_1.take (x13_2 : Int).toNat : List ByteArray)).bind fun y137 => (if y134.length + y137.length < 8796093022208 then ((some (y134 ++ y137 : List ByteArray)).bind fun y141 => (if y141.length < 8796093022208 then ((some (y141 ++ [(rdOf ByteArray.empty t109 x33_1)] : List ByteArray)).bind fun y144 => ((some (x10_1.drop (x13_2 : Int).toNat : List ByteArray)).bind fun y147 => (if y144.length + y147.length < 8796093022208 then (spec_AllStill.l0 k2 (y144 ++ y147) t109 (t109.length : Int) (wrap64 (x33_1 + 1))) else (none)))) else (none))) else (none))) else (none)) else (none)) = some (r1, r2) := aq3
           have Ny134 := am hy_
           clear hy_
           by_cases c41 : 0 ≤ x13_2
           ·rw [if_pos c41] at H
            have c41b0 := eq_true c41
            have c41b1 := decide_eq_true c41
            clear c41
            by_cases c42 : x13_2 ≤ (x10_1.length : Int)
            ·rw [if_pos c42] at H
             have c42b0 := eq_true c42
             have c42b1 := decide_eq_true c42
             clear c42
             obtain ⟨y137, hy_⟩ : ∃ y_ : List ByteArray, y_ = (x10_1.take (x13_2 : Int).toNat) := ⟨_, rfl⟩
             replace H : (if y134.length + y137.length < 8796093022208 then ((some (y134 ++ y137 : List ByteArray)).bind fun y141 => (if y141.length < 8796093022208 then ((some (y141 ++ [(rdOf ByteArray.empty t109 x33_1)] : List ByteArray)).bind fun y144 => ((some (x10_1.drop (x13_2 : Int).toNat : List ByteArray)).bind fun y147 => (if y144.length + y147.length < 8796093022208 then (spec_AllStill.l0 k2 (y144 ++ y147) t109 (t109.length : Int) (wrap64 (x33_1 + 1))) else (none)))) else (none))) else (none)) = some (r1, r2) := aq3
             have Ny137 := am hy_
             clear hy_
             by_cases c43 : y134.length + y137.length < 8796093022208
             ·rw [if_pos c43] at H
              have LMc43 := am c43
              clear c43
              obtain ⟨y141, hy_⟩ : ∃ y_ : List ByteArray, y_ = (y134 ++ y137) := ⟨_, rfl⟩
              replace H : (if y141.length < 8796093022208 then ((some (y141 ++ [(rdOf ByteArray.empty t109 x33_1)] : List ByteArray)).bind fun y144 => ((some (x10_1.drop (x13_2 : Int).toNat : List ByteArray)).bind fun y147 => (if y144.length + y147.length < 8796093022208 then (spec_AllStill.l0 k2 (y144 ++ y147) t109 (t109.length : Int) (wrap64 (x33_1 + 1))) else (none)))) else (none)) = some (r1, r2) := aq3
              have Ny141 := am hy_
              clear hy_
              by_cases c44 : y141.length < 8796093022208
              ·rw [if_pos c44] at H
               have LMc44 := am c44
               clear c44
               obtain ⟨y144, hy_⟩ : ∃ y_ : List ByteArray, y_ = (y141 ++ [(rdOf ByteArray.empty t109 x33_1)]) := ⟨_, rfl⟩
               replace H : ((some (x10_1.drop (x13_2 : Int).toNat : List ByteArray)).bind fun y147 => (if y144.length + y147.length < 8796093022208 then (spec_AllStill.l0 k2 (y144 ++ y147) t109 (t109.length : Int) (wrap64 (x33_1 + 1))) else (none))) = some (r1, r2) := aq3
               have Ny144 := am hy_
               clear hy_
               have c45b0 := eq_true (of_decide_eq_true aq5 : 0 ≤ x13_2)
               have c46b0 := eq_true (of_decide_eq_true aq5 : x13_2 ≤ (x10_1.length : Int))
               obtain ⟨y147, hy_⟩ : ∃ y_ : List ByteArray, y_ = (x10_1.drop (x13_2 : Int).toNat) := ⟨_, rfl⟩
               replace H : (if y144.length + y147.length < 8796093022208 then (spec_AllStill.l0 k2 (y144 ++ y147) t109 (t109.length : Int) (wrap64 (x33_1 + 1))) else (none)) = some (r1, r2) := aq3
               have Ny147 := am hy_
               clear hy_
               by_cases c47 : y144.length + y147.length < 8796093022208
               ·rw [if_pos c47] at H
                have LMc47 := am c47
                clear c47
                obtain ⟨y151, hy_⟩ : ∃ y_ : List ByteArray, y_ = (y144 ++ y147) := ⟨_, rfl⟩
                replace H : (spec_AllStill.l0 k2 y151 t109 (t109.length : Int) (wrap64 (x33_1 + 1))) = some (r1, r2) := aq3
                have Ny151 := am hy_
                clear hy_
                have H' := am H
                clear H
                obtain ⟨Ao48, co48, eo48⟩ := Kd.R_slice HO_10.out
                subst eo48
                go_wp2_with (first | ((with_reducible refine gate_dst (N := 51) rfl ?_); refine Kd.R_lit Kd.string _ 9 ?hg (N := 51) ?hd (xs := ([] : List ByteArray)) (inner := []) (ok := fun _ => True) (okp := fun _ => True) ?hr ?hp (fun _ hk => hk) trivial (Below.refl _ _) (Nat.le_refl _) (by simp) ?_; (case hd => rfl); (case hg => rfl); (case hr => exact aq19); (case hp => exact aq102); intro v135 w49 ho50 hb hg_ hnew_; clear hg_ hnew_; (first | rw [← Ny134.out] at ho50 | (simp only [Int.reduceToNat] at ho50; rw [← Ny134.out] at ho50)); have n0_ := am (Kd.R_elder' aq11 (Kd.R_base ho50) hb); have n1_ := am (Kd.R_elder' aq20 (Kd.R_base ho50) hb); have n2_ := am (Kd.R_below aq18 hb); have n3_ := am (Kd.R_lower (Kd.R_new' (Kd.R_new' ho50 (Kd.R_lt aq11)) (Kd.R_lt aq20)) (below_size aq9)); have n4_ := am (blk_below (g := gb108) (o := .cells #[.int .i64 t101, .int .i64 t102, .slice Ao16 t103.length co16] 62 (0, 0)) aq15 hb); have n5_ := am (below_step aq9 hb); clear HO_10; clear HO_31; clear HO_109002; clear BK108; clear HB; have HO_10 := n0_; have HO_31 := n1_; have HO_109002 := n2_; have HO136 := n3_; have BK108 := n4_; have HB := n5_; clear n0_ n1_ n2_ n3_ n4_ n5_; clear hb ho50; have q51 : (x13_2 : Int) ≤ ((x10_1.length : Int) : Int) := of_decide_eq_true aq5; obtain ⟨i051, hi051, _, hsz51, _⟩ := info_parts info9; have hroom51 : x10_1.length ≤ co48 := (Kd.R_reads' HO_10.out).2.1; have hC51 : Kd.C Kd.string _ Ao48 x10_1.length x10_1 := (Kd.R_reads' HO_10.out).2.2; have hcut51 := cut_to (P := Tryz.prog) 22 9 .i64 Tryz.underlying22 hi051 Ao48 x10_1.length co48 x13_2 (of_decide_eq_true aq5) q51 hroom51; have hr51 := Kd.C_take (m := (x13_2 : Int).toNat) hC51 (by omega); have hy51 : y137.length = (x13_2 : Int).toNat := (by rw [Ny137.out, List.length_take]; omega); rw [← Ny137.out] at hr51; rw [← hy51] at hcut51; have HR140 := am hr51; have HC140 := am (show y137.length ≤ co48 from by omega); clear hr51 hC51 hroom51 hi051 hsz51; have KY51 := am hy51; clear hy51; have KL51 := am (show (x13_2 : Int).toNat ≤ x10_1.length from by omega); replace q51 := eq_true q51) | ((with_reducible refine gate_builtin (b := .append) (xs := #[.tmp 51, .tmp 54]) rfl ?_); at_builtin; refine Kd.R_append_rows Kd.string (w0 := w) w.heap.size rfl (.tmp 51) (.tmp 54) 22 9 (.string ⟨#[]⟩) 16 rfl Tryz.underlying22 info9 rfl (by decide) (by omega) v135 y134 y137 _ _ _ (fun k_ => some k_ ≠ (.slice Ao48 x10_1.length co48 : Value).ownBlock ∧ some k_ ≠ (.slice (some ad112) t109.length co18 : Value).ownBlock) (fun _ => False) rfl rfl ?aO ?aR (fun _ _ h => h) (fun _ h => h.elim) ?aF ?aB ?aS ?aL ?_; (case aR => repeat (first | exact (by repeat (first | (with_reducible exact HR140.out) | (with_reducible refine Kd.C_alloc ?_ _) | (with_reducible refine Kd.C_drewN ?_ _) | (with_reducible refine Kd.C_drew ?_) | exact HR140.out)) | (with_reducible refine Kd.C_alloc ?_ _) | (with_reducible refine Kd.C_drewN ?_ _) | (with_reducible refine Kd.C_drew ?_))); (case aB => exact aq9); (case aF => exact aq66); (case aO => exact (by (with_reducible repeat (first | apply Kd.R_alloc | apply Kd.R_drewN | apply Kd.R_drew)); exact Kd.R_mono HO136.out (fun _ hk => ⟨hk.1.2, hk.2⟩))); (case aS => exact (below_size aq9)); (case aL => have := LMc43.out; omega); intro v142 w52 ho hb hg hat; rw [← Ny141.out] at ho; have n0_ := am (Kd.R_after (ok := (fun k_ => some k_ ≠ (.slice (some ad112) t109.length co18 : Value).ownBlock)) aq11 hg hat); have n1_ := am (Kd.R_after (ok := (fun k_ => some k_ ≠ (.slice Ao48 x10_1.length co48 : Value).ownBlock)) aq20 hg hat); have n2_ := am (Kd.R_over' aq18 (Kd.R_typed (by (with_reducible repeat (first | apply Kd.R_alloc | apply Kd.R_drewN | apply Kd.R_drew)); exact HO136.out)) (by decide) hg); have n3_ := am (blk_grown (g := gb108) (o := .cells #[.int .i64 t101, .int .i64 t102, .slice Ao16 t103.length co16] 62 (0, 0)) aq15 hg (Kd.R_ne HO136.out BK108.out (by decide))); have n4_ := am (hb); have n5_ := am ((show Kd.C Kd.string w52 Ao48 y137.length y137 from by rw [Ny137.out]; exact Kd.C_take (m := (x13_2 : Int).toNat) ((Kd.R_reads' (Kd.R_after (ok := (fun k_ => some k_ ≠ (.slice (some ad112) t109.length co18 : Value).ownBlock)) aq11 hg hat)).2.2) KL51.out)); have n6_ := am (ho); clear HO_10; clear HO_31; clear HO_109002; clear BK108; clear HB; clear HR140; clear HO136; have HO_10 := n0_; have HO_31 := n1_; have HO_109002 := n2_; have BK108 := n3_; have HB := n4_; have HR140 := n5_; have HO143 := n6_; clear n0_ n1_ n2_ n3_ n4_ n5_ n6_; clear ho hb hg hat) | ((with_reducible refine gate_builtin (b := .append) (xs := #[.tmp 55, .tmp 57]) rfl ?_); at_builtin; refine Kd.R_append Kd.string (w0 := w) w.heap.size rfl (.tmp 55) (.tmp 57) 22 9 (.string ⟨#[]⟩) 16 rfl Tryz.underlying22 info9 rfl (by decide) (by omega) v142 y141 (rdOf ByteArray.empty t109 x33_1) [.string (rdOf ByteArray.empty t109 x33_1)] (fun k_ => some k_ ≠ (.slice Ao48 x10_1.length co48 : Value).ownBlock ∧ some k_ ≠ (.slice (some ad112) t109.length co18 : Value).ownBlock) (fun _ => False) rfl rfl ?aP (fun _ hk => hk.elim) ?aF ?aO ?aB ?aS ?aL ?_; (case aP => exact rfl); (case aB => exact aq9); (case aF => exact aq66); (case aO => exact (by (with_reducible repeat (first | apply Kd.R_alloc | apply Kd.R_drewN | apply Kd.R_drew)); exact HO143.out)); (case aS => exact (below_size aq9)); (case aL => have := LMc44.out; omega); intro v145 w53 ho hb hg hat; rw [← Ny144.out] at ho; have n0_ := am (Kd.R_after (ok := (fun k_ => some k_ ≠ (.slice (some ad112) t109.length co18 : Value).ownBlock)) aq11 hg hat); have n1_ := am (Kd.R_after (ok := (fun k_ => some k_ ≠ (.slice Ao48 x10_1.length co48 : Value).ownBlock)) aq20 hg hat); have n2_ := am (Kd.R_over' aq18 (Kd.R_typed (by (with_reducible repeat (first | apply Kd.R_alloc | apply Kd.R_drewN | apply Kd.R_drew)); exact HO143.out)) (by decide) hg); have n3_ := am (blk_grown (g := gb108) (o := .cells #[.int .i64 t101, .int .i64 t102, .slice Ao16 t103.length co16] 62 (0, 0)) aq15 hg (Kd.R_ne HO143.out BK108.out (by decide))); have n4_ := am (hb); have n5_ := am ((show Kd.C Kd.string w53 Ao48 y137.length y137 from by rw [Ny137.out]; exact Kd.C_take (m := (x13_2 : Int).toNat) ((Kd.R_reads' (Kd.R_after (ok := (fun k_ => some k_ ≠ (.slice (some ad112) t109.length co18 : Value).ownBlock)) aq11 hg hat)).2.2) KL51.out)); have n6_ := am (ho); clear HO_10; clear HO_31; clear HO_109002; clear BK108; clear HB; clear HR140; clear HO143; have HO_10 := n0_; have HO_31 := n1_; have HO_109002 := n2_; have BK108 := n3_; have HB := n4_; have HR140 := n5_; have HO146 := n6_; clear n0_ n1_ n2_ n3_ n4_ n5_ n6_; clear ho hb hg hat; have q54 : (x13_2 : Int) ≤ ((x10_1.length : Int) : Int) := of_decide_eq_true aq5; obtain ⟨i054, hi054, _, hsz54, _⟩ := info_parts info9; have hroom54 : x10_1.length ≤ co48 := (Kd.R_reads' HO_10.out).2.1; have hC54 : Kd.C Kd.string _ Ao48 x10_1.length x10_1 := (Kd.R_reads' HO_10.out).2.2; have q054 : (0 : Int) ≤ (x13_2 : Int) := of_decide_eq_true aq5; have hcut54 := cut_from (P := Tryz.prog) 22 9 .i64 Tryz.underlying22 hi054 1 hsz54 Ao48 x10_1.length co48 x13_2 q054 q54; have hr54 := Kd.C_drop (m := (x13_2 : Int).toNat) (c := co48) hC54 (by omega) hroom54; obtain ⟨A54, hA54⟩ : ∃ A1, A1 = (if co48 = (x13_2 : Int).toNat then Ao48 else (Ao48 : Option Addr).map (·.add ((x13_2 : Int).toNat * 1))) := ⟨_, rfl⟩; obtain ⟨c54, hc54⟩ : ∃ c1, c1 = co48 - (x13_2 : Int).toNat := ⟨_, rfl⟩; have hy54 : y147.length = x10_1.length - (x13_2 : Int).toNat := (by rw [Ny147.out, List.length_drop] <;> omega); rw [show (x10_1).drop (x13_2 : Int).toNat = y147 from Ny147.out.symm] at hr54; replace hr54 : Kd.C Kd.string _ A54 y147.length y147 := (by rw [hA54]; exact hr54); rw [← hy54, ← hA54, ← hc54] at hcut54; have HR150 := am hr54; have HC150 := am (show y147.length ≤ c54 from by rw [hy54, hc54]; exact Nat.sub_le_sub_right hroom54 _); clear hr54 hC54 hroom54 hi054 hsz54 hc54; have KY54 := am hy54; have KA54 := am hA54; clear hy54 hA54; have KL54 := am (show (x13_2 : Int).toNat ≤ x10_1.length from by omega); replace q54 := eq_true q54) | ((with_reducible refine gate_builtin (b := .append) (xs := #[.tmp 59, .tmp 62]) rfl ?_); at_builtin; refine Kd.R_append_rows Kd.string (w0 := w) w.heap.size rfl (.tmp 59) (.tmp 62) 22 9 (.string ⟨#[]⟩) 16 rfl Tryz.underlying22 info9 rfl (by decide) (by omega) v145 y144 y147 _ _ _ (fun k_ => some k_ ≠ (.slice Ao48 x10_1.length co48 : Value).ownBlock ∧ some k_ ≠ (.slice (some ad112) t109.length co18 : Value).ownBlock) (fun _ => False) rfl rfl ?aO ?aR (fun _ _ h => h) (fun _ h => h.elim) ?aF ?aB ?aS ?aL ?_; (case aR => repeat (first | exact (by repeat (first | (with_reducible exact HR150.out) | (with_reducible refine Kd.C_alloc ?_ _) | (with_reducible refine Kd.C_drewN ?_ _) | (with_reducible refine Kd.C_drew ?_) | exact HR150.out)) | (with_reducible refine Kd.C_alloc ?_ _) | (with_reducible refine Kd.C_drewN ?_ _) | (with_reducible refine Kd.C_drew ?_))); (case aB => exact aq9); (case aF => exact aq66); (case aO => exact (by (with_reducible repeat (first | apply Kd.R_alloc | apply Kd.R_drewN | apply Kd.R_drew)); exact HO146.out)); (case aS => exact (below_size aq9)); (case aL => have := LMc47.out; omega); intro v152 w55 ho hb hg hat; rw [← Ny151.out] at ho; have n0_ := am (Kd.R_after (ok := (fun k_ => some k_ ≠ (.slice (some ad112) t109.length co18 : Value).ownBlock)) aq11 hg hat); have n1_ := am (Kd.R_after (ok := (fun k_ => some k_ ≠ (.slice Ao48 x10_1.length co48 : Value).ownBlock)) aq20 hg hat); have n2_ := am (Kd.R_over' aq18 (Kd.R_typed (by (with_reducible repeat (first | apply Kd.R_alloc | apply Kd.R_drewN | apply Kd.R_drew)); exact HO146.out)) (by decide) hg); have n3_ := am (blk_grown (g := gb108) (o := .cells #[.int .i64 t101, .int .i64 t102, .slice Ao16 t103.length co16] 62 (0, 0)) aq15 hg (Kd.R_ne HO146.out BK108.out (by decide))); have n4_ := am (hb); have n5_ := am ((show Kd.C Kd.string w55 Ao48 y137.length y137 from by rw [Ny137.out]; exact Kd.C_take (m := (x13_2 : Int).toNat) ((Kd.R_reads' (Kd.R_after (ok := (fun k_ => some k_ ≠ (.slice (some ad112) t109.length co18 : Value).ownBlock)) aq11 hg hat)).2.2) KL51.out)); have n6_ := am ((show Kd.C Kd.string w55 A54 y147.length y147 from by rw [Ny147.out, KA54.out]; exact Kd.C_drop (m := (x13_2 : Int).toNat) (c := co48) ((Kd.R_reads' (Kd.R_after (ok := (fun k_ => some k_ ≠ (.slice (some ad112) t109.length co18 : Value).ownBlock)) aq11 hg hat)).2.2) KL54.out ((Kd.R_reads' (Kd.R_after (ok := (fun k_ => some k_ ≠ (.slice (some ad112) t109.length co18 : Value).ownBlock)) aq11 hg hat)).2.1))); have n7_ := am (ho); clear HO_10; clear HO_31; clear HO_109002; clear BK108; clear HB; clear HR140; clear HR150; clear HO146; have HO_10 := n0_; have HO_31 := n1_; have HO_109002 := n2_; have BK108 := n3_; have HB := n4_; have HR140 := n5_; have HR150 := n6_; have HO153 := n7_; clear n0_ n1_ n2_ n3_ n4_ n5_ n6_ n7_; clear ho hb hg hat))
                go_roundg k2
                case measure => have := HK1.out; have := HK2.out; omega
                case rel => exact ⟨(y151), (wrap64 (x33_1 + 1)), aq6, H', ⟨aq64⟩, ⟨by (with_reducible repeat (first | apply Kd.R_alloc | apply Kd.R_drewN | apply Kd.R_drew)); exact Kd.R_mono HO153.out (fun _ hk => hk.2)⟩, ⟨aq98⟩, ⟨aq18⟩, ⟨aq15⟩, ⟨aq9⟩⟩
               ·rw [if_neg c47] at H
                exact absurd H (by simp)
              ·rw [if_neg c44] at H
               exact absurd H (by simp)
             ·rw [if_neg c43] at H
              exact absurd H (by simp)
            ·rw [if_neg c42] at H
             exact absurd H (by simp)
           ·rw [if_neg c41] at H
            exact absurd H (by simp)
       ·rw [if_neg c21] at H
        exact absurd H (by simp)
      ·rw [if_neg c20] at H
       exact absurd H (by simp)
     ·rw [if_neg c19] at H
      have c19b0 := decide_eq_false c19
      clear c19
      simp only [Option.some.injEq, Prod.mk.injEq] at H
      obtain ⟨rfl, rfl⟩ := H
      go_wp2
      go_ret2
      exact ⟨_, aq8, by (with_reducible repeat (first | apply Kd.R_alloc | apply Kd.R_drewN | apply Kd.R_drew)); exact Kd.R_mono HO_10.out (fun _ hk => trivial), aq9⟩
 ·replace c4 := Bool.eq_false_iff.mpr c4
  subst c4
  rw [if_neg Bool.false_ne_true] at H
  simp only [Option.some.injEq, Prod.mk.injEq] at H
  obtain ⟨rfl, rfl⟩ := H
  go_enter Tryz.func49, Tryz.ntmps49
  go_wp2_with (first | ((with_reducible refine gate_callee (f := 92) rfl ?_); refine goesL_ (some 18) rfl rfl Tryz.func92 (by kernel_rfl) rfl #[.string a0, .string a1] rfl aq4 ?_; (with_reducible refine (spec_cnLooked.calls k a0 a1 t101 t102 t103 t106 false _ A3.out).mono ?_); rintro e w56 ⟨v104, rfl, ho0, hb⟩; refine ⟨_, rfl, ?_⟩; have n0_ := am (Kd.R_lower ho0 (below_size aq1)); have n1_ := am (below_step aq1 hb); clear HB; have HO105 := n0_; have HB := n1_; clear n0_ n1_; (try clear hb); (try clear hb2); (try clear hk); (try clear hi); (try clear ho0)) | ((with_reducible refine gate_dst (N := 6) rfl ?_); refine box_event ?hg (N := 6) ?hd (cs := #[.int .i64 0, .int .i64 0, .slice none 0 0]) (t := 62) ?hr ?_; (case hd => rfl); (case hg => rfl); (case hr => exact aq19); intro gb108 hg w57 hbox hb; have n0_ := am (Kd.R_below aq49 hb); have n1_ := am (below_step aq1 hb); have n2_ := am (hbox); have n3_ := am ((by rw [hg]; exact (below_size aq1) : w.heap.size ≤ gb108)); have n4_ := am ((by rw [hg]; exact (below_size aq1) : w.heap.size ≤ gb108)); clear HO105; clear HB; have HO105 := n0_; have HB := n1_; have BK108 := n2_; have GW108 := n3_; have GE108 := n4_; clear n0_ n1_ n2_ n3_ n4_; clear hb hbox hg; obtain ⟨hcz58_0, hcz58_1, hcz58_2, hfz58_0, hfz58_1, hfz58_2⟩ := blk3_ BK108.out; obtain ⟨Ao59, co59, eo59⟩ := Kd.R_slice HO105.out; subst eo59))
  go_ret2
  exact ⟨_, aq8, aq17, aq9⟩
def impl_AllStill.f (k : Nat) (a0 : ByteArray) (a1 : ByteArray) : Option (List ByteArray × Bool) := (impl_CountCorner.f k a0 a1).bind fun bt101 => (if bt101.2 = true then (if bt101.1 > 200 then (some (([] : List ByteArray), false)) else ((impl_stills.f k a0 a1).bind fun t103 => (some (t103, true)))) else (some (([] : List ByteArray), false)))
theorem impl_AllStill.mono : ∀ a0 a1 k, LeO (impl_AllStill.f k a0 a1) (impl_AllStill.f (k + 1) a0 a1) := by
 intro a0 a1 k
 unfold impl_AllStill.f
 have im0 := @impl_CountCorner.mono; have im1 := @impl_stills.mono; exact mo
set_option maxHeartbeats 8000000 in
set_option maxRecDepth 100000 in
theorem impl_AllStill.calls (k : Nat) (a0 : ByteArray) (a1 : ByteArray) (r1 : List ByteArray) (r2 : Bool) (w : World) (h : impl_AllStill.f k a0 a1 = some (r1, r2)) :
  Calls Tryz.prog 50 #[.string a0, .string a1] w fun e w' => ∃ v0_ : Value, e = .returned (.tuple #[v0_, .bool r2]) ∧ Kd.R Kd.string 9 w' w.heap.size (fun _ => True) v0_ r1 ∧ Below w.heap.size w w' := by
 have HB := am (Below.refl w.heap.size w)
 have H : ((impl_CountCorner.f k a0 a1).bind fun bt101 => (if bt101.2 = true then (if bt101.1 > 200 then (some (([] : List ByteArray), false)) else ((impl_stills.f k a0 a1).bind fun t103 => (some (t103, true)))) else (some (([] : List ByteArray), false)))) = some (r1, r2) := h
 clear h
 replace H := Option.bind_eq_some_iff.mp H
 obtain ⟨⟨t101, t102⟩, A30, H⟩ := H
 replace H : (if t102 = true then (if t101 > 200 then (some (([] : List ByteArray), false)) else ((impl_stills.f k a0 a1).bind fun t103 => (some (t103, true)))) else (some (([] : List ByteArray), false))) = some (r1, r2) := H
 have A3 := am A30
 clear A30
 by_cases c4 : t102 = true
 ·subst c4
  rw [if_pos rfl] at H
  by_cases c5 : t101 > 200
  ·rw [if_pos c5] at H
   have c5b0 := decide_eq_true c5
   clear c5
   simp only [Option.some.injEq, Prod.mk.injEq] at H
   obtain ⟨rfl, rfl⟩ := H
   go_enter Tryz.func50, Tryz.ntmps50
   go_wp2_with (first | ((with_reducible refine gate_callee (f := 48) rfl ?_); refine goesL_ (some 11) rfl rfl Tryz.func48 (by kernel_rfl) rfl #[.string a0, .string a1] rfl aq4 ?_; (with_reducible refine (impl_CountCorner.calls k a0 a1 t101 true _ A3.out).mono ?_); rintro e w6 ⟨rfl, hb⟩; refine ⟨_, rfl, ?_⟩; have n0_ := am (below_step aq1 hb); clear HB; have HB := n0_; clear n0_; (try clear hb); (try clear hb2); (try clear hk); (try clear hi)))
   go_ret2
   exact ⟨_, aq8, aq17, aq1⟩
  ·rw [if_neg c5] at H
   have c5b0 := decide_eq_false c5
   clear c5
   obtain ⟨t103, A70, H⟩ := Option.bind_eq_some_iff.mp H
   have A7 := am A70
   clear A70
   simp only [Option.some.injEq, Prod.mk.injEq] at H
   obtain ⟨rfl, rfl⟩ := H
   go_enter Tryz.func50, Tryz.ntmps50
   go_wp2_with (first | ((with_reducible refine gate_callee (f := 48) rfl ?_); refine goesL_ (some 11) rfl rfl Tryz.func48 (by kernel_rfl) rfl #[.string a0, .string a1] rfl aq4 ?_; (with_reducible refine (impl_CountCorner.calls k a0 a1 t101 true _ A3.out).mono ?_); rintro e w8 ⟨rfl, hb⟩; refine ⟨_, rfl, ?_⟩; have n0_ := am (below_step aq1 hb); clear HB; have HB := n0_; clear n0_; (try clear hb); (try clear hb2); (try clear hk); (try clear hi)) | ((with_reducible refine gate_callee (f := 96) rfl ?_); refine goesL_ (some 22) rfl rfl Tryz.func96 (by kernel_rfl) rfl #[.string a0, .string a1] rfl aq4 ?_; (with_reducible refine (impl_stills.calls k a0 a1 t103 _ A7.out).mono ?_); rintro e w9 ⟨v104, rfl, ho0, hb⟩; refine ⟨_, rfl, ?_⟩; have n0_ := am (Kd.R_lower ho0 (below_size aq1)); have n1_ := am (below_step aq1 hb); clear HB; have HO105 := n0_; have HB := n1_; clear n0_ n1_; (try clear hb); (try clear hb2); (try clear hk); (try clear hi); (try clear ho0)))
   go_ret2
   exact ⟨_, aq8, aq49, aq1⟩
 ·replace c4 := Bool.eq_false_iff.mpr c4
  subst c4
  rw [if_neg Bool.false_ne_true] at H
  simp only [Option.some.injEq, Prod.mk.injEq] at H
  obtain ⟨rfl, rfl⟩ := H
  go_enter Tryz.func50, Tryz.ntmps50
  go_wp2_with (first | ((with_reducible refine gate_callee (f := 48) rfl ?_); refine goesL_ (some 11) rfl rfl Tryz.func48 (by kernel_rfl) rfl #[.string a0, .string a1] rfl aq4 ?_; (with_reducible refine (impl_CountCorner.calls k a0 a1 t101 false _ A3.out).mono ?_); rintro e w10 ⟨rfl, hb⟩; refine ⟨_, rfl, ?_⟩; have n0_ := am (below_step aq1 hb); clear HB; have HB := n0_; clear n0_; (try clear hb); (try clear hb2); (try clear hk); (try clear hi)))
  go_ret2
  exact ⟨_, aq8, aq17, aq1⟩
mutual
def laws_FnExactAllStill.j0 : Nat → ByteArray → ByteArray → List ByteArray → Bool → List ByteArray → Bool → Option (Bool)
 | 0, _, _, _, _, _, _ => none
 | k + 1, x0, x1, x5, x6, x7, x39 => if x39 = true then (some false) else ((laws_markStringS.f k x7 1).bind fun bt110 => ((laws_heldStringS.f k bt110.2 1).bind fun t112 => (if t112 < 0 then (some false) else (if t112 = bt110.1 then ((impl_AllStill.f k x0 x1).bind fun bt113 => ((laws_eqStringS.f k bt113.1 x5).bind fun t117 => (if t117 = true then (laws_FnExactAllStill.j1 k bt110.2 bt110.1 (bt113.2 != x6)) else (laws_FnExactAllStill.j1 k bt110.2 bt110.1 true)))) else (some false)))))
def laws_FnExactAllStill.j1 : Nat → List ByteArray → Int → Bool → Option (Bool)
 | 0, _, _, _ => none
 | k + 1, x7, x9, x65 => if x65 = true then (some false) else ((laws_heldStringS.f k x7 1).bind fun t118 => (if t118 < 0 then (some false) else (if t118 = x9 then (some true) else (some false))))
end
def laws_FnExactAllStill.f (k : Nat) (a0 : ByteArray) (a1 : ByteArray) : Option (Bool) := if (a0.size : Int) > 1048576 then (some true) else (if (a1.size : Int) > 1048576 then (some true) else ((spec_AllStill.f k a0 a1).bind fun bt101 => ((impl_AllStill.f k a0 a1).bind fun bt105 => ((laws_eqStringS.f k bt105.1 bt101.1).bind fun t109 => (if t109 = true then (laws_FnExactAllStill.j0 k a0 a1 bt101.1 bt101.2 bt105.1 (bt105.2 != bt101.2)) else (laws_FnExactAllStill.j0 k a0 a1 bt101.1 bt101.2 bt105.1 true))))))
theorem laws_FnExactAllStill.mono_l : ∀ k, (∀ y0 y1 y2 y3 y4 y5, LeO (laws_FnExactAllStill.j0 k y0 y1 y2 y3 y4 y5) (laws_FnExactAllStill.j0 (k + 1) y0 y1 y2 y3 y4 y5)) ∧ (∀ y0 y1 y2, LeO (laws_FnExactAllStill.j1 k y0 y1 y2) (laws_FnExactAllStill.j1 (k + 1) y0 y1 y2))
 | 0 => ⟨fun _ _ _ _ _ _ r h => by simp [laws_FnExactAllStill.j0] at h, fun _ _ _ r h => by simp [laws_FnExactAllStill.j1] at h⟩
 | k + 1 => by
  obtain ⟨ih0, ih1⟩ := laws_FnExactAllStill.mono_l k
  refine ⟨?_, ?_⟩
  ·intro y0 y1 y2 y3 y4 y5
   unfold laws_FnExactAllStill.j0
   have im0 := @impl_AllStill.mono; have im1 := @laws_eqStringS.mono; have im2 := @laws_heldStringS.mono; have im3 := @laws_markStringS.mono; have im4 := @spec_AllStill.mono; exact mo
  ·intro y0 y1 y2
   unfold laws_FnExactAllStill.j1
   have im0 := @impl_AllStill.mono; have im1 := @laws_eqStringS.mono; have im2 := @laws_heldStringS.mono; have im3 := @laws_markStringS.mono; have im4 := @spec_AllStill.mono; exact mo
set_option maxHeartbeats 8000000 in
set_option maxRecDepth 100000 in
theorem laws_FnExactAllStill.calls (k : Nat) (a0 : ByteArray) (a1 : ByteArray) (r : Bool) (w : World) (h : laws_FnExactAllStill.f k a0 a1 = some r) :
  Calls Tryz.prog 14 #[.string a0, .string a1] w fun e w' => e = .returned (.bool r) ∧ Below w.heap.size w w' := by
 have HB := am (Below.refl w.heap.size w)
 have H : (if (a0.size : Int) > 1048576 then (some true) else (if (a1.size : Int) > 1048576 then (some true) else ((spec_AllStill.f k a0 a1).bind fun bt101 => ((impl_AllStill.f k a0 a1).bind fun bt105 => ((laws_eqStringS.f k bt105.1 bt101.1).bind fun t109 => (if t109 = true then (laws_FnExactAllStill.j0 k a0 a1 bt101.1 bt101.2 bt105.1 (bt105.2 != bt101.2)) else (laws_FnExactAllStill.j0 k a0 a1 bt101.1 bt101.2 bt105.1 true))))))) = some r := h
 clear h
 by_cases c3 : (a0.size : Int) > 1048576
 ·rw [if_pos c3] at H
  have c3b0 := decide_eq_true c3
  have c3b1 : decide (1048576 < a0.size) = true := decide_eq_true (by omega)
  clear c3
  obtain rfl := Option.some.inj H
  go_enter Tryz.func14, Tryz.ntmps14
  go_wp2
  go_ret
  exact ⟨aq8, aq1⟩
 ·rw [if_neg c3] at H
  have c3b0 := decide_eq_false c3
  have c3b1 : decide (1048576 < a0.size) = false := decide_eq_false (by omega)
  clear c3
  by_cases c4 : (a1.size : Int) > 1048576
  ·rw [if_pos c4] at H
   have c4b0 := decide_eq_true c4
   have c4b1 : decide (1048576 < a1.size) = true := decide_eq_true (by omega)
   clear c4
   obtain rfl := Option.some.inj H
   go_enter Tryz.func14, Tryz.ntmps14
   go_wp2
   go_ret
   exact ⟨aq8, aq1⟩
  ·rw [if_neg c4] at H
   have c4b0 := decide_eq_false c4
   have c4b1 : decide (1048576 < a1.size) = false := decide_eq_false (by omega)
   clear c4
   replace H := Option.bind_eq_some_iff.mp H
   obtain ⟨⟨t101, t102⟩, A50, H⟩ := H
   replace H : ((impl_AllStill.f k a0 a1).bind fun bt105 => ((laws_eqStringS.f k bt105.1 t101).bind fun t109 => (if t109 = true then (laws_FnExactAllStill.j0 k a0 a1 t101 t102 bt105.1 (bt105.2 != t102)) else (laws_FnExactAllStill.j0 k a0 a1 t101 t102 bt105.1 true)))) = some r := H
   have A5 := am A50
   clear A50
   replace H := Option.bind_eq_some_iff.mp H
   obtain ⟨⟨t105, t106⟩, A60, H⟩ := H
   replace H : ((laws_eqStringS.f k t105 t101).bind fun t109 => (if t109 = true then (laws_FnExactAllStill.j0 k a0 a1 t101 t102 t105 (t106 != t102)) else (laws_FnExactAllStill.j0 k a0 a1 t101 t102 t105 true))) = some r := H
   have A6 := am A60
   clear A60
   have HC7 := am H
   clear H
   go_enter Tryz.func14, Tryz.ntmps14
   go_upto_region 7 with (first | ((with_reducible refine gate_callee (f := 49) rfl ?_); refine goesL_ (some 22) rfl rfl Tryz.func49 (by kernel_rfl) rfl #[.string a0, .string a1] rfl aq4 ?_; (with_reducible refine (spec_AllStill.calls k a0 a1 t101 t102 _ A5.out).mono ?_); rintro e w8 ⟨v103, rfl, ho0, hb⟩; refine ⟨_, rfl, ?_⟩; have n0_ := am (Kd.R_lower ho0 (below_size aq1)); have n1_ := am (below_step aq1 hb); clear HB; have HO104 := n0_; have HB := n1_; clear n0_ n1_; (try clear hb); (try clear hb2); (try clear hk); (try clear hi); (try clear ho0)) | ((with_reducible refine gate_callee (f := 50) rfl ?_); refine goesL_ (some 28) rfl rfl Tryz.func50 (by kernel_rfl) rfl #[.string a0, .string a1] rfl aq4 ?_; (with_reducible refine (impl_AllStill.calls k a0 a1 t105 t106 _ A6.out).mono ?_); rintro e w9 ⟨v107, rfl, ho0, hb⟩; refine ⟨_, rfl, ?_⟩; have n0_ := am (Kd.R_elder' aq48 (Kd.R_base ho0) hb); have n1_ := am (Kd.R_lower (Kd.R_new' ho0 (Kd.R_lt aq48)) (below_size aq1)); have n2_ := am (below_step aq1 hb); clear HO104; clear HB; have HO104 := n0_; have HO108 := n1_; have HB := n2_; clear n0_ n1_ n2_; (try clear hb); (try clear hb2); (try clear hk); (try clear hi); (try clear ho0)))
   (try simp only [Act.put, List.setIfInBounds_toArray, List.set_cons_zero, List.set_cons_succ])
   go_cut [39] (fun v39 wc => ∃ (kq : Nat) (x39_6 : Bool), v39 = .bool x39_6 ∧ Aside0 (laws_FnExactAllStill.j0 kq a0 a1 t101 t102 t105 x39_6 = some r) ∧ Aside0 (kq ≤ k) ∧ Aside0 (Kd.R Kd.string 9 wc w.heap.size (fun k_ => some k_ ≠ (v107 : Value).ownBlock) v103 t101) ∧ Aside0 (Kd.R Kd.string 9 wc w.heap.size (fun k_ => some k_ ≠ (v103 : Value).ownBlock) v107 t105) ∧ Aside0 (Below w.heap.size w wc))
   case first =>
    have H := HC7.out
    clear HC7
    obtain ⟨t109, A100, H⟩ := Option.bind_eq_some_iff.mp H
    have A10 := am A100
    clear A100
    by_cases c11 : t109 = true
    ·subst c11
     rw [if_pos rfl] at H
     have H' := am H
     clear H
     obtain ⟨Ao12, co12, eo12⟩ := Kd.R_slice HO108.out
     subst eo12
     obtain ⟨Ao13, co13, eo13⟩ := Kd.R_slice HO104.out
     subst eo13
     go_wp2_with (first | ((with_reducible refine gate_callee (f := 17) rfl ?_); refine goesL_ (some 33) rfl rfl Tryz.func17 (by kernel_rfl) rfl #[.slice Ao12 t105.length co12, .slice Ao13 t101.length co13] rfl aq4 ?_; (with_reducible refine (laws_eqStringS.calls k _ _ t105 _ _ t101 true _ ?side1 ?side2 ?side3 ?side4 A10.out).mono ?_); (case side1 => exact aq87); (case side2 => exact (Kd.R_reads' HO108.out).2.1); (case side3 => exact aq68); (case side4 => exact (Kd.R_reads' HO104.out).2.1); rintro e w' ⟨rfl, ⟨nd, rfl⟩⟩; refine ⟨_, rfl, ?_⟩))
     go_meet
     case rel => exact ⟨_, ((t106 != t102)), aq6, H', ⟨aq103⟩, ⟨aq100⟩, ⟨aq99⟩, ⟨aq1⟩⟩
    ·replace c11 := Bool.eq_false_iff.mpr c11
     subst c11
     rw [if_neg Bool.false_ne_true] at H
     have H' := am H
     clear H
     obtain ⟨Ao14, co14, eo14⟩ := Kd.R_slice HO108.out
     subst eo14
     obtain ⟨Ao15, co15, eo15⟩ := Kd.R_slice HO104.out
     subst eo15
     go_wp2_with (first | ((with_reducible refine gate_callee (f := 17) rfl ?_); refine goesL_ (some 33) rfl rfl Tryz.func17 (by kernel_rfl) rfl #[.slice Ao14 t105.length co14, .slice Ao15 t101.length co15] rfl aq4 ?_; (with_reducible refine (laws_eqStringS.calls k _ _ t105 _ _ t101 false _ ?side1 ?side2 ?side3 ?side4 A10.out).mono ?_); (case side1 => exact aq87); (case side2 => exact (Kd.R_reads' HO108.out).2.1); (case side3 => exact aq68); (case side4 => exact (Kd.R_reads' HO104.out).2.1); rintro e w' ⟨rfl, ⟨nd, rfl⟩⟩; refine ⟨_, rfl, ?_⟩))
     go_meet
     case rel => exact ⟨_, (true), aq6, H', ⟨aq103⟩, ⟨aq100⟩, ⟨aq99⟩, ⟨aq1⟩⟩
   case rest =>
    clear HC7
    try clear c1
    try clear p2
    try clear c3
    try clear c3b0
    try clear c3b1
    try clear c4
    try clear c4b0
    try clear c4b1
    try clear c5
    try clear c11
    try clear c14
    obtain ⟨kq, x39_6, rfl, HA, HJ6, HO_5, HO_7, HB⟩ := hcut
    cases kq with
    | zero => exact absurd HA.out (by simp [laws_FnExactAllStill.j0])
    | succ kj6 =>
     have H := HA.out
     clear HA
     simp only [laws_FnExactAllStill.j0] at H
     by_cases c16 : x39_6 = true
     ·subst c16
      rw [if_pos rfl] at H
      obtain rfl := Option.some.inj H
      go_wp2
      go_ret
      exact ⟨aq8, aq1⟩
     ·replace c16 := Bool.eq_false_iff.mpr c16
      subst c16
      rw [if_neg Bool.false_ne_true] at H
      replace H := Option.bind_eq_some_iff.mp H
      obtain ⟨⟨t110, t111⟩, A170, H⟩ := H
      replace H : ((laws_heldStringS.f kj6 t111 1).bind fun t112 => (if t112 < 0 then (some false) else (if t112 = t110 then ((impl_AllStill.f kj6 a0 a1).bind fun bt113 => ((laws_eqStringS.f kj6 bt113.1 t101).bind fun t117 => (if t117 = true then (laws_FnExactAllStill.j1 kj6 t111 t110 (bt113.2 != t102)) else (laws_FnExactAllStill.j1 kj6 t111 t110 true)))) else (some false)))) = some r := H
      have A17 := am A170
      clear A170
      obtain ⟨t112, A180, H⟩ := Option.bind_eq_some_iff.mp H
      have A18 := am A180
      clear A180
      by_cases c19 : t112 < 0
      ·rw [if_pos c19] at H
       have c19b0 := decide_eq_true c19
       clear c19
       obtain rfl := Option.some.inj H
       obtain ⟨Ao20, co20, eo20⟩ := Kd.R_slice HO_7.out
       subst eo20
       go_wp2_with (first | ((with_reducible refine gate_callee (f := 18) rfl ?_); refine goesL_ (some 42) rfl rfl Tryz.func18 (by kernel_rfl) rfl #[.slice Ao20 t105.length co20, .int .i64 1] rfl aq4 ?_; (with_reducible refine (laws_markStringS.calls kj6 (fun k_ => some k_ = (.slice Ao20 t105.length co20 : Value).ownBlock) (.slice Ao20 t105.length co20) t105 1 t110 t111 w _ ?side1 ?side2 A17.out).mono ?_); (case side1 => exact aq1); (case side2 => exact Kd.R_tight rfl HO_7.out); rintro e w21 ⟨rfl, hy0, hb, hkp⟩; refine ⟨_, rfl, ?_⟩; have n0_ := am (Kd.R_mono (ok' := fun k_ => some k_ ≠ (.slice Ao20 t105.length co20 : Value).ownBlock) (Kd.R_keptB (HO_5.out) hkp (fun k_ hk_ hs_ => (hk_) hs_)) (fun k_ hk_ => hk_.1)); have n1_ := am (Kd.R_reok rfl hy0 (fun k_ e_ => HO_7.out.1 k_ e_)); have n2_ := am (hb); clear HO_5; clear HO_7; clear HB; have HO_5 := n0_; have HO_7 := n1_; have HB := n2_; clear n0_ n1_ n2_; (try clear hb); (try clear hkp); (try clear hy0)) | ((with_reducible refine gate_callee (f := 19) rfl ?_); refine goesL_ (some 45) rfl rfl Tryz.func19 (by kernel_rfl) rfl #[.slice Ao20 t111.length co20, .int .i64 1] rfl aq53 ?_; (with_reducible refine (laws_heldStringS.calls kj6 _ _ t111 1 t112 _ ?side1 ?side2 A18.out).mono ?_); (case side1 => exact aq37); (case side2 => exact aq80); rintro e w22 ⟨rfl, hb⟩; refine ⟨_, rfl, ?_⟩; have n0_ := am (Kd.R_below aq41 hb); have n1_ := am (Kd.R_below aq16 hb); have n2_ := am (below_step aq1 hb); clear HO_5; clear HO_7; clear HB; have HO_5 := n0_; have HO_7 := n1_; have HB := n2_; clear n0_ n1_ n2_; (try clear hb); (try clear hb2); (try clear hk); (try clear hi)))
       go_ret
       exact ⟨aq8, aq1⟩
      ·rw [if_neg c19] at H
       have c19b0 := decide_eq_false c19
       clear c19
       by_cases c23 : t112 = t110
       ·rw [if_pos c23] at H
        have c23b0 := beq_iff_eq.mpr c23
        have c23b1 := bne_eq_false_iff_eq.mpr c23
        clear c23
        replace H := Option.bind_eq_some_iff.mp H
        obtain ⟨⟨t113, t114⟩, A240, H⟩ := H
        replace H : ((laws_eqStringS.f kj6 t113 t101).bind fun t117 => (if t117 = true then (laws_FnExactAllStill.j1 kj6 t111 t110 (t114 != t102)) else (laws_FnExactAllStill.j1 kj6 t111 t110 true))) = some r := H
        have A24 := am A240
        clear A240
        have HC25 := am H
        clear H
        obtain ⟨Ao26, co26, eo26⟩ := Kd.R_slice HO_7.out
        subst eo26
        go_upto_region 18 with (first | ((with_reducible refine gate_callee (f := 18) rfl ?_); refine goesL_ (some 42) rfl rfl Tryz.func18 (by kernel_rfl) rfl #[.slice Ao26 t105.length co26, .int .i64 1] rfl aq4 ?_; (with_reducible refine (laws_markStringS.calls kj6 (fun k_ => some k_ = (.slice Ao26 t105.length co26 : Value).ownBlock) (.slice Ao26 t105.length co26) t105 1 t110 t111 w _ ?side1 ?side2 A17.out).mono ?_); (case side1 => exact aq1); (case side2 => exact Kd.R_tight rfl HO_7.out); rintro e w27 ⟨rfl, hy0, hb, hkp⟩; refine ⟨_, rfl, ?_⟩; have n0_ := am (Kd.R_mono (ok' := fun k_ => some k_ ≠ (.slice Ao26 t105.length co26 : Value).ownBlock) (Kd.R_keptB (HO_5.out) hkp (fun k_ hk_ hs_ => (hk_) hs_)) (fun k_ hk_ => hk_.1)); have n1_ := am (Kd.R_reok rfl hy0 (fun k_ e_ => HO_7.out.1 k_ e_)); have n2_ := am (hb); clear HO_5; clear HO_7; clear HB; have HO_5 := n0_; have HO_7 := n1_; have HB := n2_; clear n0_ n1_ n2_; (try clear hb); (try clear hkp); (try clear hy0)) | ((with_reducible refine gate_callee (f := 19) rfl ?_); refine goesL_ (some 45) rfl rfl Tryz.func19 (by kernel_rfl) rfl #[.slice Ao26 t111.length co26, .int .i64 1] rfl aq53 ?_; (with_reducible refine (laws_heldStringS.calls kj6 _ _ t111 1 t112 _ ?side1 ?side2 A18.out).mono ?_); (case side1 => exact aq37); (case side2 => exact aq80); rintro e w28 ⟨rfl, hb⟩; refine ⟨_, rfl, ?_⟩; have n0_ := am (Kd.R_below aq41 hb); have n1_ := am (Kd.R_below aq16 hb); have n2_ := am (below_step aq1 hb); clear HO_5; clear HO_7; clear HB; have HO_5 := n0_; have HO_7 := n1_; have HB := n2_; clear n0_ n1_ n2_; (try clear hb); (try clear hb2); (try clear hk); (try clear hi)) | ((with_reducible refine gate_callee (f := 50) rfl ?_); refine goesL_ (some 54) rfl rfl Tryz.func50 (by kernel_rfl) rfl #[.string a0, .string a1] rfl aq4 ?_; (with_reducible refine (impl_AllStill.calls kj6 a0 a1 t113 t114 _ A24.out).mono ?_); rintro e w29 ⟨v115, rfl, ho0, hb⟩; refine ⟨_, rfl, ?_⟩; have n0_ := am (Kd.R_elder' aq41 (Kd.R_base ho0) hb); have n1_ := am (Kd.R_elder' aq16 (Kd.R_base ho0) hb); have n2_ := am (Kd.R_lower (Kd.R_new' (Kd.R_new' ho0 (Kd.R_lt aq41)) (Kd.R_lt aq16)) (below_size aq1)); have n3_ := am (below_step aq1 hb); clear HO_5; clear HO_7; clear HB; have HO_5 := n0_; have HO_7 := n1_; have HO116 := n2_; have HB := n3_; clear n0_ n1_ n2_ n3_; (try clear hb); (try clear hb2); (try clear hk); (try clear hi); (try clear ho0)))
        (try simp only [Act.put, List.setIfInBounds_toArray, List.set_cons_zero, List.set_cons_succ])
        go_cut [65] (fun v65 wc => ∃ (kq : Nat) (x65_24 : Bool), v65 = .bool x65_24 ∧ Aside0 (laws_FnExactAllStill.j1 kq t111 t110 x65_24 = some r) ∧ Aside0 (kq ≤ kj6) ∧ Aside0 (Kd.R Kd.string 9 wc w.heap.size (fun _ => True) (.slice Ao26 t105.length co26) t111) ∧ Aside0 (Below w.heap.size w wc))
        case first =>
         have H := HC25.out
         clear HC25
         obtain ⟨t117, A300, H⟩ := Option.bind_eq_some_iff.mp H
         have A30 := am A300
         clear A300
         by_cases c31 : t117 = true
         ·subst c31
          rw [if_pos rfl] at H
          have H' := am H
          clear H
          obtain ⟨Ao32, co32, eo32⟩ := Kd.R_slice HO116.out
          subst eo32
          obtain ⟨Ao33, co33, eo33⟩ := Kd.R_slice HO_5.out
          subst eo33
          go_wp2_with (first | ((with_reducible refine gate_callee (f := 17) rfl ?_); refine goesL_ (some 59) rfl rfl Tryz.func17 (by kernel_rfl) rfl #[.slice Ao32 t113.length co32, .slice Ao33 t101.length co33] rfl aq4 ?_; (with_reducible refine (laws_eqStringS.calls kj6 _ _ t113 _ _ t101 true _ ?side1 ?side2 ?side3 ?side4 A30.out).mono ?_); (case side1 => exact aq86); (case side2 => exact (Kd.R_reads' HO116.out).2.1); (case side3 => exact aq89); (case side4 => exact (Kd.R_reads' HO_5.out).2.1); rintro e w' ⟨rfl, ⟨nd, rfl⟩⟩; refine ⟨_, rfl, ?_⟩))
          go_meet
          case rel => exact ⟨_, ((t114 != t102)), aq6, H', ⟨by have := HJ6.out; first | omega | exact Nat.le_refl _⟩, ⟨aq97⟩, ⟨aq1⟩⟩
         ·replace c31 := Bool.eq_false_iff.mpr c31
          subst c31
          rw [if_neg Bool.false_ne_true] at H
          have H' := am H
          clear H
          obtain ⟨Ao34, co34, eo34⟩ := Kd.R_slice HO116.out
          subst eo34
          obtain ⟨Ao35, co35, eo35⟩ := Kd.R_slice HO_5.out
          subst eo35
          go_wp2_with (first | ((with_reducible refine gate_callee (f := 17) rfl ?_); refine goesL_ (some 59) rfl rfl Tryz.func17 (by kernel_rfl) rfl #[.slice Ao34 t113.length co34, .slice Ao35 t101.length co35] rfl aq4 ?_; (with_reducible refine (laws_eqStringS.calls kj6 _ _ t113 _ _ t101 false _ ?side1 ?side2 ?side3 ?side4 A30.out).mono ?_); (case side1 => exact aq86); (case side2 => exact (Kd.R_reads' HO116.out).2.1); (case side3 => exact aq89); (case side4 => exact (Kd.R_reads' HO_5.out).2.1); rintro e w' ⟨rfl, ⟨nd, rfl⟩⟩; refine ⟨_, rfl, ?_⟩))
          go_meet
          case rel => exact ⟨_, (true), aq6, H', ⟨by have := HJ6.out; first | omega | exact Nat.le_refl _⟩, ⟨aq97⟩, ⟨aq1⟩⟩
        case rest =>
         clear HC25
         try clear c1
         try clear c2
         try clear p2
         try clear c3
         try clear c3b0
         try clear c3b1
         try clear c4
         try clear c4b0
         try clear c4b1
         try clear c5
         try clear c11
         try clear c14
         try clear c16
         try clear c17
         try clear c18
         try clear c19
         try clear c19b0
         try clear c23
         try clear c23b0
         try clear c23b1
         try clear c31
         try clear p2
         obtain ⟨kq, x65_24, rfl, HA, HJ24, HO_7, HB⟩ := hcut
         have hl7_24 := (Kd.R_reads' HO_7.out).1
         rw [hl7_24] at HO_7
         (try simp only [hl7_24])
         cases kq with
         | zero => exact absurd HA.out (by simp [laws_FnExactAllStill.j1])
         | succ kj24 =>
          have H := HA.out
          clear HA
          simp only [laws_FnExactAllStill.j1] at H
          by_cases c36 : x65_24 = true
          ·subst c36
           rw [if_pos rfl] at H
           obtain rfl := Option.some.inj H
           go_wp2
           go_ret
           exact ⟨aq8, aq1⟩
          ·replace c36 := Bool.eq_false_iff.mpr c36
           subst c36
           rw [if_neg Bool.false_ne_true] at H
           obtain ⟨t118, A370, H⟩ := Option.bind_eq_some_iff.mp H
           have A37 := am A370
           clear A370
           by_cases c38 : t118 < 0
           ·rw [if_pos c38] at H
            have c38b0 := decide_eq_true c38
            clear c38
            obtain rfl := Option.some.inj H
            go_wp2_with (first | ((with_reducible refine gate_callee (f := 19) rfl ?_); refine goesL_ (some 68) rfl rfl Tryz.func19 (by kernel_rfl) rfl #[.slice Ao26 t111.length co26, .int .i64 1] rfl aq4 ?_; (with_reducible refine (laws_heldStringS.calls kj24 _ _ t111 1 t118 _ ?side1 ?side2 A37.out).mono ?_); (case side1 => exact aq37); (case side2 => exact (Kd.R_reads' HO_7.out).2.1); rintro e w39 ⟨rfl, hb⟩; refine ⟨_, rfl, ?_⟩; have n0_ := am (Kd.R_below aq16 hb); have n1_ := am (below_step aq1 hb); clear HO_7; clear HB; have HO_7 := n0_; have HB := n1_; clear n0_ n1_; (try clear hb); (try clear hb2); (try clear hk); (try clear hi)))
            go_ret
            exact ⟨aq8, aq1⟩
           ·rw [if_neg c38] at H
            have c38b0 := decide_eq_false c38
            clear c38
            by_cases c40 : t118 = t110
            ·rw [if_pos c40] at H
             have c40b0 := beq_iff_eq.mpr c40
             have c40b1 := bne_eq_false_iff_eq.mpr c40
             clear c40
             obtain rfl := Option.some.inj H
             go_wp2_with (first | ((with_reducible refine gate_callee (f := 19) rfl ?_); refine goesL_ (some 68) rfl rfl Tryz.func19 (by kernel_rfl) rfl #[.slice Ao26 t111.length co26, .int .i64 1] rfl aq4 ?_; (with_reducible refine (laws_heldStringS.calls kj24 _ _ t111 1 t118 _ ?side1 ?side2 A37.out).mono ?_); (case side1 => exact aq37); (case side2 => exact (Kd.R_reads' HO_7.out).2.1); rintro e w41 ⟨rfl, hb⟩; refine ⟨_, rfl, ?_⟩; have n0_ := am (Kd.R_below aq16 hb); have n1_ := am (below_step aq1 hb); clear HO_7; clear HB; have HO_7 := n0_; have HB := n1_; clear n0_ n1_; (try clear hb); (try clear hb2); (try clear hk); (try clear hi)))
             go_ret
             exact ⟨aq8, aq1⟩
            ·rw [if_neg c40] at H
             have c40b0 := beq_eq_false_iff_ne.mpr c40
             have c40b1 := bne_iff_ne.mpr c40
             obtain rfl := Option.some.inj H
             go_wp2_with (first | ((with_reducible refine gate_callee (f := 19) rfl ?_); refine goesL_ (some 68) rfl rfl Tryz.func19 (by kernel_rfl) rfl #[.slice Ao26 t111.length co26, .int .i64 1] rfl aq4 ?_; (with_reducible refine (laws_heldStringS.calls kj24 _ _ t111 1 t118 _ ?side1 ?side2 A37.out).mono ?_); (case side1 => exact aq37); (case side2 => exact (Kd.R_reads' HO_7.out).2.1); rintro e w42 ⟨rfl, hb⟩; refine ⟨_, rfl, ?_⟩; have n0_ := am (Kd.R_below aq16 hb); have n1_ := am (below_step aq1 hb); clear HO_7; clear HB; have HO_7 := n0_; have HB := n1_; clear n0_ n1_; (try clear hb); (try clear hb2); (try clear hk); (try clear hi)))
             go_ret
             exact ⟨aq8, aq1⟩
       ·rw [if_neg c23] at H
        have c23b0 := beq_eq_false_iff_ne.mpr c23
        have c23b1 := bne_iff_ne.mpr c23
        obtain rfl := Option.some.inj H
        obtain ⟨Ao43, co43, eo43⟩ := Kd.R_slice HO_7.out
        subst eo43
        go_wp2_with (first | ((with_reducible refine gate_callee (f := 18) rfl ?_); refine goesL_ (some 42) rfl rfl Tryz.func18 (by kernel_rfl) rfl #[.slice Ao43 t105.length co43, .int .i64 1] rfl aq4 ?_; (with_reducible refine (laws_markStringS.calls kj6 (fun k_ => some k_ = (.slice Ao43 t105.length co43 : Value).ownBlock) (.slice Ao43 t105.length co43) t105 1 t110 t111 w _ ?side1 ?side2 A17.out).mono ?_); (case side1 => exact aq1); (case side2 => exact Kd.R_tight rfl HO_7.out); rintro e w44 ⟨rfl, hy0, hb, hkp⟩; refine ⟨_, rfl, ?_⟩; have n0_ := am (Kd.R_mono (ok' := fun k_ => some k_ ≠ (.slice Ao43 t105.length co43 : Value).ownBlock) (Kd.R_keptB (HO_5.out) hkp (fun k_ hk_ hs_ => (hk_) hs_)) (fun k_ hk_ => hk_.1)); have n1_ := am (Kd.R_reok rfl hy0 (fun k_ e_ => HO_7.out.1 k_ e_)); have n2_ := am (hb); clear HO_5; clear HO_7; clear HB; have HO_5 := n0_; have HO_7 := n1_; have HB := n2_; clear n0_ n1_ n2_; (try clear hb); (try clear hkp); (try clear hy0)) | ((with_reducible refine gate_callee (f := 19) rfl ?_); refine goesL_ (some 45) rfl rfl Tryz.func19 (by kernel_rfl) rfl #[.slice Ao43 t111.length co43, .int .i64 1] rfl aq53 ?_; (with_reducible refine (laws_heldStringS.calls kj6 _ _ t111 1 t112 _ ?side1 ?side2 A18.out).mono ?_); (case side1 => exact aq37); (case side2 => exact aq80); rintro e w45 ⟨rfl, hb⟩; refine ⟨_, rfl, ?_⟩; have n0_ := am (Kd.R_below aq41 hb); have n1_ := am (Kd.R_below aq16 hb); have n2_ := am (below_step aq1 hb); clear HO_5; clear HO_7; clear HB; have HO_5 := n0_; have HO_7 := n1_; have HB := n2_; clear n0_ n1_ n2_; (try clear hb); (try clear hb2); (try clear hk); (try clear hi)))
        go_ret
        exact ⟨aq8, aq1⟩
end Go.Proofs.YtdffgeoegdkiaaaGreatDoor.F

namespace Go.Proofs.YtdffgeoegdkiaaaGreatDoor.F
open Go.RowKit Go.Proofs.YtdffgeoegdkiaaaGreatDoor Go.Proofs.YtdffgeoegdkiaaaGreatDoorW.PrintWords Go.Proofs.YtdffgeoegdkiaaaGreatDoorW.PrintMore
def kb (b : ByteArray) : List UInt8 := b.data.toList
theorem less_iff (x y : ByteArray) : Op.bytesLess x.toList y.toList = true ↔ kb x < kb y := by
  rw [Proofs.bytesLess_eq, Lib.toList_data, Lib.toList_data]; exact decide_eq_true_iff
def insB (x : ByteArray) : List ByteArray → List ByteArray
  | [] => [x]
  | y :: l => if kb y < kb x then y :: insB x l else x :: y :: l
theorem insB_perm (x : ByteArray) : ∀ l, (insB x l).Perm (x :: l)
  | [] => List.Perm.refl _
  | y :: l => by
    unfold insB
    split
    · exact ((insB_perm x l).cons y).trans (List.Perm.swap x y l)
    · exact List.Perm.refl _
theorem insB_sorted (x : ByteArray) : ∀ l, l.Pairwise (fun a b => kb a ≤ kb b) → (insB x l).Pairwise (fun a b => kb a ≤ kb b)
  | [], _ => by simp [insB]
  | y :: l, h => by
    rw [List.pairwise_cons] at h
    unfold insB
    by_cases hy : kb y < kb x
    · rw [if_pos hy, List.pairwise_cons]
      refine ⟨fun z hz => ?_, insB_sorted x l h.2⟩
      rcases List.mem_cons.1 ((insB_perm x l).mem_iff.1 hz) with rfl | hz
      · exact List.le_of_lt hy
      · exact h.1 z hz
    · rw [if_neg hy, List.pairwise_cons, List.pairwise_cons]
      have hxy : kb x ≤ kb y := List.not_lt.1 hy
      refine ⟨fun z hz => ?_, h⟩
      rcases List.mem_cons.1 hz with rfl | hz
      · exact hxy
      · exact List.le_trans hxy (h.1 z hz)
def sortIns (l : List ByteArray) : List ByteArray := l.foldl (fun o x => insB x o) []
theorem sortIns_go : ∀ (l o : List ByteArray), o.Pairwise (fun a b => kb a ≤ kb b) → (l.foldl (fun o x => insB x o) o).Perm (l ++ o) ∧ (l.foldl (fun o x => insB x o) o).Pairwise (fun a b => kb a ≤ kb b)
  | [], o, h => ⟨List.Perm.refl _, h⟩
  | x :: l, o, h => by
    obtain ⟨h1, h2⟩ := sortIns_go l (insB x o) (insB_sorted x o h)
    refine ⟨h1.trans ?_, h2⟩
    exact ((insB_perm x o).append_left l).trans List.perm_middle
theorem sortIns_eq (l : List ByteArray) : sortIns l = sortB l := by
  obtain ⟨h1, h2⟩ := sortIns_go l [] List.Pairwise.nil
  rw [List.append_nil] at h1
  have hp : ((sortIns l).map kb).Perm ((l.map kb).mergeSort fun x y => decide (x ≤ y)) := (h1.map kb).trans (List.mergeSort_perm _ _).symm
  have hs := List.pairwise_mergeSort (le := fun (x y : List UInt8) => decide (x ≤ y)) (fun a b c h1 h2 => decide_eq_true (List.le_trans (of_decide_eq_true h1) (of_decide_eq_true h2))) (fun a b => by
    rcases List.le_total a b with h | h
    · rw [decide_eq_true h]; rfl
    · rw [decide_eq_true h, Bool.or_true]) (l.map kb)
  have he : (sortIns l).map kb = (l.map kb).mergeSort fun x y => decide (x ≤ y) := by
    refine List.Perm.eq_of_pairwise (le := fun x y => x ≤ y) (fun a b _ _ h1 h2 => List.le_antisymm h1 h2) ?_ (hs.imp (fun h => of_decide_eq_true h)) hp
    rw [List.pairwise_map]
    exact h2
  have hm : ∀ L : List ByteArray, (L.map kb).map (fun l => (⟨l.toArray⟩ : ByteArray)) = L := fun L => by
    rw [List.map_map]
    conv => rhs; rw [← List.map_id L]
    rfl
  rw [← hm (sortIns l), he]
  rfl
theorem ins_l1 (x : ByteArray) (out : List ByteArray) (ho : out.length ≤ 1000) (L : List ByteArray) (n i : Int) (r : List ByteArray × Bool) : ∀ (d j : Nat), j + d = out.length → Ev (fun k => spec_AllStill.l0 k (out.take j ++ insB x (out.drop j)) L n (wrap64 (i + 1))) r → Ev (fun k => spec_AllStill.l1 k out x (j : Int) L n i) r
  | 0, j, hj, hr => by
    obtain rfl : j = out.length := by omega
    rw [List.drop_length, List.take_length] at hr
    refine Ev.step (fun k => ?_) hr
    rw [spec_AllStill.l1, if_neg (by omega), Option.bind_some, if_pos (by omega), if_pos (by omega), Int.toNat_natCast, Option.bind_some, List.take_length, if_pos (by simp; omega), Option.bind_some, List.nil_append, if_pos (by omega), Option.bind_some, Option.bind_some, List.drop_length, if_pos (by simp; omega), List.append_nil]
    rfl
  | d + 1, j, hj, hr => by
    have hjl : j < out.length := by omega
    have hW : wrap64 ((j : Int) + 1) = ((j + 1 : Nat) : Int) := by rw [w64 (by omega) (by omega)]; rfl
    have hrd : rdOf ByteArray.empty out (j : Int) = out[j] := by unfold rdOf; rw [Int.toNat_natCast, List.getD_eq_getElem?_getD, List.getElem?_eq_getElem hjl]; rfl
    rw [List.drop_eq_getElem_cons hjl] at hr
    unfold insB at hr
    by_cases hl : kb out[j] < kb x
    · rw [if_pos hl] at hr
      have ih := ins_l1 x out ho L n i r d (j + 1) (by omega) (by rw [List.take_succ_eq_append_getElem hjl, List.append_assoc]; exact hr)
      refine Ev.step (fun k => ?_) ih
      rw [spec_AllStill.l1, if_pos (by omega), if_pos (by omega), hrd, if_pos ((less_iff _ _).2 hl), hW]
    · rw [if_neg hl, ← List.drop_eq_getElem_cons hjl] at hr
      refine Ev.step (fun k => ?_) hr
      rw [spec_AllStill.l1, if_pos (by omega), if_pos (by omega), hrd, if_neg (fun q => hl ((less_iff _ _).1 q)), Option.bind_some, if_pos (by omega), Int.toNat_natCast, Option.bind_some, if_pos (by simp; omega), Option.bind_some, List.nil_append, if_pos (by simp; omega), Option.bind_some, Option.bind_some, if_pos (by simp; omega), List.append_assoc]
      rfl
theorem ins_l0 (L : List ByteArray) (hL : L.length ≤ 200) : ∀ (d i : Nat) (out : List ByteArray), i + d = L.length → out.length ≤ i → Ev (fun k => spec_AllStill.l0 k out L (L.length : Int) (i : Int)) ((L.drop i).foldl (fun o x => insB x o) out, true)
  | 0, i, out, hi, ho => by
    rw [List.drop_of_length_le (by omega)]
    exact Ev.step (fun k => by rw [spec_AllStill.l0, if_neg (by omega)]; rfl) (Ev.now _)
  | d + 1, i, out, hi, ho => by
    have hil : i < L.length := by omega
    have hW : wrap64 ((i : Int) + 1) = ((i + 1 : Nat) : Int) := by rw [w64 (by omega) (by omega)]; rfl
    have hrd : rdOf ByteArray.empty L (i : Int) = L[i] := by unfold rdOf; rw [Int.toNat_natCast, List.getD_eq_getElem?_getD, List.getElem?_eq_getElem hil]; rfl
    rw [List.drop_eq_getElem_cons hil, List.foldl_cons]
    refine Ev.step (f := fun k => spec_AllStill.l1 k out L[i] ((0 : Nat) : Int) L (L.length : Int) (i : Int)) (fun k => by rw [spec_AllStill.l0, if_pos (by omega), if_pos (by omega), if_pos (by omega), hrd]; rfl) ?_
    refine ins_l1 _ out (by omega) L _ _ _ out.length 0 (by omega) ?_
    rw [hW, List.drop_zero, List.take_zero, List.nil_append]
    exact ins_l0 L hL d (i + 1) _ (by omega) (by rw [(insB_perm _ _).length_eq, List.length_cons]; omega)
def stillA (t x : ByteArray) : List ByteArray × Bool := if lookG t && dirsB (bytesOf x) then (if (cornA t x).length > 200 then ([], false) else (sortB (cornA t x), true)) else ([], false)
theorem stillA_len (t x : ByteArray) : (stillA t x).1.length ≤ 200 := by
  unfold stillA
  split
  · split
    · simp
    · simp only [sortB_len]; omega
  · simp
theorem impl_still_ev (t x : ByteArray) (ht : t.size < 4294967281) (hx : x.size ≤ 2000000) : Ev (fun k => impl_AllStill.f k t x) (stillA t x) := by
  unfold impl_AllStill.f stillA
  refine Ev.bind (impl_corner_ev t x ht hx) ?_
  by_cases hq : (lookG t && dirsB (bytesOf x)) = true
  · rw [if_pos hq, if_pos hq]
    have hq' := hq
    rw [Bool.and_eq_true] at hq'
    obtain ⟨A, B, C, n, _, hl⟩ := cnLooked_ev t x hx
    obtain ⟨w, h, cs, hg, v, hb, h16, _⟩ := hl hq'.1
    obtain ⟨q1, q2⟩ := dirsB_len hq'.2
    rw [bytesOf_length] at q1
    have hS := stills_ev hg v hb h16 q2 (by omega)
    rw [show stL w h cs (bytesOf x) (2 ^ (openL cs).length) 0 [] = cornA t x from by unfold cornA; rw [hg]] at hS
    by_cases h2 : (cornA t x).length > 200
    · rw [if_pos h2]
      exact Ev.congr (fun k => (if_pos rfl).trans (if_pos (show (((cornA t x).length : Nat) : Int) > 200 by omega))) (Ev.now _)
    · rw [if_neg h2]
      refine Ev.congr (f := fun k => (impl_stills.f k t x).bind fun t103 => some (t103, true)) (fun k => (if_pos rfl).trans (if_neg (show ¬ (((cornA t x).length : Nat) : Int) > 200 by omega))) ?_
      exact Ev.bind hS (Ev.now _)
  · rw [if_neg hq, if_neg hq]
    exact Ev.congr (fun k => if_neg Bool.false_ne_true) (Ev.now _)
theorem spec_still_ev (t x : ByteArray) (hx : x.size ≤ 2000000) : Ev (fun k => spec_AllStill.f k t x) (stillA t x) := by
  unfold spec_AllStill.f stillA
  obtain ⟨A, B, C, n, hE, hl⟩ := cnLooked_ev t x hx
  refine Ev.bind hE ?_
  by_cases hq : (lookG t && dirsB (bytesOf x)) = true
  · rw [if_pos hq]
    have hq' := hq
    rw [Bool.and_eq_true] at hq'
    obtain ⟨w, h, cs, hg, v, hb, h16, rfl, rfl, e3, rfl⟩ := hl hq'.1
    subst e3
    obtain ⟨q1, q2⟩ := dirsB_len hq'.2
    rw [bytesOf_length] at q1
    have hA := allst_ev v hb h16 q2 (by omega)
    rw [show stL w h C (bytesOf x) (2 ^ (openL C).length) 0 [] = cornA t x from by unfold cornA; rw [hg]] at hA
    refine Ev.congr (fun k => if_pos hq) (Ev.bind hA ?_)
    by_cases h2 : (cornA t x).length > 200
    · rw [if_pos h2]
      exact Ev.congr (fun k => if_pos (show (((cornA t x).length : Nat) : Int) > 200 by omega)) (Ev.now _)
    · rw [if_neg h2]
      refine Ev.congr (fun k => if_neg (show ¬ (((cornA t x).length : Nat) : Int) > 200 by omega)) ?_
      have h0 := ins_l0 (cornA t x) (by omega) (cornA t x).length 0 [] (by omega) (Nat.le_refl _)
      rw [List.drop_zero, show (cornA t x).foldl (fun o x => insB x o) [] = sortB (cornA t x) from sortIns_eq _] at h0
      exact h0
  · rw [if_neg hq]
    exact Ev.congr (fun k => if_neg hq) (Ev.now _)
theorem FnExactAllStill (a b : ByteArray) (ha : a.size ≤ 9223372036854775807) (hb : b.size ≤ 9223372036854775807) : ∃ k, laws_FnExactAllStill.f k a b = some true := by
  refine Ev.rounds (g := fun k => laws_FnExactAllStill.f k a b) ?_
  unfold laws_FnExactAllStill.f
  by_cases c0 : (a.size : Int) > 1048576
  · exact Ev.congr (fun k => if_pos c0) (Ev.now _)
  by_cases c1 : (b.size : Int) > 1048576
  · exact Ev.congr (fun k => by rw [if_neg c0, if_pos c1]) (Ev.now _)
  refine Ev.congr (fun k => by rw [if_neg c0, if_neg c1]) ?_
  have hI := impl_still_ev a b (by omega) (by omega)
  have hS := spec_still_ev a b (by omega)
  have hlen := stillA_len a b
  generalize stillA a b = R at hI hS hlen
  have hE := eqS_ev R.1 (by omega)
  have hM := markS_ev R.1 (by omega)
  have hH := heldS_ev R.1.length (by omega)
  have hend : Ev (fun k => laws_FnExactAllStill.j1 k (marksT 1 R.1.length) ((1 + R.1.length : Nat) : Int) false) true := by
    refine Ev.step (fun k => by rw [laws_FnExactAllStill.j1, if_neg Bool.false_ne_true]) (Ev.bind hH ?_)
    exact Ev.congr (fun k => by rw [if_neg (by omega), if_pos rfl]) (Ev.now _)
  have hmid : Ev (fun k => laws_FnExactAllStill.j0 k a b R.1 R.2 R.1 false) true := by
    refine Ev.step (fun k => by rw [laws_FnExactAllStill.j0, if_neg Bool.false_ne_true]) (Ev.bind hM (Ev.bind hH ?_))
    refine Ev.congr (fun k => by rw [if_neg (by omega), if_pos rfl]) (Ev.bind hI (Ev.bind hE ?_))
    refine Ev.congr (fun k => if_pos rfl) ?_
    rw [bne_self_eq_false]
    exact hend
  refine Ev.bind hS (Ev.bind hI (Ev.bind hE ?_))
  refine Ev.congr (fun k => if_pos rfl) ?_
  rw [bne_self_eq_false]
  exact hmid
end Go.Proofs.YtdffgeoegdkiaaaGreatDoor.F
