/- The proof that the law's row holds, part 3: the kit's words, the printed walks and the plain law. No conditions beyond the card's own. -/
import Derived.Deep.RegionHeld3
import Derived.Lib.SlBytesConst
import Derived.Shelf.SlicesE.IndexFunc
import Derived.Maps.OwnOps
import Derived.Test.YtdffgeoegdkiaaaGreatDoorM0
import Derived.Test.YtdffgeoegdkiaaaGreatDoorM1
import Derived.Test.YtdffgeoegdkiaaaGreatDoorM2
set_option linter.unusedVariables false
set_option linter.unusedSimpArgs false
namespace Go.Proofs.YtdffgeoegdkiaaaGreatDoor.F
open Go.Proofs.YtdffgeoegdkiaaaGreatDoor
open Go.RowKit Go.Proofs.YtdffgeoegdkiaaaGreatDoorW.PrintWords Go.Proofs.YtdffgeoegdkiaaaGreatDoorW.PrintLast Go.Proofs.YtdffgeoegdkiaaaGreatDoorW.PrintMore
attribute [local go_sem] max2_int min2_int max_two min_two max_three min_three max_four min_four
mutual
def spec_tiStretches.l0 : Nat → Int → List (List Int) → List Int → Int → Int → Int → Int → List Int → Option ((List (List Int)))
 | 0, _, _, _, _, _, _, _, _ => none
 | k + 1, x1, x5, x13, x14, x15, x102000, x102001, x102002 => if x15 < x14 then (if 0 ≤ x15 then (if x15 < (x13.length : Int) then (if (rd x13 x15) = 35 then (spec_tiStretches.j1 k x1 x5 x15 x13 x14 x15 true x102000 x102001 x102002) else ((spec_tiAhead.f x102000 x102001 x102002 x15 x1).bind fun t103 => (spec_tiStretches.j1 k x1 x5 x15 x13 x14 x15 (decide (t103 ≥ 0)) x102000 x102001 x102002))) else (none)) else (none)) else (some x5)
def spec_tiStretches.j1 : Nat → Int → List (List Int) → Int → List Int → Int → Int → Bool → Int → Int → List Int → Option ((List (List Int)))
 | 0, _, _, _, _, _, _, _, _, _, _ => none
 | k + 1, x1, x5, x6, x13, x14, x15, x28, x102000, x102001, x102002 => if x28 = true then (spec_tiStretches.l0 k x1 x5 x13 x14 (wrap64 (x15 + 1)) x102000 x102001 x102002) else ((spec_tiAhead.f x102000 x102001 x102002 x6 (Int.tmod (wrap64 (x1 + 2)) 4)).bind fun t107 => (spec_tiStretches.l1 k x1 x5 (([x6] : List Int)) t107 x13 x14 x15 x102000 x102001 x102002))
def spec_tiStretches.l1 : Nat → Int → List (List Int) → List Int → Int → List Int → Int → Int → Int → Int → List Int → Option ((List (List Int)))
 | 0, _, _, _, _, _, _, _, _, _, _ => none
 | k + 1, x1, x5, x8, x9, x13, x14, x15, x102000, x102001, x102002 => if x9 ≥ 0 then (if x8.length < 17592186044416 then ((spec_tiAhead.f x102000 x102001 x102002 x9 (Int.tmod (wrap64 (x1 + 2)) 4)).bind fun t111 => (spec_tiStretches.l1 k x1 x5 (x8 ++ [x9]) t111 x13 x14 x15 x102000 x102001 x102002)) else (none)) else (spec_tiStretches.l2 k x1 x5 x8 0 x13 x14 x15 x102000 x102001 x102002)
def spec_tiStretches.l2 : Nat → Int → List (List Int) → List Int → Int → List Int → Int → Int → Int → Int → List Int → Option ((List (List Int)))
 | 0, _, _, _, _, _, _, _, _, _, _ => none
 | k + 1, x1, x5, x8, x10, x13, x14, x15, x102000, x102001, x102002 => if x10 < (x5.length : Int) then (if 0 ≤ x10 then ((spec_tiFirst.f k (rd_L3 x5 x10)).bind fun t113 => ((spec_tiFirst.f k x8).bind fun t114 => (if t113 < t114 then (spec_tiStretches.l2 k x1 x5 x8 (wrap64 (x10 + 1)) x13 x14 x15 x102000 x102001 x102002) else ((some (([] : List (List Int)) : List (List Int))).bind fun y115 => (if x10 ≤ (x5.length : Int) then ((some (x5.take (x10 : Int).toNat : List (List Int))).bind fun y118 => (if y115.length + y118.length < 5864062014805 then ((some (y115 ++ y118 : List (List Int))).bind fun y123 => (if y123.length < 5864062014805 then ((some (y123 ++ [x8] : List (List Int))).bind fun y126 => ((some (x5.drop (x10 : Int).toNat : List (List Int))).bind fun y129 => (if y126.length + y129.length < 5864062014805 then (spec_tiStretches.l0 k x1 (y126 ++ y129) x13 x14 (wrap64 (x15 + 1)) x102000 x102001 x102002) else (none)))) else (none))) else (none))) else (none)))))) else (none)) else ((some (([] : List (List Int)) : List (List Int))).bind fun y137 => (if 0 ≤ x10 then (if x10 ≤ (x5.length : Int) then ((some (x5.take (x10 : Int).toNat : List (List Int))).bind fun y140 => (if y137.length + y140.length < 5864062014805 then ((some (y137 ++ y140 : List (List Int))).bind fun y145 => (if y145.length < 5864062014805 then ((some (y145 ++ [x8] : List (List Int))).bind fun y148 => ((some (x5.drop (x10 : Int).toNat : List (List Int))).bind fun y151 => (if y148.length + y151.length < 5864062014805 then (spec_tiStretches.l0 k x1 (y148 ++ y151) x13 x14 (wrap64 (x15 + 1)) x102000 x102001 x102002) else (none)))) else (none))) else (none))) else (none)) else (none)))
end
def spec_tiStretches.f (k : Nat) (a0_0 : Int) (a0_1 : Int) (l0_2 : List Int) (a1 : Int) : Option ((List (List Int))) := spec_tiStretches.l0 k a1 ([] : List (List Int)) l0_2 (l0_2.length : Int) 0 a0_0 a0_1 l0_2
theorem spec_tiStretches.mono_l : ∀ k, (∀ y0 y1 y2 y3 y4 y5 y6 y7, LeO (spec_tiStretches.l0 k y0 y1 y2 y3 y4 y5 y6 y7) (spec_tiStretches.l0 (k + 1) y0 y1 y2 y3 y4 y5 y6 y7)) ∧ (∀ y0 y1 y2 y3 y4 y5 y6 y7 y8 y9, LeO (spec_tiStretches.j1 k y0 y1 y2 y3 y4 y5 y6 y7 y8 y9) (spec_tiStretches.j1 (k + 1) y0 y1 y2 y3 y4 y5 y6 y7 y8 y9)) ∧ (∀ y0 y1 y2 y3 y4 y5 y6 y7 y8 y9, LeO (spec_tiStretches.l1 k y0 y1 y2 y3 y4 y5 y6 y7 y8 y9) (spec_tiStretches.l1 (k + 1) y0 y1 y2 y3 y4 y5 y6 y7 y8 y9)) ∧ (∀ y0 y1 y2 y3 y4 y5 y6 y7 y8 y9, LeO (spec_tiStretches.l2 k y0 y1 y2 y3 y4 y5 y6 y7 y8 y9) (spec_tiStretches.l2 (k + 1) y0 y1 y2 y3 y4 y5 y6 y7 y8 y9))
 | 0 => ⟨fun _ _ _ _ _ _ _ _ r h => by simp [spec_tiStretches.l0] at h, fun _ _ _ _ _ _ _ _ _ _ r h => by simp [spec_tiStretches.j1] at h, fun _ _ _ _ _ _ _ _ _ _ r h => by simp [spec_tiStretches.l1] at h, fun _ _ _ _ _ _ _ _ _ _ r h => by simp [spec_tiStretches.l2] at h⟩
 | k + 1 => by
  obtain ⟨ih0, ih1, ih2, ih3⟩ := spec_tiStretches.mono_l k
  refine ⟨?_, ?_, ?_, ?_⟩
  ·intro y0 y1 y2 y3 y4 y5 y6 y7
   unfold spec_tiStretches.l0
   have im0 := @spec_tiFirst.mono; exact mo
  ·intro y0 y1 y2 y3 y4 y5 y6 y7 y8 y9
   unfold spec_tiStretches.j1
   have im0 := @spec_tiFirst.mono; exact mo
  ·intro y0 y1 y2 y3 y4 y5 y6 y7 y8 y9
   unfold spec_tiStretches.l1
   have im0 := @spec_tiFirst.mono; exact mo
  ·intro y0 y1 y2 y3 y4 y5 y6 y7 y8 y9
   unfold spec_tiStretches.l2
   have im0 := @spec_tiFirst.mono; exact mo
set_option maxHeartbeats 8000000 in
set_option maxRecDepth 100000 in
theorem spec_tiStretches.calls (k : Nat) (a0_0 : Int) (a0_1 : Int) (A0_2 : Option Addr) (c0_2 : Nat) (l0_2 : List Int) (a1 : Int) (r : List (List Int)) (w : World) (hr0_2 : Kd.C (Kd.int .u8) w A0_2 l0_2.length l0_2) (hc0_2 : l0_2.length ≤ c0_2) (h : spec_tiStretches.f k a0_0 a0_1 l0_2 a1 = some r) :
  Calls Tryz.prog 125 #[.agg #[.int .i64 a0_0, .int .i64 a0_1, .slice A0_2 l0_2.length c0_2], .int .i64 a1] w fun e w' => ∃ v0_ : Value, e = .returned (v0_) ∧ Kd.N (Kd.slice 3 (Kd.int .i64)) 28 w' w.heap.size (fun k_ => (w.heap.size ≤ k_)) v0_ r ∧ Below w.heap.size w w' := by
 have hu62 := Tryz.underlying62
 have HR0_2 := am hr0_2
 have HC0_2 := am hc0_2
 clear hr0_2 hc0_2
 have HB := am (Below.refl w.heap.size w)
 have H : (spec_tiStretches.l0 k a1 ([] : List (List Int)) l0_2 (l0_2.length : Int) 0 a0_0 a0_1 l0_2) = some r := h
 clear h
 have H' := am H
 clear H
 go_enter Tryz.func125, Tryz.ntmps125
 go_wp2_with (first | ((with_reducible refine gate_dst (N := 2) rfl ?_); refine box_event ?hg (N := 2) ?hd (cs := #[.int .i64 a0_0, .int .i64 a0_1, .slice A0_2 l0_2.length c0_2]) (t := 62) ?hr ?_; (case hd => rfl); (case hg => rfl); (case hr => exact aq15); intro gb101 hg w3 hbox hb; have n0_ := am (below_step aq1 hb); have n1_ := am (hbox); have n2_ := am ((by rw [hg]; exact (below_size aq1) : w.heap.size ≤ gb101)); have n3_ := am ((by rw [hg]; exact (below_size aq1) : w.heap.size ≤ gb101)); clear HB; have HB := n0_; have BK101 := n1_; have GW101 := n2_; have GE101 := n3_; clear n0_ n1_ n2_ n3_; clear hb hbox hg; obtain ⟨hcz4_0, hcz4_1, hcz4_2, hfz4_0, hfz4_1, hfz4_2⟩ := blk3_ BK101.out))
 go_loopg [5, 15] k (fun kq v5 v15 w' => ∃ (x5_1 : List (List Int)) (x15_1 : Int), v15 = .int .i64 x15_1 ∧ Aside0 (spec_tiStretches.l0 kq a1 x5_1 l0_2 (l0_2.length : Int) x15_1 a0_0 a0_1 l0_2 = some r) ∧ Aside0 (kq ≤ k) ∧ Aside0 (Kd.N (Kd.slice 3 (Kd.int .i64)) 28 w' w.heap.size (fun k_ => (w.heap.size ≤ k_) ∧ k_ ≠ gb101) v5 x5_1) ∧ Aside0 (w'.heap[gb101]? = some (.cells #[.int .i64 a0_0, .int .i64 a0_1, (.slice A0_2 l0_2.length c0_2)] 62 (0, 0))) ∧ Aside0 (Below w.heap.size w w'))
 case atStart => exact ⟨(([] : List (List Int))), (0), aq7, H', ⟨Nat.le_refl _⟩, ⟨by first | exact Kd.S_nil _ _ _ _ _ | exact Kd.N_nil _ _ _ _ _ | exact Kd.V_nil _ _ _ _ _ | exact Kd.Q_nil _ _ _ _ _ | exact Kd.R_nil _ _ _ _ _⟩, ⟨aq2⟩, ⟨aq0⟩⟩
 case round =>
  clear H'
  try clear c1
  try clear p2
  try clear hcz4_0
  try clear hcz4_1
  try clear hcz4_2
  try clear hfz4_0
  try clear hfz4_1
  try clear hfz4_2
  obtain ⟨x5_1, x15_1, rfl, HA, HK1, HO_5, BK101, HB⟩ := hrel
  cases gk with
  | zero => exact absurd HA.out (by simp [spec_tiStretches.l0])
  | succ k1 =>
   have H := HA.out
   clear HA
   simp only [spec_tiStretches.l0] at H
   by_cases c5 : x15_1 < (l0_2.length : Int)
   ·rw [if_pos c5] at H
    have c5b0 := decide_eq_true c5
    clear c5
    by_cases c6 : 0 ≤ x15_1
    ·rw [if_pos c6] at H
     have c6b0 := decide_eq_true c6
     clear c6
     by_cases c7 : x15_1 < (l0_2.length : Int)
     ·rw [if_pos c7] at H
      have c7b0 := decide_eq_true c7
      clear c7
      have HC8 := am H
      clear H
      have p102 : 0 ≤ (x15_1 : Int) := of_decide_eq_true aq6
      have q102 : x15_1 < (l0_2.length : Int) := of_decide_eq_true aq6
      obtain ⟨ad102, e102, hx102_0⟩ := Kd.at_int HR0_2.out x15_1 p102 q102
      cases e102
      try replace hx102_0 := (HB.out.cell (World.block_lt_of_cell? w _ hx102_0)).trans hx102_0
      replace p102 := eq_true p102
      replace q102 := eq_true q102
      go_upto_region 5 with (fail)
      go_cut [28] (fun v28 wc => ∃ (kq : Nat) (x28_7 : Bool), v28 = .bool x28_7 ∧ Aside0 (spec_tiStretches.j1 kq a1 x5_1 x15_1 l0_2 (l0_2.length : Int) x15_1 x28_7 a0_0 a0_1 l0_2 = some r) ∧ Aside0 (kq ≤ k1) ∧ Aside0 (Kd.N (Kd.slice 3 (Kd.int .i64)) 28 wc w.heap.size (fun k_ => (w.heap.size ≤ k_) ∧ k_ ≠ gb101) u5 x5_1) ∧ Aside0 (wc.heap[gb101]? = some (.cells #[.int .i64 a0_0, .int .i64 a0_1, (.slice (some ad102) l0_2.length c0_2)] 62 (0, 0))) ∧ Aside0 (Below w.heap.size w wc))
      case first =>
       have H := HC8.out
       clear HC8
       by_cases c9 : (rd l0_2 x15_1) = 35
       ·rw [if_pos c9] at H
        have c9b0 := beq_iff_eq.mpr c9
        have c9b1 := bne_eq_false_iff_eq.mpr c9
        clear c9
        (first | rw [c9b0] | (simp only [i64_w, i32_w]; rw [c9b0]) | skip)
        have H' := am H
        clear H
        go_wp2
        go_meet
        case rel => exact ⟨_, (true), aq7, H', ⟨aq66⟩, ⟨aq16⟩, ⟨aq2⟩, ⟨aq0⟩⟩
       ·rw [if_neg c9] at H
        have c9b0 := beq_eq_false_iff_ne.mpr c9
        have c9b1 := bne_iff_ne.mpr c9
        (first | rw [c9b0] | (simp only [i64_w, i32_w]; rw [c9b0]) | skip)
        obtain ⟨t103, A100, H⟩ := Option.bind_eq_some_iff.mp H
        have A10 := am A100
        clear A100
        have H' := am H
        clear H
        obtain ⟨hcz11_0, hcz11_1, hcz11_2, hfz11_0, hfz11_1, hfz11_2⟩ := blk3_ BK101.out
        go_wp2_with (first | (go_at_call 165; (with_reducible refine (spec_tiAhead.calls a0_0 a0_1 _ _ l0_2 x15_1 a1 t103 _ ?side1 ?side2 A10.out).mono ?_); (case side1 => exact aq10); (case side2 => exact HC0_2.out); rintro e w12 ⟨rfl, hb⟩; have n0_ := am (Kd.N_below aq16 hb); have n1_ := am (blk_below (g := gb101) (o := .cells #[.int .i64 a0_0, .int .i64 a0_1, .slice (some ad102) l0_2.length c0_2] 62 (0, 0)) aq2 hb); have n2_ := am (below_step aq0 hb); clear HO_5; clear BK101; clear HB; have HO_5 := n0_; have BK101 := n1_; have HB := n2_; clear n0_ n1_ n2_; (try clear hb); (try clear hb2); (try clear hk); (try clear hi)))
        go_meet
        case rel => exact ⟨_, (decide (t103 ≥ 0)), aq7, H', ⟨aq66⟩, ⟨aq16⟩, ⟨aq2⟩, ⟨aq0⟩⟩
      case rest =>
       clear HC8
       try clear c1
       try clear p1
       try clear q1
       try clear hx1
       try clear p2
       try clear c5
       try clear c5b0
       try clear c6
       try clear c6b0
       try clear c7
       try clear c7b0
       try clear c9
       try clear c9b0
       try clear c9b1
       try clear p10
       try clear q10
       try clear hx10
       try clear c12
       try clear hcz11_0
       try clear hcz11_1
       try clear hcz11_2
       try clear hcz4_0
       try clear hcz4_1
       try clear hcz4_2
       try clear hfz11_0
       try clear hfz11_1
       try clear hfz11_2
       try clear hfz4_0
       try clear hfz4_1
       try clear hfz4_2
       try clear hx102_0
       try clear p102
       try clear p2
       try clear q102
       obtain ⟨kq, x28_7, rfl, HA, HJ7, HO_5, BK101, HB⟩ := hcut
       cases kq with
       | zero => exact absurd HA.out (by simp [spec_tiStretches.j1])
       | succ kj7 =>
        have H := HA.out
        clear HA
        simp only [spec_tiStretches.j1] at H
        by_cases c13 : x28_7 = true
        ·subst c13
         rw [if_pos rfl] at H
         have H' := am H
         clear H
         go_wp2
         go_roundg kj7
         case measure => have := HK1.out; have := HJ7.out; omega
         case rel => exact ⟨(x5_1), (wrap64 (x15_1 + 1)), aq7, H', ⟨by have := HK1.out; have := HJ7.out; omega⟩, ⟨aq16⟩, ⟨aq2⟩, ⟨aq0⟩⟩
        ·replace c13 := Bool.eq_false_iff.mpr c13
         subst c13
         rw [if_neg Bool.false_ne_true] at H
         obtain ⟨y104, hy_⟩ : ∃ y_ : List Int, y_ = (([x15_1] : List Int)) := ⟨_, rfl⟩
         replace H : ((spec_tiAhead.f a0_0 a0_1 l0_2 x15_1 (Int.tmod (wrap64 (a1 + 2)) 4)).bind fun t107 => (spec_tiStretches.l1 kj7 a1 x5_1 y104 t107 l0_2 (l0_2.length : Int) x15_1 a0_0 a0_1 l0_2)) = some r := aq4
         have Ny104 := am hy_
         clear hy_
         obtain ⟨t107, A140, H⟩ := Option.bind_eq_some_iff.mp H
         have A14 := am A140
         clear A140
         have H' := am H
         clear H
         go_wp2_with (first | ((with_reducible refine gate_dst (N := 30) rfl ?_); refine Kd.R_lit (Kd.int .i64) _ 3 ?hg (N := 30) ?hd (xs := ([x15_1] : List Int)) (inner := [.int .i64 x15_1]) (ok := fun _ => True) (okp := fun _ => True) ?hr ?hp (fun _ hk => hk) trivial (Below.refl _ _) (Nat.le_refl _) (by simp) ?_; (case hd => rfl); (case hg => rfl); (case hr => exact aq15); (case hp => exact (Reps.one (show Kd.M (Kd.int .i64) _ _ _ x15_1 [.int .i64 x15_1] from rfl) (Reps.none _ _))); intro v105 w15 ho16 hb hg_ hnew_; clear hg_ hnew_; (first | rw [← Ny104.out] at ho16 | (simp only [Int.reduceToNat] at ho16; rw [← Ny104.out] at ho16)); have n0_ := am (Kd.N_elder' aq16 (Kd.R_base ho16) hb); have n1_ := am (Kd.R_lower (Kd.R_newM (M := fun k_ => (w.heap.size ≤ k_)) ho16 (below_size aq0) (fun k_ h_ => h_)) (below_size aq0)); have n2_ := am (blk_below (g := gb101) (o := .cells #[.int .i64 a0_0, .int .i64 a0_1, .slice (some ad102) l0_2.length c0_2] 62 (0, 0)) aq2 hb); have n3_ := am (below_step aq0 hb); clear HO_5; clear BK101; clear HB; have HO_5 := n0_; have HO106 := n1_; have BK101 := n2_; have HB := n3_; clear n0_ n1_ n2_ n3_; clear hb ho16; obtain ⟨hcz17_0, hcz17_1, hcz17_2, hfz17_0, hfz17_1, hfz17_2⟩ := blk3_ BK101.out) | ((with_reducible refine gate_callee (f := 165) rfl ?_); refine goesL_ (some 36) rfl rfl Tryz.func165 (by kernel_rfl) rfl #[.agg #[.int .i64 a0_0, .int .i64 a0_1, .slice (some ad102) l0_2.length c0_2], .int .i64 x15_1, .int .i64 (Int.tmod (wrap64 (a1 + 2)) 4)] rfl aq5 ?_; (with_reducible refine (spec_tiAhead.calls a0_0 a0_1 _ _ l0_2 x15_1 (Int.tmod (wrap64 (a1 + 2)) 4) t107 _ ?side1 ?side2 A14.out).mono ?_); (case side1 => exact aq10); (case side2 => exact HC0_2.out); rintro e w18 ⟨rfl, hb⟩; refine ⟨_, rfl, ?_⟩; have n0_ := am (Kd.N_below aq16 hb); have n1_ := am (Kd.R_below (by (with_reducible repeat (first | apply Kd.R_alloc | apply Kd.R_drewN | apply Kd.R_drew)); exact HO106.out) hb); have n2_ := am (blk_below (g := gb101) (o := .cells #[.int .i64 a0_0, .int .i64 a0_1, .slice (some ad102) l0_2.length c0_2] 62 (0, 0)) aq2 hb); have n3_ := am (below_step aq0 hb); clear HO_5; clear HO106; clear BK101; clear HB; have HO_5 := n0_; have HO106 := n1_; have BK101 := n2_; have HB := n3_; clear n0_ n1_ n2_ n3_; (try clear hb); (try clear hb2); (try clear hk); (try clear hi)))
         go_loopg [8, 9] kj7 (fun kq v8 v9 w' => ∃ (x8_3 : List Int) (x9_3 : Int), v9 = .int .i64 x9_3 ∧ Aside0 (spec_tiStretches.l1 kq a1 x5_1 x8_3 x9_3 l0_2 (l0_2.length : Int) x15_1 a0_0 a0_1 l0_2 = some r) ∧ Aside0 (kq ≤ kj7) ∧ Aside0 (Kd.N (Kd.slice 3 (Kd.int .i64)) 28 w' w.heap.size (fun k_ => (w.heap.size ≤ k_) ∧ some k_ ≠ (v8 : Value).ownBlock ∧ k_ ≠ gb101) u5 x5_1) ∧ Aside0 (Kd.R (Kd.int .i64) 3 w' w.heap.size (fun k_ => (w.heap.size ≤ k_)) v8 x8_3) ∧ Aside0 (w'.heap[gb101]? = some (.cells #[.int .i64 a0_0, .int .i64 a0_1, (.slice (some ad102) l0_2.length c0_2)] 62 (0, 0))) ∧ Aside0 (Below w.heap.size w w'))
         case atStart => exact ⟨(y104), (t107), aq7, H', ⟨Nat.le_refl _⟩, ⟨aq99⟩, ⟨by (with_reducible repeat (first | apply Kd.R_alloc | apply Kd.R_drewN | apply Kd.R_drew)); exact Kd.R_mono HO106.out (fun _ hk => hk.1)⟩, ⟨aq2⟩, ⟨aq0⟩⟩
         case round =>
          clear H'
          try clear c1
          try clear p1
          try clear q1
          try clear hx1
          try clear p2
          try clear c5
          try clear c5b0
          try clear c6
          try clear c6b0
          try clear p6
          try clear c7
          try clear c7b0
          try clear c9
          try clear c9b0
          try clear c9b1
          try clear p10
          try clear q10
          try clear hx10
          try clear c12
          try clear c13
          try clear c16
          try clear hcz11_0
          try clear hcz11_1
          try clear hcz11_2
          try clear hcz17_0
          try clear hcz17_1
          try clear hcz17_2
          try clear hcz4_0
          try clear hcz4_1
          try clear hcz4_2
          try clear hfz11_0
          try clear hfz11_1
          try clear hfz11_2
          try clear hfz17_0
          try clear hfz17_1
          try clear hfz17_2
          try clear hfz4_0
          try clear hfz4_1
          try clear hfz4_2
          try clear hx102_0
          try clear p1
          try clear p10
          try clear p102
          try clear p2
          try clear q1
          try clear q10
          try clear q102
          obtain ⟨x8_3, x9_3, rfl, HA, HK3, HO_5, HO_8, BK101, HB⟩ := hrel
          cases gk with
          | zero => exact absurd HA.out (by simp [spec_tiStretches.l1])
          | succ k3 =>
           have H := HA.out
           clear HA
           simp only [spec_tiStretches.l1] at H
           by_cases c19 : x9_3 ≥ 0
           ·rw [if_pos c19] at H
            have c19b0 := decide_eq_true c19
            clear c19
            by_cases c20 : x8_3.length < 17592186044416
            ·rw [if_pos c20] at H
             have LMc20 := am c20
             clear c20
             obtain ⟨y108, hy_⟩ : ∃ y_ : List Int, y_ = (x8_3 ++ [x9_3]) := ⟨_, rfl⟩
             replace H : ((spec_tiAhead.f a0_0 a0_1 l0_2 x9_3 (Int.tmod (wrap64 (a1 + 2)) 4)).bind fun t111 => (spec_tiStretches.l1 k3 a1 x5_1 y108 t111 l0_2 (l0_2.length : Int) x15_1 a0_0 a0_1 l0_2)) = some r := aq4
             have Ny108 := am hy_
             clear hy_
             obtain ⟨t111, A210, H⟩ := Option.bind_eq_some_iff.mp H
             have A21 := am A210
             clear A210
             have H' := am H
             clear H
             go_wp2_with (first | ((with_reducible refine gate_builtin (b := .append) (xs := #[.tmp 45, .tmp 47]) rfl ?_); at_builtin; refine Kd.R_append (Kd.int .i64) (w0 := w) w.heap.size rfl (.tmp 45) (.tmp 47) 28 3 (.int .i64 0) 8 rfl Tryz.underlying28 info3 rfl (by decide) (by omega) u8 x8_3 x9_3 [.int .i64 x9_3] (fun k_ => (w.heap.size ≤ k_)) (fun _ => False) rfl rfl ?aP (fun _ hk => hk.elim) ?aF ?aO ?aB ?aS ?aL ?_; (case aP => exact rfl); (case aB => exact aq0); (case aF => exact (fun k_ hk => (Nat.le_trans (below_size aq0) hk))); (case aO => exact aq13); (case aS => exact aq71); (case aL => have := LMc20.out; omega); intro v109 w22 ho hb hg hat; rw [← Ny108.out] at ho; have n0_ := am (Kd.N_afterv (ok := (fun k_ => (w.heap.size ≤ k_) ∧ k_ ≠ gb101)) (by (with_reducible repeat (first | apply Kd.N_alloc | apply Kd.N_drewN | apply Kd.N_drew)); exact Kd.N_mono HO_5.out (fun _ hk => ⟨⟨hk.1, hk.2.2⟩, hk.2.1⟩)) hg hat); have n1_ := am (blk_grown (g := gb101) (o := .cells #[.int .i64 a0_0, .int .i64 a0_1, .slice (some ad102) l0_2.length c0_2] 62 (0, 0)) aq2 hg (Kd.R_ne HO_8.out BK101.out (by decide))); have n2_ := am (hb); have n3_ := am (ho); clear HO_5; clear BK101; clear HB; clear HO_8; have HO_5 := n0_; have BK101 := n1_; have HB := n2_; have HO110 := n3_; clear n0_ n1_ n2_ n3_; clear ho hb hg hat; obtain ⟨hcz23_0, hcz23_1, hcz23_2, hfz23_0, hfz23_1, hfz23_2⟩ := blk3_ BK101.out) | ((with_reducible refine gate_callee (f := 165) rfl ?_); refine goesL_ (some 44) rfl rfl Tryz.func165 (by kernel_rfl) rfl #[.agg #[.int .i64 a0_0, .int .i64 a0_1, .slice (some ad102) l0_2.length c0_2], .int .i64 x9_3, .int .i64 (Int.tmod (wrap64 (a1 + 2)) 4)] rfl aq5 ?_; (with_reducible refine (spec_tiAhead.calls a0_0 a0_1 _ _ l0_2 x9_3 (Int.tmod (wrap64 (a1 + 2)) 4) t111 _ ?side1 ?side2 A21.out).mono ?_); (case side1 => exact aq10); (case side2 => exact HC0_2.out); rintro e w24 ⟨rfl, hb⟩; refine ⟨_, rfl, ?_⟩; have n0_ := am (Kd.N_below aq16 hb); have n1_ := am (Kd.R_below (by (with_reducible repeat (first | apply Kd.R_alloc | apply Kd.R_drewN | apply Kd.R_drew)); exact HO110.out) hb); have n2_ := am (blk_below (g := gb101) (o := .cells #[.int .i64 a0_0, .int .i64 a0_1, .slice (some ad102) l0_2.length c0_2] 62 (0, 0)) aq2 hb); have n3_ := am (below_step aq0 hb); clear HO_5; clear HO110; clear BK101; clear HB; have HO_5 := n0_; have HO110 := n1_; have BK101 := n2_; have HB := n3_; clear n0_ n1_ n2_ n3_; (try clear hb); (try clear hb2); (try clear hk); (try clear hi)))
             go_roundg k3
             case measure => have := HK1.out; have := HJ7.out; have := HK3.out; omega
             case rel => exact ⟨(y108), (t111), aq7, H', ⟨by have := HK1.out; have := HJ7.out; have := HK3.out; omega⟩, ⟨aq99⟩, ⟨by (with_reducible repeat (first | apply Kd.R_alloc | apply Kd.R_drewN | apply Kd.R_drew)); exact HO110.out⟩, ⟨aq2⟩, ⟨aq0⟩⟩
            ·rw [if_neg c20] at H
             exact absurd H (by simp)
           ·rw [if_neg c19] at H
            have c19b0 := decide_eq_false c19
            clear c19
            have H' := am H
            clear H
            go_wp2
            go_loopg [10] k3 (fun kq v10 w' => ∃ (x10_4 : Int), v10 = .int .i64 x10_4 ∧ Aside0 (spec_tiStretches.l2 kq a1 x5_1 x8_3 x10_4 l0_2 (l0_2.length : Int) x15_1 a0_0 a0_1 l0_2 = some r) ∧ Aside0 (kq ≤ k3) ∧ Aside0 (Kd.N (Kd.slice 3 (Kd.int .i64)) 28 w' w.heap.size (fun k_ => (w.heap.size ≤ k_) ∧ some k_ ≠ (u8 : Value).ownBlock ∧ k_ ≠ gb101) u5 x5_1) ∧ Aside0 (Kd.R (Kd.int .i64) 3 w' w.heap.size (fun k_ => (w.heap.size ≤ k_)) u8 x8_3) ∧ Aside0 (w'.heap[gb101]? = some (.cells #[.int .i64 a0_0, .int .i64 a0_1, (.slice (some ad102) l0_2.length c0_2)] 62 (0, 0))) ∧ Aside0 (Below w.heap.size w w'))
            case atStart => exact ⟨(0), aq7, H', ⟨Nat.le_refl _⟩, ⟨aq16⟩, ⟨aq13⟩, ⟨aq2⟩, ⟨aq0⟩⟩
            case round =>
             clear H'
             try clear c1
             try clear p1
             try clear q1
             try clear hx1
             try clear c2
             try clear p2
             try clear c5
             try clear c5b0
             try clear c6
             try clear c6b0
             try clear p6
             try clear c7
             try clear c7b0
             try clear c9
             try clear c9b0
             try clear c9b1
             try clear p10
             try clear q10
             try clear hx10
             try clear c12
             try clear c13
             try clear c16
             try clear c19
             try clear c19b0
             try clear c20
             try clear hcz11_0
             try clear hcz11_1
             try clear hcz11_2
             try clear hcz17_0
             try clear hcz17_1
             try clear hcz17_2
             try clear hcz23_0
             try clear hcz23_1
             try clear hcz23_2
             try clear hcz4_0
             try clear hcz4_1
             try clear hcz4_2
             try clear hfz11_0
             try clear hfz11_1
             try clear hfz11_2
             try clear hfz17_0
             try clear hfz17_1
             try clear hfz17_2
             try clear hfz23_0
             try clear hfz23_1
             try clear hfz23_2
             try clear hfz4_0
             try clear hfz4_1
             try clear hfz4_2
             try clear hx102_0
             try clear p1
             try clear p10
             try clear p102
             try clear p2
             try clear p6
             try clear q1
             try clear q10
             try clear q102
             obtain ⟨x10_4, rfl, HA, HK4, HO_5, HO_8, BK101, HB⟩ := hrel
             cases gk with
             | zero => exact absurd HA.out (by simp [spec_tiStretches.l2])
             | succ k4 =>
              have H := HA.out
              clear HA
              simp only [spec_tiStretches.l2] at H
              by_cases c25 : x10_4 < (x5_1.length : Int)
              ·rw [if_pos c25] at H
               have c25b0 := decide_eq_true c25
               clear c25
               by_cases c26 : 0 ≤ x10_4
               ·rw [if_pos c26] at H
                have c26b0 := decide_eq_true c26
                clear c26
                obtain ⟨t113, A270, H⟩ := Option.bind_eq_some_iff.mp H
                have A27 := am A270
                clear A270
                obtain ⟨t114, A280, H⟩ := Option.bind_eq_some_iff.mp H
                have A28 := am A280
                clear A280
                by_cases c29 : t113 < t114
                ·rw [if_pos c29] at H
                 have c29b0 := decide_eq_true c29
                 clear c29
                 have H' := am H
                 clear H
                 obtain ⟨Ao30, co30, eo30⟩ := Kd.N_slice HO_5.out
                 subst eo30
                 have p112 : 0 ≤ (x10_4 : Int) := of_decide_eq_true aq6
                 have q112 : x10_4 < (x5_1.length : Int) := of_decide_eq_true aq6
                 obtain ⟨ad112, A112_0, c112_0, e112, hx112_0, hl112_0, hi112_0⟩ := at_L3 (Kd.N_reads' HO_5.out).2.2 x10_4 p112 q112
                 cases e112
                 obtain ⟨ce112, hce112, hMe112, hcc112⟩ := Kd.N_get HO_5.out [] x10_4 p112 (by first | exact q112 | exact of_decide_eq_true aq6 | (have e_ := (Kd.N_reads' HO_5.out).1; omega))
                 obtain ⟨ua112_0, uc112_0, rfl, ul112_0, ge112_0⟩ := Kd.FK_slice_open hMe112
                 have hv112_0 := hcc112 0 _ rfl
                 rw [Nat.add_zero, show ((Kd.slice 3 (Kd.int .i64))).sz = 1 from rfl, Nat.mul_one] at hv112_0
                 replace hv112_0 := Option.some.inj (hv112_0.symm.trans hx112_0)
                 injection hv112_0 with hva_ hvn_ hvc_
                 rw [hva_] at ge112_0
                 rw [hvc_] at ul112_0
                 have HL112_0 := am (show Kd.V (Kd.int .i64) 3 _ w.heap.size _ _ (rd_L3 x5_1 x10_4) from Kd.V_mk ul112_0 ge112_0)
                 clear hva_ hvn_ hvc_ ge112_0 ul112_0
                 clear hcc112 hce112
                 have HR112_0 := am hi112_0
                 have HC112_0 := am hl112_0
                 clear hi112_0 hl112_0
                 replace p112 := eq_true p112
                 replace q112 := eq_true q112
                 go_wp2_with (first | (go_at_call 166; (with_reducible refine (spec_tiFirst.calls k4 _ _ (rd_L3 x5_1 x10_4) t113 _ ?side1 ?side2 A27.out).mono ?_); (case side1 => exact aq106); (case side2 => exact HC112_0.out); rintro e w' ⟨rfl, ⟨nd, rfl⟩⟩; obtain ⟨Ao31, co31, eo31⟩ := Kd.R_slice HO_8.out; subst eo31) | (go_at_call 166; (with_reducible refine (spec_tiFirst.calls k4 _ _ x8_3 t114 _ ?side1 ?side2 A28.out).mono ?_); (case side1 => exact aq93); (case side2 => exact (Kd.R_reads' HO_8.out).2.1); rintro e w' ⟨rfl, ⟨nd, rfl⟩⟩))
                 go_roundg k4
                 case measure => have := HK1.out; have := HJ7.out; have := HK3.out; have := HK4.out; omega
                 case rel => exact ⟨(wrap64 (x10_4 + 1)), aq7, H', ⟨aq97⟩, ⟨aq16⟩, ⟨aq13⟩, ⟨aq2⟩, ⟨aq0⟩⟩
                ·rw [if_neg c29] at H
                 have c29b0 := decide_eq_false c29
                 clear c29
                 obtain ⟨y115, hy_⟩ : ∃ y_ : List (List Int), y_ = (([] : List (List Int))) := ⟨_, rfl⟩
                 replace H : (if x10_4 ≤ (x5_1.length : Int) then ((some (x5_1.take (x10_4 : Int).toNat : List (List Int))).bind fun y118 => (if y115.length + y118.length < 5864062014805 then ((some (y115 ++ y118 : List (List Int))).bind fun y123 => (if y123.length < 5864062014805 then ((some (y123 ++ [x8_3] : List (List Int))).bind fun y126 => ((some (x5_1.drop (x10_4 : Int).toNat : List (List Int))).bind fun y129 => (if y126.length + y129.length < 5864062014805 then (spec_tiStretches.l0 k4 a1 (y126 ++ y129) l0_2 (l0_2.length : Int) (wrap64 (x15_1 + 1)) a0_0 a0_1 l0_2) else (none)))) else (none))) else (none))) else (none)) = some r := aq4
                 have Ny115 := am hy_
                 clear hy_
                 have c32b0 := eq_true (of_decide_eq_true aq6 : 0 ≤ x10_4)
                 by_cases c33 : x10_4 ≤ (x5_1.length : Int)
                 ·rw [if_pos c33] at H
                  have c33b0 := eq_true c33
                  have c33b1 := decide_eq_true c33
                  clear c33
                  obtain ⟨y118, hy_⟩ : ∃ y_ : List (List Int), y_ = (x5_1.take (x10_4 : Int).toNat) := ⟨_, rfl⟩
                  replace H : (if y115.length + y118.length < 5864062014805 then ((some (y115 ++ y118 : List (List Int))).bind fun y123 => (if y123.length < 5864062014805 then ((some (y123 ++ [x8_3] : List (List Int))).bind fun y126 => ((some (x5_1.drop (x10_4 : Int).toNat : List (List Int))).bind fun y129 => (if y126.length + y129.length < 5864062014805 then (spec_tiStretches.l0 k4 a1 (y126 ++ y129) l0_2 (l0_2.length : Int) (wrap64 (x15_1 + 1)) a0_0 a0_1 l0_2) else (none)))) else (none))) else (none)) = some r := aq4
                  have Ny118 := am hy_
                  clear hy_
                  by_cases c34 : y115.length + y118.length < 5864062014805
                  ·rw [if_pos c34] at H
                   have LMc34 := am c34
                   clear c34
                   obtain ⟨y123, hy_⟩ : ∃ y_ : List (List Int), y_ = (y115 ++ y118) := ⟨_, rfl⟩
                   replace H : (if y123.length < 5864062014805 then ((some (y123 ++ [x8_3] : List (List Int))).bind fun y126 => ((some (x5_1.drop (x10_4 : Int).toNat : List (List Int))).bind fun y129 => (if y126.length + y129.length < 5864062014805 then (spec_tiStretches.l0 k4 a1 (y126 ++ y129) l0_2 (l0_2.length : Int) (wrap64 (x15_1 + 1)) a0_0 a0_1 l0_2) else (none)))) else (none)) = some r := aq4
                   have Ny123 := am hy_
                   clear hy_
                   by_cases c35 : y123.length < 5864062014805
                   ·rw [if_pos c35] at H
                    have LMc35 := am c35
                    clear c35
                    obtain ⟨y126, hy_⟩ : ∃ y_ : List (List Int), y_ = (y123 ++ [x8_3]) := ⟨_, rfl⟩
                    replace H : ((some (x5_1.drop (x10_4 : Int).toNat : List (List Int))).bind fun y129 => (if y126.length + y129.length < 5864062014805 then (spec_tiStretches.l0 k4 a1 (y126 ++ y129) l0_2 (l0_2.length : Int) (wrap64 (x15_1 + 1)) a0_0 a0_1 l0_2) else (none))) = some r := aq4
                    have Ny126 := am hy_
                    clear hy_
                    have c36b0 := eq_true (of_decide_eq_true aq6 : 0 ≤ x10_4)
                    have c37b0 := eq_true (of_decide_eq_true aq6 : x10_4 ≤ (x5_1.length : Int))
                    obtain ⟨y129, hy_⟩ : ∃ y_ : List (List Int), y_ = (x5_1.drop (x10_4 : Int).toNat) := ⟨_, rfl⟩
                    replace H : (if y126.length + y129.length < 5864062014805 then (spec_tiStretches.l0 k4 a1 (y126 ++ y129) l0_2 (l0_2.length : Int) (wrap64 (x15_1 + 1)) a0_0 a0_1 l0_2) else (none)) = some r := aq4
                    have Ny129 := am hy_
                    clear hy_
                    by_cases c38 : y126.length + y129.length < 5864062014805
                    ·rw [if_pos c38] at H
                     have LMc38 := am c38
                     clear c38
                     obtain ⟨y134, hy_⟩ : ∃ y_ : List (List Int), y_ = (y126 ++ y129) := ⟨_, rfl⟩
                     replace H : (spec_tiStretches.l0 k4 a1 y134 l0_2 (l0_2.length : Int) (wrap64 (x15_1 + 1)) a0_0 a0_1 l0_2) = some r := aq4
                     have Ny134 := am hy_
                     clear hy_
                     have H' := am H
                     clear H
                     obtain ⟨Ao39, co39, eo39⟩ := Kd.N_slice HO_5.out
                     subst eo39
                     have p112 : 0 ≤ (x10_4 : Int) := of_decide_eq_true aq6
                     have q112 : x10_4 < (x5_1.length : Int) := of_decide_eq_true aq6
                     obtain ⟨ad112, A112_0, c112_0, e112, hx112_0, hl112_0, hi112_0⟩ := at_L3 (Kd.N_reads' HO_5.out).2.2 x10_4 p112 q112
                     cases e112
                     obtain ⟨ce112, hce112, hMe112, hcc112⟩ := Kd.N_get HO_5.out [] x10_4 p112 (by first | exact q112 | exact of_decide_eq_true aq6 | (have e_ := (Kd.N_reads' HO_5.out).1; omega))
                     obtain ⟨ua112_0, uc112_0, rfl, ul112_0, ge112_0⟩ := Kd.FK_slice_open hMe112
                     have hv112_0 := hcc112 0 _ rfl
                     rw [Nat.add_zero, show ((Kd.slice 3 (Kd.int .i64))).sz = 1 from rfl, Nat.mul_one] at hv112_0
                     replace hv112_0 := Option.some.inj (hv112_0.symm.trans hx112_0)
                     injection hv112_0 with hva_ hvn_ hvc_
                     rw [hva_] at ge112_0
                     rw [hvc_] at ul112_0
                     have HL112_0 := am (show Kd.V (Kd.int .i64) 3 _ w.heap.size _ _ (rd_L3 x5_1 x10_4) from Kd.V_mk ul112_0 ge112_0)
                     clear hva_ hvn_ hvc_ ge112_0 ul112_0
                     clear hcc112 hce112
                     have HR112_0 := am hi112_0
                     have HC112_0 := am hl112_0
                     clear hi112_0 hl112_0
                     replace p112 := eq_true p112
                     replace q112 := eq_true q112
                     go_wp2_with (first | (go_at_call 166; (with_reducible refine (spec_tiFirst.calls k4 _ _ (rd_L3 x5_1 x10_4) t113 _ ?side1 ?side2 A27.out).mono ?_); (case side1 => exact aq106); (case side2 => exact HC112_0.out); rintro e w' ⟨rfl, ⟨nd, rfl⟩⟩; obtain ⟨Ao40, co40, eo40⟩ := Kd.R_slice HO_8.out; subst eo40) | (go_at_call 166; (with_reducible refine (spec_tiFirst.calls k4 _ _ x8_3 t114 _ ?side1 ?side2 A28.out).mono ?_); (case side1 => exact aq93); (case side2 => exact (Kd.R_reads' HO_8.out).2.1); rintro e w' ⟨rfl, ⟨nd, rfl⟩⟩) | ((with_reducible refine gate_dst (N := 65) rfl ?_); refine Kd.N_lit (Kd.slice 3 (Kd.int .i64)) _ 28 ?hg (N' := 65) ?hd (xs := ([] : List (List Int))) (inner := []) (ok := (fun k_ => (w.heap.size ≤ k_) ∧ some k_ ≠ (.slice (some ad112) x5_1.length co39 : Value).ownBlock ∧ some k_ ≠ (.slice Ao40 x8_3.length co40 : Value).ownBlock ∧ k_ ≠ gb101)) (okp := (fun k_ => (w.heap.size ≤ k_) ∧ some k_ ≠ (.slice (some ad112) x5_1.length co39 : Value).ownBlock ∧ some k_ ≠ (.slice Ao40 x8_3.length co40 : Value).ownBlock ∧ k_ ≠ gb101)) ?hr ?hp (fun _ hk => hk) ((show ∀ k_, wr.heap.size ≤ k_ → (fun k_ => (w.heap.size ≤ k_) ∧ some k_ ≠ (.slice (some ad112) x5_1.length co39 : Value).ownBlock ∧ some k_ ≠ (.slice Ao40 x8_3.length co40 : Value).ownBlock ∧ k_ ≠ gb101) k_ from fun k_ hk => ⟨(Nat.le_trans (below_size aq0) hk), Kd.fresh' (Kd.N_lt aq16) k_ hk, Kd.fresh' (Kd.R_lt aq13) k_ hk, Kd.freshB (g := gb101) (o := .cells #[.int .i64 a0_0, .int .i64 a0_1, .slice (some ad102) l0_2.length c0_2] 62 (0, 0)) aq2 k_ hk⟩) _ (Nat.le_refl _)) (Below.refl _ _) (Nat.le_refl _) (by simp) ?_; (case hd => rfl); (case hg => rfl); (case hr => exact aq15); (case hp => exact (Reps.none _ _)); intro v116 w41 ho42 hb hg_ hnew_; clear hg_ hnew_; (first | rw [← Ny115.out] at ho42 | (simp only [Int.reduceToNat] at ho42; rw [← Ny115.out] at ho42)); have n0_ := am (Kd.N_elder' aq16 (Kd.N_base ho42) hb); have n1_ := am (Kd.R_below aq13 hb); have n2_ := am (Kd.V_elder' (by (with_reducible repeat (first | apply Kd.V_alloc | apply Kd.V_drewN | apply Kd.V_drew)); exact HL112_0.out) (Kd.N_base ho42) hb); have n3_ := am (Kd.N_lower ho42 (below_size aq0)); have n4_ := am (blk_below (g := gb101) (o := .cells #[.int .i64 a0_0, .int .i64 a0_1, .slice (some ad102) l0_2.length c0_2] 62 (0, 0)) aq2 hb); have n5_ := am (Kd.C_below aq55 hb); have n6_ := am (below_step aq0 hb); clear HO_5; clear HO_8; clear HL112_0; clear BK101; clear HR112_0; clear HB; have HO_5 := n0_; have HO_8 := n1_; have HL112_0 := n2_; have HO117 := n3_; have BK101 := n4_; have HR112_0 := n5_; have HB := n6_; clear n0_ n1_ n2_ n3_ n4_ n5_ n6_; clear hb ho42; have q43 : (x10_4 : Int) ≤ ((x5_1.length : Int) : Int) := of_decide_eq_true aq6; obtain ⟨i043, hi043, _, hsz43, _⟩ := info_parts info28; have hroom43 : x5_1.length ≤ co39 := (Kd.N_reads' HO_5.out).2.1; have hC43 : Kd.F (Kd.slice 3 (Kd.int .i64)) _ _ (some ad112) x5_1.length x5_1 := (Kd.V_at (base := w.heap.size) (Kd.N_V HO_5.out)).2.2; have hcut43 := cut_to (P := Tryz.prog) 40 28 .i64 Tryz.underlying40 hi043 (some ad112) x5_1.length co39 x10_4 (of_decide_eq_true aq6) q43 hroom43; have hr43 := Kd.F_take (m := (x10_4 : Int).toNat) hC43 (by omega); have hy43 : y118.length = (x10_4 : Int).toNat := (by rw [Ny118.out, List.length_take]; omega); rw [← Ny118.out] at hr43; rw [← hy43] at hcut43; have HO122 := am (show Kd.V (Kd.slice 3 (Kd.int .i64)) 28 _ w.heap.size _ (.slice (some ad112) y118.length co39) y118 from Kd.V_mk (by omega) hr43); have HC122 := am (show y118.length ≤ co39 from by omega); clear hr43 hC43 hroom43 hi043 hsz43; have KY43 := am hy43; clear hy43; replace q43 := eq_true q43) | ((with_reducible refine gate_builtin (b := .append) (xs := #[.tmp 65, .tmp 68]) rfl ?_); at_builtin; refine Kd.N_append_rows (Kd.slice 3 (Kd.int .i64)) (w0 := w) w.heap.size rfl (.tmp 65) (.tmp 68) 40 28 (.slice none 0 0) 24 rfl Tryz.underlying40 info28 rfl (by decide) (by omega) v116 y115 y118 _ _ _ (fun k_ => (w.heap.size ≤ k_) ∧ some k_ ≠ (.slice Ao40 x8_3.length co40 : Value).ownBlock ∧ k_ ≠ gb101) (fun k_ => ((fun k_ => (w.heap.size ≤ k_) ∧ some k_ ≠ (.slice Ao40 x8_3.length co40 : Value).ownBlock ∧ k_ ≠ gb101)) k_ ∧ some k_ ≠ (v116 : Value).ownBlock) rfl rfl ?aO ?aR (fun _ hk => hk) ?aF ?aB ?aS ?aL ?_; (case aR => exact (by skip; exact Kd.V_F (Kd.V_mono (ok' := (fun k_ => ((fun k_ => (w.heap.size ≤ k_) ∧ some k_ ≠ (.slice Ao40 x8_3.length co40 : Value).ownBlock ∧ k_ ≠ gb101)) k_ ∧ some k_ ≠ (v116 : Value).ownBlock)) (HO122.out) (fun k_ hk => ⟨⟨hk.1.1, ⟨hk.1.2.1, hk.1.2.2⟩⟩, hk.2⟩)))); (case aB => exact aq0); (case aF => exact aq80); (case aO => exact (by (with_reducible repeat (first | apply Kd.N_alloc | apply Kd.N_drewN | apply Kd.N_drew)); exact Kd.N_mono HO117.out (fun _ hk => ⟨hk.1, ⟨hk.2.2.1, hk.2.2.2⟩⟩))); (case aS => exact aq71); (case aL => have := LMc34.out; omega); intro v124 w44 ho hb hg hat; rw [← Ny123.out] at ho; have n0_ := am (Kd.N_afterv (ok := (fun k_ => (w.heap.size ≤ k_) ∧ some k_ ≠ (.slice Ao40 x8_3.length co40 : Value).ownBlock ∧ k_ ≠ gb101)) aq16 hg hat); have n1_ := am (Kd.R_over' aq13 (Kd.N_typed (by (with_reducible repeat (first | apply Kd.N_alloc | apply Kd.N_drewN | apply Kd.N_drew)); exact HO117.out)) (by decide) hg); have n2_ := am (blk_grown (g := gb101) (o := .cells #[.int .i64 a0_0, .int .i64 a0_1, .slice (some ad102) l0_2.length c0_2] 62 (0, 0)) aq2 hg (Kd.N_ne HO117.out BK101.out (by decide))); have n3_ := am (Kd.V_afterv (ok := (fun k_ => (w.heap.size ≤ k_) ∧ some k_ ≠ (.slice (some ad112) x5_1.length co39 : Value).ownBlock ∧ some k_ ≠ (.slice Ao40 x8_3.length co40 : Value).ownBlock ∧ k_ ≠ gb101)) (by (with_reducible repeat (first | apply Kd.V_alloc | apply Kd.V_drewN | apply Kd.V_drew)); exact Kd.V_mono HL112_0.out (fun _ hk => ⟨⟨hk.1.1.1, ⟨hk.1.2, ⟨hk.1.1.2.1, hk.1.1.2.2⟩⟩⟩, hk.2⟩)) hg hat); have n4_ := am (Kd.V_afterv (ok := (fun k_ => (w.heap.size ≤ k_) ∧ some k_ ≠ (.slice Ao40 x8_3.length co40 : Value).ownBlock ∧ k_ ≠ gb101)) (by (with_reducible repeat (first | apply Kd.V_alloc | apply Kd.V_drewN | apply Kd.V_drew)); exact HO122.out) hg hat); have n5_ := am (hb); have n6_ := am (ho); clear HO_5; clear HO_8; clear BK101; clear HL112_0; clear HO122; clear HB; clear HO117; have HO_5 := n0_; have HO_8 := n1_; have BK101 := n2_; have HL112_0 := n3_; have HO122 := n4_; have HB := n5_; have HO125 := n6_; clear n0_ n1_ n2_ n3_ n4_ n5_ n6_; clear ho hb hg hat) | ((with_reducible refine gate_builtin (b := .append) (xs := #[.tmp 69, .tmp 71]) rfl ?_); at_builtin; refine Kd.N_append (Kd.slice 3 (Kd.int .i64)) (w0 := w) w.heap.size rfl (.tmp 69) (.tmp 71) 40 28 (.slice none 0 0) 24 rfl Tryz.underlying40 info28 rfl (by decide) (by omega) v124 y123 x8_3 [.slice Ao40 x8_3.length co40] (fun k_ => (w.heap.size ≤ k_) ∧ k_ ≠ gb101) (fun k_ => ((fun k_ => (w.heap.size ≤ k_) ∧ k_ ≠ gb101)) k_ ∧ some k_ ≠ (v124 : Value).ownBlock) rfl rfl ?aP (fun _ hk => hk) ?aF ?aO ?aB ?aS ?aL ?_; (case aP => exact (Kd.FK_slice_mk (Kd.R_reads' (Kd.R_mono (ok' := (fun k_ => ((fun k_ => (w.heap.size ≤ k_) ∧ k_ ≠ gb101)) k_ ∧ some k_ ≠ (v124 : Value).ownBlock)) (Kd.R_types (Kd.R_apart' (HO_8.out) (Kd.N_typed HO125.out) (by decide)) BK101.out (by decide)) (fun k_ hk => ⟨⟨hk.1.1, hk.2⟩, hk.1.2⟩))).2.1 (Kd.R_F (Kd.R_mono (ok' := (fun k_ => ((fun k_ => (w.heap.size ≤ k_) ∧ k_ ≠ gb101)) k_ ∧ some k_ ≠ (v124 : Value).ownBlock)) (Kd.R_types (Kd.R_apart' (HO_8.out) (Kd.N_typed HO125.out) (by decide)) BK101.out (by decide)) (fun k_ hk => ⟨⟨hk.1.1, hk.2⟩, hk.1.2⟩))))); (case aB => exact aq0); (case aF => exact aq44); (case aO => exact (by (with_reducible repeat (first | apply Kd.N_alloc | apply Kd.N_drewN | apply Kd.N_drew)); exact Kd.N_mono HO125.out (fun _ hk => ⟨hk.1, hk.2.2⟩))); (case aS => exact aq71); (case aL => have := LMc35.out; omega); intro v127 w45 ho hb hg hat; rw [← Ny126.out] at ho; have n0_ := am (Kd.N_afterv (ok := (fun k_ => (w.heap.size ≤ k_) ∧ some k_ ≠ (.slice Ao40 x8_3.length co40 : Value).ownBlock ∧ k_ ≠ gb101)) aq16 hg hat); have n1_ := am (blk_grown (g := gb101) (o := .cells #[.int .i64 a0_0, .int .i64 a0_1, .slice (some ad102) l0_2.length c0_2] 62 (0, 0)) aq2 hg (Kd.N_ne HO125.out BK101.out (by decide))); have n2_ := am (Kd.V_afterv (ok := (fun k_ => (w.heap.size ≤ k_) ∧ some k_ ≠ (.slice (some ad112) x5_1.length co39 : Value).ownBlock ∧ some k_ ≠ (.slice Ao40 x8_3.length co40 : Value).ownBlock ∧ k_ ≠ gb101)) (by (with_reducible repeat (first | apply Kd.V_alloc | apply Kd.V_drewN | apply Kd.V_drew)); exact HL112_0.out) hg hat); have n3_ := am (Kd.V_afterv (ok := (fun k_ => (w.heap.size ≤ k_) ∧ some k_ ≠ (.slice Ao40 x8_3.length co40 : Value).ownBlock ∧ k_ ≠ gb101)) (by (with_reducible repeat (first | apply Kd.V_alloc | apply Kd.V_drewN | apply Kd.V_drew)); exact HO122.out) hg hat); have n4_ := am (hb); have n5_ := am (ho); clear HO_5; clear BK101; clear HL112_0; clear HO122; clear HB; clear HO125; clear HO_8; have HO_5 := n0_; have BK101 := n1_; have HL112_0 := n2_; have HO122 := n3_; have HB := n4_; have HO128 := n5_; clear n0_ n1_ n2_ n3_ n4_ n5_; clear ho hb hg hat; have q46 : (x10_4 : Int) ≤ ((x5_1.length : Int) : Int) := of_decide_eq_true aq6; obtain ⟨i046, hi046, _, hsz46, _⟩ := info_parts info28; have hroom46 : x5_1.length ≤ co39 := (Kd.N_reads' HO_5.out).2.1; have hC46 : Kd.F (Kd.slice 3 (Kd.int .i64)) _ _ (some ad112) x5_1.length x5_1 := (Kd.V_at (base := w.heap.size) (Kd.N_V HO_5.out)).2.2; have q046 : (0 : Int) ≤ (x10_4 : Int) := of_decide_eq_true aq6; have hcut46 := cut_from (P := Tryz.prog) 40 28 .i64 Tryz.underlying40 hi046 1 hsz46 (some ad112) x5_1.length co39 x10_4 q046 q46; have hr46 := Kd.F_cut (m := (x10_4 : Int).toNat) (c := co39) hC46 (by omega) hroom46; obtain ⟨A46, hA46⟩ : ∃ A1, A1 = (if co39 = (x10_4 : Int).toNat then (some ad112) else ((some ad112) : Option Addr).map (·.add ((x10_4 : Int).toNat * 1))) := ⟨_, rfl⟩; obtain ⟨c46, hc46⟩ : ∃ c1, c1 = co39 - (x10_4 : Int).toNat := ⟨_, rfl⟩; have hy46 : y129.length = x5_1.length - (x10_4 : Int).toNat := (by rw [Ny129.out, List.length_drop] <;> omega); rw [show (x5_1).drop (x10_4 : Int).toNat = y129 from Ny129.out.symm] at hr46; replace hr46 : Kd.F (Kd.slice 3 (Kd.int .i64)) _ _ A46 y129.length y129 := (by rw [hA46]; exact hr46); rw [← hy46, ← hA46, ← hc46] at hcut46; have HO133 := am (show Kd.V (Kd.slice 3 (Kd.int .i64)) 28 _ w.heap.size _ (.slice A46 y129.length c46) y129 from Kd.V_mk (by rw [hy46, hc46]; exact Nat.sub_le_sub_right hroom46 _) hr46); have HC133 := am (show y129.length ≤ c46 from by rw [hy46, hc46]; exact Nat.sub_le_sub_right hroom46 _); clear hr46 hC46 hroom46 hi046 hsz46 hc46; have KY46 := am hy46; have KA46 := am hA46; clear hy46 hA46; replace q46 := eq_true q46) | ((with_reducible refine gate_builtin (b := .append) (xs := #[.tmp 73, .tmp 76]) rfl ?_); at_builtin; refine Kd.N_append_rows (Kd.slice 3 (Kd.int .i64)) (w0 := w) w.heap.size rfl (.tmp 73) (.tmp 76) 40 28 (.slice none 0 0) 24 rfl Tryz.underlying40 info28 rfl (by decide) (by omega) v127 y126 y129 _ _ _ (fun k_ => (w.heap.size ≤ k_) ∧ k_ ≠ gb101) (fun k_ => ((fun k_ => (w.heap.size ≤ k_) ∧ k_ ≠ gb101)) k_ ∧ some k_ ≠ (v127 : Value).ownBlock) rfl rfl ?aO ?aR (fun _ hk => hk) ?aF ?aB ?aS ?aL ?_; (case aR => exact (by skip; exact Kd.V_F (Kd.V_mono (ok' := (fun k_ => ((fun k_ => (w.heap.size ≤ k_) ∧ k_ ≠ gb101)) k_ ∧ some k_ ≠ (v127 : Value).ownBlock)) (HO133.out) (fun k_ hk => ⟨⟨hk.1.1, hk.1.2.2⟩, hk.2⟩)))); (case aB => exact aq0); (case aF => exact aq44); (case aO => exact (by (with_reducible repeat (first | apply Kd.N_alloc | apply Kd.N_drewN | apply Kd.N_drew)); exact HO128.out)); (case aS => exact aq71); (case aL => have := LMc38.out; omega); intro v135 w47 ho hb hg hat; rw [← Ny134.out] at ho; have n0_ := am (Kd.N_afterv (ok := (fun k_ => (w.heap.size ≤ k_) ∧ k_ ≠ gb101)) aq96 hg hat); have n1_ := am (blk_grown (g := gb101) (o := .cells #[.int .i64 a0_0, .int .i64 a0_1, .slice (some ad102) l0_2.length c0_2] 62 (0, 0)) aq2 hg (Kd.N_ne HO128.out BK101.out (by decide))); have n2_ := am (Kd.V_afterv (ok := (fun k_ => (w.heap.size ≤ k_) ∧ some k_ ≠ (.slice (some ad112) x5_1.length co39 : Value).ownBlock ∧ k_ ≠ gb101)) (by (with_reducible repeat (first | apply Kd.V_alloc | apply Kd.V_drewN | apply Kd.V_drew)); exact Kd.V_mono HL112_0.out (fun _ hk => ⟨⟨hk.1.1, ⟨hk.1.2.1, hk.1.2.2.2⟩⟩, hk.2⟩)) hg hat); have n3_ := am (Kd.V_afterv (ok := (fun k_ => (w.heap.size ≤ k_) ∧ k_ ≠ gb101)) (by (with_reducible repeat (first | apply Kd.V_alloc | apply Kd.V_drewN | apply Kd.V_drew)); exact Kd.V_mono HO122.out (fun _ hk => ⟨⟨hk.1.1, hk.1.2.2⟩, hk.2⟩)) hg hat); have n4_ := am (Kd.V_afterv (ok := (fun k_ => (w.heap.size ≤ k_) ∧ k_ ≠ gb101)) (by (with_reducible repeat (first | apply Kd.V_alloc | apply Kd.V_drewN | apply Kd.V_drew)); exact Kd.V_mono HO133.out (fun _ hk => ⟨⟨hk.1.1, hk.1.2.2⟩, hk.2⟩)) hg hat); have n5_ := am (hb); have n6_ := am (ho); clear HO_5; clear BK101; clear HL112_0; clear HO122; clear HO133; clear HB; clear HO128; have HO_5 := n0_; have BK101 := n1_; have HL112_0 := n2_; have HO122 := n3_; have HO133 := n4_; have HB := n5_; have HO136 := n6_; clear n0_ n1_ n2_ n3_ n4_ n5_ n6_; clear ho hb hg hat))
                     go_roundg k4
                     case measure => have := HK1.out; have := HJ7.out; have := HK3.out; have := HK4.out; omega
                     case rel => exact ⟨(y134), (wrap64 (x15_1 + 1)), aq7, H', ⟨aq97⟩, ⟨by (with_reducible repeat (first | apply Kd.N_alloc | apply Kd.N_drewN | apply Kd.N_drew)); exact HO136.out⟩, ⟨aq2⟩, ⟨aq0⟩⟩
                    ·rw [if_neg c38] at H
                     exact absurd H (by simp)
                   ·rw [if_neg c35] at H
                    exact absurd H (by simp)
                  ·rw [if_neg c34] at H
                   exact absurd H (by simp)
                 ·rw [if_neg c33] at H
                  exact absurd H (by simp)
               ·rw [if_neg c26] at H
                exact absurd H (by simp)
              ·rw [if_neg c25] at H
               have c25b0 := decide_eq_false c25
               clear c25
               obtain ⟨y137, hy_⟩ : ∃ y_ : List (List Int), y_ = (([] : List (List Int))) := ⟨_, rfl⟩
               replace H : (if 0 ≤ x10_4 then (if x10_4 ≤ (x5_1.length : Int) then ((some (x5_1.take (x10_4 : Int).toNat : List (List Int))).bind fun y140 => (if y137.length + y140.length < 5864062014805 then ((some (y137 ++ y140 : List (List Int))).bind fun y145 => (if y145.length < 5864062014805 then ((some (y145 ++ [x8_3] : List (List Int))).bind fun y148 => ((some (x5_1.drop (x10_4 : Int).toNat : List (List Int))).bind fun y151 => (if y148.length + y151.length < 5864062014805 then (spec_tiStretches.l0 k4 a1 (y148 ++ y151) l0_2 (l0_2.length : Int) (wrap64 (x15_1 + 1)) a0_0 a0_1 l0_2) else (none)))) else (none))) else (none))) else (none)) else (none)) = some r := aq4
               have Ny137 := am hy_
               clear hy_
               by_cases c48 : 0 ≤ x10_4
               ·rw [if_pos c48] at H
                have c48b0 := eq_true c48
                have c48b1 := decide_eq_true c48
                clear c48
                by_cases c49 : x10_4 ≤ (x5_1.length : Int)
                ·rw [if_pos c49] at H
                 have c49b0 := eq_true c49
                 have c49b1 := decide_eq_true c49
                 clear c49
                 obtain ⟨y140, hy_⟩ : ∃ y_ : List (List Int), y_ = (x5_1.take (x10_4 : Int).toNat) := ⟨_, rfl⟩
                 replace H : (if y137.length + y140.length < 5864062014805 then ((some (y137 ++ y140 : List (List Int))).bind fun y145 => (if y145.length < 5864062014805 then ((some (y145 ++ [x8_3] : List (List Int))).bind fun y148 => ((some (x5_1.drop (x10_4 : Int).toNat : List (List Int))).bind fun y151 => (if y148.length + y151.length < 5864062014805 then (spec_tiStretches.l0 k4 a1 (y148 ++ y151) l0_2 (l0_2.length : Int) (wrap64 (x15_1 + 1)) a0_0 a0_1 l0_2) else (none)))) else (none))) else (none)) = some r := aq4
                 have Ny140 := am hy_
                 clear hy_
                 by_cases c50 : y137.length + y140.length < 5864062014805
                 ·rw [if_pos c50] at H
                  have LMc50 := am c50
                  clear c50
                  obtain ⟨y145, hy_⟩ : ∃ y_ : List (List Int), y_ = (y137 ++ y140) := ⟨_, rfl⟩
                  replace H : (if y145.length < 5864062014805 then ((some (y145 ++ [x8_3] : List (List Int))).bind fun y148 => ((some (x5_1.drop (x10_4 : Int).toNat : List (List Int))).bind fun y151 => (if y148.length + y151.length < 5864062014805 then (spec_tiStretches.l0 k4 a1 (y148 ++ y151) l0_2 (l0_2.length : Int) (wrap64 (x15_1 + 1)) a0_0 a0_1 l0_2) else (none)))) else (none)) = some r := aq4
                  have Ny145 := am hy_
                  clear hy_
                  by_cases c51 : y145.length < 5864062014805
                  ·rw [if_pos c51] at H
                   have LMc51 := am c51
                   clear c51
                   obtain ⟨y148, hy_⟩ : ∃ y_ : List (List Int), y_ = (y145 ++ [x8_3]) := ⟨_, rfl⟩
                   replace H : ((some (x5_1.drop (x10_4 : Int).toNat : List (List Int))).bind fun y151 => (if y148.length + y151.length < 5864062014805 then (spec_tiStretches.l0 k4 a1 (y148 ++ y151) l0_2 (l0_2.length : Int) (wrap64 (x15_1 + 1)) a0_0 a0_1 l0_2) else (none))) = some r := aq4
                   have Ny148 := am hy_
                   clear hy_
                   have c52b0 := eq_true (of_decide_eq_true aq6 : 0 ≤ x10_4)
                   have c53b0 := eq_true (of_decide_eq_true aq6 : x10_4 ≤ (x5_1.length : Int))
                   obtain ⟨y151, hy_⟩ : ∃ y_ : List (List Int), y_ = (x5_1.drop (x10_4 : Int).toNat) := ⟨_, rfl⟩
                   replace H : (if y148.length + y151.length < 5864062014805 then (spec_tiStretches.l0 k4 a1 (y148 ++ y151) l0_2 (l0_2.length : Int) (wrap64 (x15_1 + 1)) a0_0 a0_1 l0_2) else (none)) = some r := aq4
                   have Ny151 := am hy_
                   clear hy_
                   by_cases c54 : y148.length + y151.length < 5864062014805
                   ·rw [if_pos c54] at H
                    have LMc54 := am c54
                    clear c54
                    obtain ⟨y156, hy_⟩ : ∃ y_ : List (List Int), y_ = (y148 ++ y151) := ⟨_, rfl⟩
                    replace H : (spec_tiStretches.l0 k4 a1 y156 l0_2 (l0_2.length : Int) (wrap64 (x15_1 + 1)) a0_0 a0_1 l0_2) = some r := aq4
                    have Ny156 := am hy_
                    clear hy_
                    have H' := am H
                    clear H
                    obtain ⟨Ao55, co55, eo55⟩ := Kd.N_slice HO_5.out
                    subst eo55
                    go_wp2_with (first | ((with_reducible refine gate_dst (N := 65) rfl ?_); refine Kd.N_lit (Kd.slice 3 (Kd.int .i64)) _ 28 ?hg (N' := 65) ?hd (xs := ([] : List (List Int))) (inner := []) (ok := (fun k_ => (w.heap.size ≤ k_) ∧ some k_ ≠ (.slice Ao55 x5_1.length co55 : Value).ownBlock ∧ some k_ ≠ (u8 : Value).ownBlock ∧ k_ ≠ gb101)) (okp := (fun k_ => (w.heap.size ≤ k_) ∧ some k_ ≠ (.slice Ao55 x5_1.length co55 : Value).ownBlock ∧ some k_ ≠ (u8 : Value).ownBlock ∧ k_ ≠ gb101)) ?hr ?hp (fun _ hk => hk) ((show ∀ k_, wr.heap.size ≤ k_ → (fun k_ => (w.heap.size ≤ k_) ∧ some k_ ≠ (.slice Ao55 x5_1.length co55 : Value).ownBlock ∧ some k_ ≠ (u8 : Value).ownBlock ∧ k_ ≠ gb101) k_ from fun k_ hk => ⟨(Nat.le_trans (below_size aq0) hk), Kd.fresh' (Kd.N_lt aq16) k_ hk, Kd.fresh' (Kd.R_lt aq13) k_ hk, Kd.freshB (g := gb101) (o := .cells #[.int .i64 a0_0, .int .i64 a0_1, .slice (some ad102) l0_2.length c0_2] 62 (0, 0)) aq2 k_ hk⟩) _ (Nat.le_refl _)) (Below.refl _ _) (Nat.le_refl _) (by simp) ?_; (case hd => rfl); (case hg => rfl); (case hr => exact aq15); (case hp => exact (Reps.none _ _)); intro v138 w56 ho57 hb hg_ hnew_; clear hg_ hnew_; (first | rw [← Ny137.out] at ho57 | (simp only [Int.reduceToNat] at ho57; rw [← Ny137.out] at ho57)); have n0_ := am (Kd.N_elder' aq16 (Kd.N_base ho57) hb); have n1_ := am (Kd.R_below aq13 hb); have n2_ := am (Kd.N_lower ho57 (below_size aq0)); have n3_ := am (blk_below (g := gb101) (o := .cells #[.int .i64 a0_0, .int .i64 a0_1, .slice (some ad102) l0_2.length c0_2] 62 (0, 0)) aq2 hb); have n4_ := am (below_step aq0 hb); clear HO_5; clear HO_8; clear BK101; clear HB; have HO_5 := n0_; have HO_8 := n1_; have HO139 := n2_; have BK101 := n3_; have HB := n4_; clear n0_ n1_ n2_ n3_ n4_; clear hb ho57; have q58 : (x10_4 : Int) ≤ ((x5_1.length : Int) : Int) := of_decide_eq_true aq6; obtain ⟨i058, hi058, _, hsz58, _⟩ := info_parts info28; have hroom58 : x5_1.length ≤ co55 := (Kd.N_reads' HO_5.out).2.1; have hC58 : Kd.F (Kd.slice 3 (Kd.int .i64)) _ _ Ao55 x5_1.length x5_1 := (Kd.V_at (base := w.heap.size) (Kd.N_V HO_5.out)).2.2; have hcut58 := cut_to (P := Tryz.prog) 40 28 .i64 Tryz.underlying40 hi058 Ao55 x5_1.length co55 x10_4 (of_decide_eq_true aq6) q58 hroom58; have hr58 := Kd.F_take (m := (x10_4 : Int).toNat) hC58 (by omega); have hy58 : y140.length = (x10_4 : Int).toNat := (by rw [Ny140.out, List.length_take]; omega); rw [← Ny140.out] at hr58; rw [← hy58] at hcut58; have HO144 := am (show Kd.V (Kd.slice 3 (Kd.int .i64)) 28 _ w.heap.size _ (.slice Ao55 y140.length co55) y140 from Kd.V_mk (by omega) hr58); have HC144 := am (show y140.length ≤ co55 from by omega); clear hr58 hC58 hroom58 hi058 hsz58; have KY58 := am hy58; clear hy58; replace q58 := eq_true q58) | ((with_reducible refine gate_builtin (b := .append) (xs := #[.tmp 65, .tmp 68]) rfl ?_); at_builtin; refine Kd.N_append_rows (Kd.slice 3 (Kd.int .i64)) (w0 := w) w.heap.size rfl (.tmp 65) (.tmp 68) 40 28 (.slice none 0 0) 24 rfl Tryz.underlying40 info28 rfl (by decide) (by omega) v138 y137 y140 _ _ _ (fun k_ => (w.heap.size ≤ k_) ∧ some k_ ≠ (u8 : Value).ownBlock ∧ k_ ≠ gb101) (fun k_ => ((fun k_ => (w.heap.size ≤ k_) ∧ some k_ ≠ (u8 : Value).ownBlock ∧ k_ ≠ gb101)) k_ ∧ some k_ ≠ (v138 : Value).ownBlock) rfl rfl ?aO ?aR (fun _ hk => hk) ?aF ?aB ?aS ?aL ?_; (case aR => exact (by skip; exact Kd.V_F (Kd.V_mono (ok' := (fun k_ => ((fun k_ => (w.heap.size ≤ k_) ∧ some k_ ≠ (u8 : Value).ownBlock ∧ k_ ≠ gb101)) k_ ∧ some k_ ≠ (v138 : Value).ownBlock)) (HO144.out) (fun k_ hk => ⟨⟨hk.1.1, ⟨hk.1.2.1, hk.1.2.2⟩⟩, hk.2⟩)))); (case aB => exact aq0); (case aF => exact aq80); (case aO => exact (by (with_reducible repeat (first | apply Kd.N_alloc | apply Kd.N_drewN | apply Kd.N_drew)); exact Kd.N_mono HO139.out (fun _ hk => ⟨hk.1, ⟨hk.2.2.1, hk.2.2.2⟩⟩))); (case aS => exact aq71); (case aL => have := LMc50.out; omega); intro v146 w59 ho hb hg hat; rw [← Ny145.out] at ho; have n0_ := am (Kd.N_afterv (ok := (fun k_ => (w.heap.size ≤ k_) ∧ some k_ ≠ (u8 : Value).ownBlock ∧ k_ ≠ gb101)) aq16 hg hat); have n1_ := am (Kd.R_over' aq13 (Kd.N_typed (by (with_reducible repeat (first | apply Kd.N_alloc | apply Kd.N_drewN | apply Kd.N_drew)); exact HO139.out)) (by decide) hg); have n2_ := am (blk_grown (g := gb101) (o := .cells #[.int .i64 a0_0, .int .i64 a0_1, .slice (some ad102) l0_2.length c0_2] 62 (0, 0)) aq2 hg (Kd.N_ne HO139.out BK101.out (by decide))); have n3_ := am (Kd.V_afterv (ok := (fun k_ => (w.heap.size ≤ k_) ∧ some k_ ≠ (u8 : Value).ownBlock ∧ k_ ≠ gb101)) (by (with_reducible repeat (first | apply Kd.V_alloc | apply Kd.V_drewN | apply Kd.V_drew)); exact HO144.out) hg hat); have n4_ := am (hb); have n5_ := am (ho); clear HO_5; clear HO_8; clear BK101; clear HO144; clear HB; clear HO139; have HO_5 := n0_; have HO_8 := n1_; have BK101 := n2_; have HO144 := n3_; have HB := n4_; have HO147 := n5_; clear n0_ n1_ n2_ n3_ n4_ n5_; clear ho hb hg hat; obtain ⟨Ao61, co61, eo61⟩ := Kd.R_slice HO_8.out; subst eo61) | ((with_reducible refine gate_builtin (b := .append) (xs := #[.tmp 69, .tmp 71]) rfl ?_); at_builtin; refine Kd.N_append (Kd.slice 3 (Kd.int .i64)) (w0 := w) w.heap.size rfl (.tmp 69) (.tmp 71) 40 28 (.slice none 0 0) 24 rfl Tryz.underlying40 info28 rfl (by decide) (by omega) v146 y145 x8_3 [.slice Ao61 x8_3.length co61] (fun k_ => (w.heap.size ≤ k_) ∧ k_ ≠ gb101) (fun k_ => ((fun k_ => (w.heap.size ≤ k_) ∧ k_ ≠ gb101)) k_ ∧ some k_ ≠ (v146 : Value).ownBlock) rfl rfl ?aP (fun _ hk => hk) ?aF ?aO ?aB ?aS ?aL ?_; (case aP => exact (Kd.FK_slice_mk (Kd.R_reads' (Kd.R_mono (ok' := (fun k_ => ((fun k_ => (w.heap.size ≤ k_) ∧ k_ ≠ gb101)) k_ ∧ some k_ ≠ (v146 : Value).ownBlock)) (Kd.R_types (Kd.R_apart' (HO_8.out) (Kd.N_typed HO147.out) (by decide)) BK101.out (by decide)) (fun k_ hk => ⟨⟨hk.1.1, hk.2⟩, hk.1.2⟩))).2.1 (Kd.R_F (Kd.R_mono (ok' := (fun k_ => ((fun k_ => (w.heap.size ≤ k_) ∧ k_ ≠ gb101)) k_ ∧ some k_ ≠ (v146 : Value).ownBlock)) (Kd.R_types (Kd.R_apart' (HO_8.out) (Kd.N_typed HO147.out) (by decide)) BK101.out (by decide)) (fun k_ hk => ⟨⟨hk.1.1, hk.2⟩, hk.1.2⟩))))); (case aB => exact aq0); (case aF => exact aq44); (case aO => exact (by (with_reducible repeat (first | apply Kd.N_alloc | apply Kd.N_drewN | apply Kd.N_drew)); exact Kd.N_mono HO147.out (fun _ hk => ⟨hk.1, hk.2.2⟩))); (case aS => exact aq71); (case aL => have := LMc51.out; omega); intro v149 w60 ho hb hg hat; rw [← Ny148.out] at ho; have n0_ := am (Kd.N_afterv (ok := (fun k_ => (w.heap.size ≤ k_) ∧ some k_ ≠ (.slice Ao61 x8_3.length co61 : Value).ownBlock ∧ k_ ≠ gb101)) aq16 hg hat); have n1_ := am (blk_grown (g := gb101) (o := .cells #[.int .i64 a0_0, .int .i64 a0_1, .slice (some ad102) l0_2.length c0_2] 62 (0, 0)) aq2 hg (Kd.N_ne HO147.out BK101.out (by decide))); have n2_ := am (Kd.V_afterv (ok := (fun k_ => (w.heap.size ≤ k_) ∧ some k_ ≠ (.slice Ao61 x8_3.length co61 : Value).ownBlock ∧ k_ ≠ gb101)) (by (with_reducible repeat (first | apply Kd.V_alloc | apply Kd.V_drewN | apply Kd.V_drew)); exact HO144.out) hg hat); have n3_ := am (hb); have n4_ := am (ho); clear HO_5; clear BK101; clear HO144; clear HB; clear HO147; clear HO_8; have HO_5 := n0_; have BK101 := n1_; have HO144 := n2_; have HB := n3_; have HO150 := n4_; clear n0_ n1_ n2_ n3_ n4_; clear ho hb hg hat; have q62 : (x10_4 : Int) ≤ ((x5_1.length : Int) : Int) := of_decide_eq_true aq6; obtain ⟨i062, hi062, _, hsz62, _⟩ := info_parts info28; have hroom62 : x5_1.length ≤ co55 := (Kd.N_reads' HO_5.out).2.1; have hC62 : Kd.F (Kd.slice 3 (Kd.int .i64)) _ _ Ao55 x5_1.length x5_1 := (Kd.V_at (base := w.heap.size) (Kd.N_V HO_5.out)).2.2; have q062 : (0 : Int) ≤ (x10_4 : Int) := of_decide_eq_true aq6; have hcut62 := cut_from (P := Tryz.prog) 40 28 .i64 Tryz.underlying40 hi062 1 hsz62 Ao55 x5_1.length co55 x10_4 q062 q62; have hr62 := Kd.F_cut (m := (x10_4 : Int).toNat) (c := co55) hC62 (by omega) hroom62; obtain ⟨A62, hA62⟩ : ∃ A1, A1 = (if co55 = (x10_4 : Int).toNat then Ao55 else (Ao55 : Option Addr).map (·.add ((x10_4 : Int).toNat * 1))) := ⟨_, rfl⟩; obtain ⟨c62, hc62⟩ : ∃ c1, c1 = co55 - (x10_4 : Int).toNat := ⟨_, rfl⟩; have hy62 : y151.length = x5_1.length - (x10_4 : Int).toNat := (by rw [Ny151.out, List.length_drop] <;> omega); rw [show (x5_1).drop (x10_4 : Int).toNat = y151 from Ny151.out.symm] at hr62; replace hr62 : Kd.F (Kd.slice 3 (Kd.int .i64)) _ _ A62 y151.length y151 := (by rw [hA62]; exact hr62); rw [← hy62, ← hA62, ← hc62] at hcut62; have HO155 := am (show Kd.V (Kd.slice 3 (Kd.int .i64)) 28 _ w.heap.size _ (.slice A62 y151.length c62) y151 from Kd.V_mk (by rw [hy62, hc62]; exact Nat.sub_le_sub_right hroom62 _) hr62); have HC155 := am (show y151.length ≤ c62 from by rw [hy62, hc62]; exact Nat.sub_le_sub_right hroom62 _); clear hr62 hC62 hroom62 hi062 hsz62 hc62; have KY62 := am hy62; have KA62 := am hA62; clear hy62 hA62; replace q62 := eq_true q62) | ((with_reducible refine gate_builtin (b := .append) (xs := #[.tmp 73, .tmp 76]) rfl ?_); at_builtin; refine Kd.N_append_rows (Kd.slice 3 (Kd.int .i64)) (w0 := w) w.heap.size rfl (.tmp 73) (.tmp 76) 40 28 (.slice none 0 0) 24 rfl Tryz.underlying40 info28 rfl (by decide) (by omega) v149 y148 y151 _ _ _ (fun k_ => (w.heap.size ≤ k_) ∧ k_ ≠ gb101) (fun k_ => ((fun k_ => (w.heap.size ≤ k_) ∧ k_ ≠ gb101)) k_ ∧ some k_ ≠ (v149 : Value).ownBlock) rfl rfl ?aO ?aR (fun _ hk => hk) ?aF ?aB ?aS ?aL ?_; (case aR => exact (by skip; exact Kd.V_F (Kd.V_mono (ok' := (fun k_ => ((fun k_ => (w.heap.size ≤ k_) ∧ k_ ≠ gb101)) k_ ∧ some k_ ≠ (v149 : Value).ownBlock)) (HO155.out) (fun k_ hk => ⟨⟨hk.1.1, hk.1.2.2⟩, hk.2⟩)))); (case aB => exact aq0); (case aF => exact aq44); (case aO => exact (by (with_reducible repeat (first | apply Kd.N_alloc | apply Kd.N_drewN | apply Kd.N_drew)); exact HO150.out)); (case aS => exact aq71); (case aL => have := LMc54.out; omega); intro v157 w63 ho hb hg hat; rw [← Ny156.out] at ho; have n0_ := am (Kd.N_afterv (ok := (fun k_ => (w.heap.size ≤ k_) ∧ k_ ≠ gb101)) aq96 hg hat); have n1_ := am (blk_grown (g := gb101) (o := .cells #[.int .i64 a0_0, .int .i64 a0_1, .slice (some ad102) l0_2.length c0_2] 62 (0, 0)) aq2 hg (Kd.N_ne HO150.out BK101.out (by decide))); have n2_ := am (Kd.V_afterv (ok := (fun k_ => (w.heap.size ≤ k_) ∧ k_ ≠ gb101)) (by (with_reducible repeat (first | apply Kd.V_alloc | apply Kd.V_drewN | apply Kd.V_drew)); exact Kd.V_mono HO144.out (fun _ hk => ⟨⟨hk.1.1, hk.1.2.2⟩, hk.2⟩)) hg hat); have n3_ := am (Kd.V_afterv (ok := (fun k_ => (w.heap.size ≤ k_) ∧ k_ ≠ gb101)) (by (with_reducible repeat (first | apply Kd.V_alloc | apply Kd.V_drewN | apply Kd.V_drew)); exact Kd.V_mono HO155.out (fun _ hk => ⟨⟨hk.1.1, hk.1.2.2⟩, hk.2⟩)) hg hat); have n4_ := am (hb); have n5_ := am (ho); clear HO_5; clear BK101; clear HO144; clear HO155; clear HB; clear HO150; have HO_5 := n0_; have BK101 := n1_; have HO144 := n2_; have HO155 := n3_; have HB := n4_; have HO158 := n5_; clear n0_ n1_ n2_ n3_ n4_ n5_; clear ho hb hg hat))
                    go_roundg k4
                    case measure => have := HK1.out; have := HJ7.out; have := HK3.out; have := HK4.out; omega
                    case rel => exact ⟨(y156), (wrap64 (x15_1 + 1)), aq7, H', ⟨aq97⟩, ⟨by (with_reducible repeat (first | apply Kd.N_alloc | apply Kd.N_drewN | apply Kd.N_drew)); exact HO158.out⟩, ⟨aq2⟩, ⟨aq0⟩⟩
                   ·rw [if_neg c54] at H
                    exact absurd H (by simp)
                  ·rw [if_neg c51] at H
                   exact absurd H (by simp)
                 ·rw [if_neg c50] at H
                  exact absurd H (by simp)
                ·rw [if_neg c49] at H
                 exact absurd H (by simp)
               ·rw [if_neg c48] at H
                exact absurd H (by simp)
     ·rw [if_neg c7] at H
      exact absurd H (by simp)
    ·rw [if_neg c6] at H
     exact absurd H (by simp)
   ·rw [if_neg c5] at H
    have c5b0 := decide_eq_false c5
    clear c5
    obtain rfl := Option.some.inj H
    go_wp2
    go_ret
    exact ⟨_, aq8, by (with_reducible repeat (first | apply Kd.N_alloc | apply Kd.N_drewN | apply Kd.N_drew)); exact Kd.N_mono HO_5.out (fun _ hk => hk.1), aq0⟩
end Go.Proofs.YtdffgeoegdkiaaaGreatDoor.F

namespace Go.Proofs.YtdffgeoegdkiaaaGreatDoor
open Go.RowKit Go.Proofs.YtdffgeoegdkiaaaGreatDoorW.PrintWords Go.Proofs.YtdffgeoegdkiaaaGreatDoorW.PrintMore Go.Proofs.YtdffgeoegdkiaaaGreatDoor.F
theorem rd_cast (l : List Nat) (i : Nat) (h : i < l.length) : rd (castsI l) (i : Int) = ((l[i]'h : Nat) : Int) := by
  unfold rd
  rw [Int.toNat_natCast, List.getD_eq_getElem?_getD, castsI_getD l i h]; rfl
theorem casts_app (a b : List Nat) : castsI (a ++ b) = castsI a ++ castsI b := by simp [castsI]
theorem casts_one (i : Nat) : castsI [i] = [((i : Nat) : Int)] := rfl
theorem least_ev (x y : Nat) : spec_l1Least.f (x : Int) (y : Int) = some ((Nat.min x y : Nat) : Int) := by
  unfold spec_l1Least.f
  by_cases h : x < y
  · rw [if_pos (by omega), show Nat.min x y = x from Nat.min_eq_left (by omega)]
  · rw [if_neg (by omega), show Nat.min x y = y from Nat.min_eq_right (by omega)]
theorem tiFirst_l0 (L : List Nat) (hL : L.length < 1000000) : ∀ (n i m : Nat), i + n = L.length → Ev (fun k => spec_tiFirst.l0 k (m : Int) (castsI L) (L.length : Int) (i : Int)) (((L.drop i).foldl Nat.min m : Nat) : Int)
  | 0, i, m, h => by
    refine Ev.step (f := fun _ => some (m : Int)) (fun k => by rw [spec_tiFirst.l0, if_neg (by omega)]) ?_
    rw [List.drop_eq_nil_of_le (by omega)]
    exact Ev.now _
  | n + 1, i, m, h => by
    have hi : i < L.length := by omega
    have hw : wrap64 ((i : Int) + 1) = ((i + 1 : Nat) : Int) := by rw [w64 (by omega) (by omega)]; rfl
    refine Ev.step (f := fun k => spec_tiFirst.l0 k ((Nat.min m (L[i]'hi) : Nat) : Int) (castsI L) (L.length : Int) ((i + 1 : Nat) : Int)) (fun k => by
      rw [spec_tiFirst.l0, if_pos (by omega), if_pos (by omega), castsI_length, if_pos (by omega), rd_cast L i hi, least_ev, Option.bind_some, hw]) ?_
    rw [List.drop_eq_getElem_cons hi, List.foldl_cons]
    exact tiFirst_l0 L hL n (i + 1) _ (by omega)
theorem tiFirst_ev {L : List Nat} (hne : L ≠ []) (hL : L.length < 1000000) : Ev (fun k => spec_tiFirst.f k (castsI L)) ((leastL L : Nat) : Int) := by
  obtain ⟨a, t, rfl⟩ : ∃ a t, L = a :: t := by cases L with | nil => exact absurd rfl hne | cons a t => exact ⟨a, t, rfl⟩
  have h0 := tiFirst_l0 (a :: t) hL (a :: t).length 0 a (by omega)
  have e : ((a :: t).drop 0).foldl Nat.min a = leastL (a :: t) := by
    rw [List.drop_zero, List.foldl_cons, show Nat.min a a = a from Nat.min_self a]; rfl
  rw [e] at h0
  refine Ev.congr (fun k => ?_) h0
  unfold spec_tiFirst.f
  rw [castsI_length, if_pos (by simp only [List.length_cons]; omega), show rd (castsI (a :: t)) 0 = (a : Int) from rfl]; rfl
theorem tyCell_eq {w h : Nat} (hw : 1 ≤ w ∧ w ≤ 7) (hh : 1 ≤ h ∧ h ≤ 7) (cs : List Int) (X Y : Int) : spec_tyCell.f w h cs X Y = some (decide ((0 ≤ X ∧ X < (w : Int)) ∧ 0 ≤ Y ∧ Y < (h : Int))) := by
  unfold spec_tyCell.f spec_l1In.f
  rw [w64 (show -9223372036854775808 ≤ (w : Int) - 1 by omega) (by omega), w64 (show -9223372036854775808 ≤ (h : Int) - 1 by omega) (by omega)]
  by_cases h1 : X ≥ 0
  · rw [if_pos h1, Option.bind_some]
    by_cases h2 : X ≤ (w : Int) - 1
    · rw [if_pos (decide_eq_true h2)]
      by_cases h3 : Y ≥ 0
      · rw [if_pos h3, Option.bind_some]
        congr 1
        rw [Bool.eq_iff_iff, decide_eq_true_iff, decide_eq_true_iff]
        omega
      · rw [if_neg h3, Option.bind_some]
        congr 1
        exact (decide_eq_false (by omega)).symm
    · rw [if_neg (by simp [h2])]
      congr 1
      exact (decide_eq_false (by omega)).symm
  · rw [if_neg h1, Option.bind_some, if_neg Bool.false_ne_true]
    congr 1
    exact (decide_eq_false (by omega)).symm
def lookI (w h : Nat) (cs : List Int) (X Y : Int) : Int := if (0 ≤ X ∧ X < (w : Int)) ∧ 0 ≤ Y ∧ Y < (h : Int) then (if openAt cs (Y.toNat * w + X.toNat) = true then ((Y.toNat * w + X.toNat : Nat) : Int) else -1) else -1
theorem look_eq {w h : Nat} (hw : 1 ≤ w ∧ w ≤ 7) (hh : 1 ≤ h ∧ h ≤ 7) {cs : List Int} (hl : cs.length = w * h) (X Y : Int) :
    ((spec_tyCell.f w h cs X Y).bind fun t => if t = true then (if 0 ≤ wrap64 (wrap64 (Y * w) + X) then (if wrap64 (wrap64 (Y * w) + X) < (cs.length : Int) then (if rd cs (wrap64 (wrap64 (Y * w) + X)) = 35 then some (-1) else some (wrap64 (wrap64 (Y * w) + X))) else none) else none) else some (-1)) = some (lookI w h cs X Y) := by
  rw [tyCell_eq hw hh, Option.bind_some]
  unfold lookI
  by_cases hc : (0 ≤ X ∧ X < (w : Int)) ∧ 0 ≤ Y ∧ Y < (h : Int)
  · rw [if_pos (decide_eq_true hc), if_pos hc]
    obtain ⟨⟨x, rfl⟩, ⟨y, rfl⟩⟩ : (∃ x : Nat, X = x) ∧ (∃ y : Nat, Y = y) := ⟨⟨X.toNat, by omega⟩, ⟨Y.toNat, by omega⟩⟩
    have hx : x < w := by omega
    have hy : y < h := by omega
    have hlt : y * w + x < w * h := (place_lt hx hy)
    have h49 : w * h ≤ 7 * 7 := Nat.mul_le_mul hw.2 hh.2
    have e1 : (y : Int) * (w : Int) = ((y * w : Nat) : Int) := by rw [Int.natCast_mul]
    have e : wrap64 (wrap64 ((y : Int) * (w : Int)) + (x : Int)) = ((y * w + x : Nat) : Int) := by
      have e0 : wrap64 ((y * w : Nat) : Int) = ((y * w : Nat) : Int) := w64 (by omega) (by omega)
      rw [e1, e0, ← Int.natCast_add]; exact w64 (by omega) (by omega)
    rw [e, if_pos (by omega), if_pos (by omega), Int.toNat_natCast, Int.toNat_natCast]
    unfold rd openAt isOpenC
    rw [Int.toNat_natCast]
    by_cases h35 : cs.getD (y * w + x) 0 = 35
    · rw [if_pos h35, h35, if_neg (by decide)]
    · rw [if_neg h35, if_pos (by simpa using h35)]
  · rw [if_neg (by simp only [decide_eq_true_eq]; exact hc), if_neg hc]
theorem tiAhead_eq {w h : Nat} (hw : 1 ≤ w ∧ w ≤ 7) (hh : 1 ≤ h ∧ h ≤ 7) {cs : List Int} (hl : cs.length = w * h) {i d : Nat} (hi : i < w * h) (hd : d < 4) : spec_tiAhead.f w h cs i d = some (aheadI w h cs i d) := by
  have h49 : w * h ≤ 7 * 7 := Nat.mul_le_mul hw.2 hh.2
  have e1 : Int.tdiv (i : Int) (w : Int) = ((i / w : Nat) : Int) := rfl
  have e2 : Int.tmod (i : Int) (w : Int) = ((i % w : Nat) : Int) := rfl
  have b1 : i / w ≤ i := Nat.div_le_self _ _
  have b2 : i % w ≤ i := Nat.mod_le _ _
  unfold spec_tiAhead.f aheadI
  rw [if_neg (by omega), e1, e2]
  generalize i / w = y at *
  generalize i % w = x at *
  rw [w64 (n := (y : Int)) (by omega) (by omega), w64 (n := (y : Int) - 1) (by omega) (by omega), w64 (n := (y : Int) + 1) (by omega) (by omega), w64 (n := (x : Int) - 1) (by omega) (by omega), w64 (n := (x : Int) + 1) (by omega) (by omega)]
  rcases dir4 hd with rfl | rfl | rfl | rfl
  · rw [if_pos (by rfl)]
    exact look_eq hw hh hl (x : Int) ((y : Int) - 1)
  · rw [if_neg (by decide), if_pos (by rfl)]
    exact look_eq hw hh hl ((x : Int) + 1) (y : Int)
  · rw [if_neg (by decide), if_neg (by decide), if_pos (by rfl)]
    exact look_eq hw hh hl (x : Int) ((y : Int) + 1)
  · rw [if_neg (by decide), if_neg (by decide), if_neg (by decide)]
    exact look_eq hw hh hl ((x : Int) - 1) (y : Int)
def nxtI (w h d : Nat) (cs : List Int) (a b : Nat) : Int := if (decide (b + 1 < lnK w h d) && openAt cs (pos w h d a (b + 1))) = true then (pos w h d a (b + 1) : Int) else -1
def restD (w h d : Nat) (cs : List Int) (a b : Nat) : List Nat := ((lineD w h d a).drop b).takeWhile (openAt cs)
theorem lineD_length (w h d a : Nat) : (lineD w h d a).length = lnK w h d := by simp [lineD]
theorem restD_end {w h d a b : Nat} {cs : List Int} (hb : lnK w h d ≤ b) : restD w h d cs a b = [] := by
  unfold restD; rw [List.drop_eq_nil_of_le (by rw [lineD_length]; exact hb)]; rfl
theorem restD_cons {w h d a b : Nat} {cs : List Int} (hb : b < lnK w h d) : restD w h d cs a b = if openAt cs (pos w h d a b) = true then pos w h d a b :: restD w h d cs a (b + 1) else [] := by
  unfold restD
  rw [List.drop_eq_getElem_cons (by rw [lineD_length]; exact hb), List.takeWhile_cons]
  have e : (lineD w h d a)[b]'(by rw [lineD_length]; exact hb) = pos w h d a b := by simp [lineD]
  rw [e]
theorem restD_length (w h d a b : Nat) (cs : List Int) : (restD w h d cs a b).length ≤ lnK w h d := by
  unfold restD
  exact Nat.le_trans (List.takeWhile_sublist _).length_le (by rw [List.length_drop, lineD_length]; omega)
theorem lnK_le {w h d : Nat} (hw : w ≤ 7) (hh : h ≤ 7) : lnK w h d ≤ 7 := by unfold lnK; split <;> omega
theorem opp_eq {d : Nat} (hd : d < 4) : Int.tmod (wrap64 ((d : Int) + 2)) 4 = (((d + 2) % 4 : Nat) : Int) := by
  rw [w64 (by omega) (by omega)]; rfl
section
variable {w h d : Nat} {cs : List Int} (hw : 1 ≤ w ∧ w ≤ 7) (hh : 1 ≤ h ∧ h ≤ 7) (hl : cs.length = w * h) (hd : d < 4)
include hw hh hl hd
theorem follow_l1 (x5 : List (List Int)) (x13 : List Int) (x14 x15 : Int) (r : List (List Int)) {a : Nat} (ha : a < lnM w h d) : ∀ (n b : Nat) (x8 : List Nat), b + n + 1 = lnK w h d → x8.length ≤ b + 1 →
    Ev (fun k => spec_tiStretches.l2 k d x5 (castsI (x8 ++ restD w h d cs a (b + 1))) 0 x13 x14 x15 w h cs) r →
    Ev (fun k => spec_tiStretches.l1 k d x5 (castsI x8) (nxtI w h d cs a b) x13 x14 x15 w h cs) r
  | 0, b, x8, hb, hx, hr => by
    have hneg : nxtI w h d cs a b = -1 := by unfold nxtI; rw [decide_eq_false (by omega), Bool.false_and, if_neg Bool.false_ne_true]
    rw [restD_end (by omega), List.append_nil] at hr
    rw [hneg]
    exact Ev.step (fun k => by rw [spec_tiStretches.l1, if_neg (by omega)]) hr
  | n + 1, b, x8, hb, hx, hr => by
    have hK := lnK_le (d := d) hw.2 hh.2
    rw [restD_cons (by omega)] at hr
    unfold nxtI
    by_cases ho : openAt cs (pos w h d a (b + 1)) = true
    · rw [if_pos ho] at hr
      rw [decide_eq_true (show b + 1 < lnK w h d by omega), ho, Bool.true_and, if_pos rfl]
      have hp := (pos_lt hd ha (show b + 1 < lnK w h d by omega)).2.2
      have hA := tiAhead_eq hw hh hl hp (d := (d + 2) % 4) (by omega)
      rw [back_pos hd ha (show b + 1 < lnK w h d by omega)] at hA
      refine Ev.step (fun k => ?_) (follow_l1 x5 x13 x14 x15 r ha n (b + 1) (x8 ++ [pos w h d a (b + 1)]) (by omega) (by rw [List.length_append]; simp; omega) (by rw [List.append_assoc]; exact hr))
      rw [spec_tiStretches.l1, if_pos (by omega), if_pos (by rw [castsI_length]; omega), opp_eq hd, hA, Option.bind_some, casts_app, casts_one]; rfl
    · rw [if_neg ho, List.append_nil] at hr
      rw [show openAt cs (pos w h d a (b + 1)) = false by simpa using ho, Bool.and_false, if_neg Bool.false_ne_true]
      exact Ev.step (fun k => by rw [spec_tiStretches.l1, if_neg (by omega)]) hr
end
theorem rows_at (L : List (List Nat)) (i : Nat) (h : i < L.length) : rd_L3 (L.map castsI) (i : Int) = castsI (L[i]'h) := by
  unfold rd_L3
  rw [Int.toNat_natCast, List.getD_eq_getElem?_getD, List.getElem?_map, List.getElem?_eq_getElem h]; rfl
theorem place_l2 {w h d : Nat} {cs : List Int} (x13 : List Int) (x14 x15 : Int) (r : List (List Int)) (st : List Nat) (hne : st ≠ []) (hst : st.length < 1000000) : ∀ (rest pre : List (List Nat)), pre.length + rest.length < 1000000 → (∀ y ∈ rest, y ≠ [] ∧ y.length < 1000000) →
    Ev (fun k => spec_tiStretches.l0 k d ((pre ++ insK st rest).map castsI) x13 x14 (wrap64 (x15 + 1)) w h cs) r →
    Ev (fun k => spec_tiStretches.l2 k d ((pre ++ rest).map castsI) (castsI st) (pre.length : Int) x13 x14 x15 w h cs) r
  | [], pre, hlen, _, hr => by
    refine Ev.step (fun k => ?_) hr
    have e1 : ((pre ++ []).map castsI).take ((pre.length : Int)).toNat = pre.map castsI := by rw [List.append_nil, Int.toNat_natCast, List.take_of_length_le (by simp)]
    have e2 : ((pre ++ []).map castsI).drop ((pre.length : Int)).toNat = [] := by rw [List.append_nil, Int.toNat_natCast, List.drop_eq_nil_of_le (by simp)]
    simp only [List.length_nil, Nat.add_zero] at hlen
    rw [spec_tiStretches.l2, if_neg (by simp), Option.bind_some, if_pos (by omega), if_pos (by simp), e1, e2, Option.bind_some, if_pos (by simp; omega), Option.bind_some, if_pos (by simp; omega), Option.bind_some, Option.bind_some, if_pos (by simp; omega)]
    simp [insK]
  | y :: ys, pre, hlen, hall, hr => by
    have hL : ((pre ++ y :: ys).map castsI).length = pre.length + ys.length + 1 := by simp; omega
    simp only [List.length_cons] at hlen
    have hy := hall y List.mem_cons_self
    have hrow : rd_L3 ((pre ++ y :: ys).map castsI) (pre.length : Int) = castsI y := by
      rw [rows_at _ _ (by simp)]
      congr 1
      simp
    have hstep : ∀ k, spec_tiStretches.l2 (k + 1) d ((pre ++ y :: ys).map castsI) (castsI st) (pre.length : Int) x13 x14 x15 w h cs =
        (spec_tiFirst.f k (castsI y)).bind fun t113 => (spec_tiFirst.f k (castsI st)).bind fun t114 => if t113 < t114 then spec_tiStretches.l2 k d ((pre ++ y :: ys).map castsI) (castsI st) ((pre.length + 1 : Nat) : Int) x13 x14 x15 w h cs else spec_tiStretches.l0 k d ((pre ++ (st :: y :: ys)).map castsI) x13 x14 (wrap64 (x15 + 1)) w h cs := by
      intro k
      have e1 : ((pre ++ y :: ys).map castsI).take ((pre.length : Int)).toNat = pre.map castsI := by rw [Int.toNat_natCast, List.map_append, List.take_left' (by simp)]
      have e2 : ((pre ++ y :: ys).map castsI).drop ((pre.length : Int)).toNat = (y :: ys).map castsI := by rw [Int.toNat_natCast, List.map_append, List.drop_left' (by simp)]
      rw [spec_tiStretches.l2, if_pos (by omega), if_pos (by omega), hrow]
      congr 1
      funext t113
      congr 1
      funext t114
      by_cases ht : t113 < t114
      · rw [if_pos ht, if_pos ht, w64 (by omega) (by omega)]; rfl
      · rw [if_neg ht, if_neg ht, Option.bind_some, if_pos (by omega), e1, e2, Option.bind_some, if_pos (by simp; omega), Option.bind_some, if_pos (by simp; omega), Option.bind_some, Option.bind_some, if_pos (by simp; omega)]
        simp
    refine Ev.step hstep (Ev.bind (tiFirst_ev hy.1 hy.2) (Ev.bind (tiFirst_ev hne hst) ?_))
    unfold insK at hr
    by_cases hlt : leastL y < leastL st
    · rw [if_pos hlt] at hr
      refine Ev.congr (fun k => if_pos (by omega)) ?_
      have := place_l2 x13 x14 x15 r st hne hst ys (pre ++ [y]) (by simp; omega) (fun z hz => hall z (List.mem_cons_of_mem _ hz)) (by rw [List.append_assoc]; exact hr)
      rw [List.append_assoc, List.length_append] at this
      exact this
    · rw [if_neg hlt] at hr
      exact Ev.congr (fun k => if_neg (by omega)) hr
theorem tail_head {w h d i : Nat} {cs : List Int} (hd : d < 4) (hi : i < w * h) (ho : openAt cs i = true) : tailD w h d cs i = i :: restD w h d cs (lnA w d i) (lnB w h d i + 1) := by
  obtain ⟨h1, h2, h3⟩ := inv_pos hd hi
  show restD w h d cs (lnA w d i) (lnB w h d i) = _
  rw [restD_cons h2, h3, if_pos ho]
section
variable {w h d : Nat} {cs : List Int} (hw : 1 ≤ w ∧ w ≤ 7) (hh : 1 ≤ h ∧ h ≤ 7) (hl : cs.length = w * h) (hd : d < 4)
include hw hh hl hd
theorem cells_l0 : ∀ (n i : Nat) (out : List (List Nat)), i + n = w * h → out.length ≤ i → (∀ y ∈ out, y ≠ [] ∧ y.length < 1000000) →
    Ev (fun k => spec_tiStretches.l0 k d (out.map castsI) cs (cs.length : Int) i w h cs) (((((List.range' i n).filter (endD w h d cs)).map (tailD w h d cs)).foldl (fun o x => insK x o) out).map castsI)
  | 0, i, out, hi, ho, hall => Ev.step (fun k => by rw [spec_tiStretches.l0, if_neg (by omega)]; rfl) (Ev.now _)
  | n + 1, i, out, hi, ho, hall => by
    have h49 : w * h ≤ 7 * 7 := Nat.mul_le_mul hw.2 hh.2
    have hil : i < w * h := by omega
    have hK := lnK_le (d := d) hw.2 hh.2
    obtain ⟨q1, q2, q3⟩ := inv_pos hd hil
    have HWR : Aside0 (wrap64 ((i : Int) + 1) = ((i + 1 : Nat) : Int)) := ⟨by rw [w64 (by omega) (by omega)]; rfl⟩
    have hrd : rd cs (i : Int) = cs.getD i 0 := by unfold rd; rw [Int.toNat_natCast]
    have hend := end_ahead hd hil cs
    have hA := tiAhead_eq hw hh hl hil hd
    have hB := tiAhead_eq hw hh hl hil (d := (d + 2) % 4) (by omega)
    have hback := back_pos hd q1 q2 cs
    rw [q3] at hback
    rw [hback] at hB
    have hskip : endD w h d cs i = false → Ev (fun k => spec_tiStretches.l0 k d (out.map castsI) cs (cs.length : Int) ((i + 1 : Nat) : Int) w h cs) (((((List.range' i (n + 1)).filter (endD w h d cs)).map (tailD w h d cs)).foldl (fun o x => insK x o) out).map castsI) := fun he => by
      rw [List.range'_succ, List.filter_cons, he, if_neg Bool.false_ne_true]
      exact cells_l0 n (i + 1) out (by omega) (by omega) hall
    by_cases h35 : cs.getD i 0 = 35
    · have hop : openAt cs i = false := by unfold openAt isOpenC; rw [h35]; rfl
      have he : endD w h d cs i = false := by rw [hend, hop, Bool.false_and]
      refine Ev.step (f := fun k => spec_tiStretches.j1 k d (out.map castsI) i cs (cs.length : Int) i true w h cs) (fun k => by rw [spec_tiStretches.l0, if_pos (by omega), if_pos (by omega), if_pos (by omega), hrd, if_pos h35]) ?_
      exact Ev.step (fun k => by rw [spec_tiStretches.j1, if_pos rfl, HWR.out]) (hskip he)
    · have hop : openAt cs i = true := by unfold openAt isOpenC; simpa using h35
      rw [hop, Bool.true_and] at hend
      refine Ev.step (f := fun k => spec_tiStretches.j1 k d (out.map castsI) i cs (cs.length : Int) i (decide (aheadI w h cs i d ≥ 0)) w h cs) (fun k => by rw [spec_tiStretches.l0, if_pos (by omega), if_pos (by omega), if_pos (by omega), hrd, if_neg h35, hA, Option.bind_some]) ?_
      by_cases hah : aheadI w h cs i d ≥ 0
      · have he : endD w h d cs i = false := by rw [hend]; exact decide_eq_false (by omega)
        rw [decide_eq_true hah]
        exact Ev.step (fun k => by rw [spec_tiStretches.j1, if_pos rfl, HWR.out]) (hskip he)
      · have he : endD w h d cs i = true := by rw [hend]; exact decide_eq_true (by omega)
        rw [decide_eq_false hah]
        refine Ev.step (f := fun k => spec_tiStretches.l1 k d (out.map castsI) (castsI [i]) (nxtI w h d cs (lnA w d i) (lnB w h d i)) cs (cs.length : Int) i w h cs) (fun k => by
          rw [spec_tiStretches.j1, if_neg Bool.false_ne_true, opp_eq hd, hB, Option.bind_some]; rfl) ?_
        refine follow_l1 hw hh hl hd (out.map castsI) cs (cs.length : Int) i _ q1 (lnK w h d - 1 - lnB w h d i) (lnB w h d i) [i] (by omega) (by simp) ?_
        have ht := tail_head hd hil hop
        rw [show [i] ++ restD w h d cs (lnA w d i) (lnB w h d i + 1) = tailD w h d cs i from ht.symm]
        have htl : (tailD w h d cs i).length < 1000000 := by
          have := restD_length w h d (lnA w d i) (lnB w h d i + 1) cs
          rw [ht, List.length_cons]; omega
        have htn : tailD w h d cs i ≠ [] := by rw [ht]; exact List.cons_ne_nil _ _
        refine place_l2 (d := d) cs (cs.length : Int) i _ (tailD w h d cs i) htn htl out [] (by simp; omega) hall ?_
        rw [List.nil_append, HWR.out, List.range'_succ, List.filter_cons, he, if_pos rfl, List.map_cons, List.foldl_cons]
        have hp := insK_perm (tailD w h d cs i) out
        refine cells_l0 n (i + 1) (insK (tailD w h d cs i) out) (by omega) (by rw [hp.length_eq, List.length_cons]; omega) (fun y hy => ?_)
        rcases List.mem_cons.1 (hp.mem_iff.1 hy) with rfl | hy
        · exact ⟨htn, htl⟩
        · exact hall y hy
theorem tiStretches_ev : Ev (fun k => spec_tiStretches.f k w h cs d) ((strD w h d cs).map castsI) := by
  have h0 := cells_l0 hw hh hl hd (w * h) 0 [] (by omega) (by simp) (fun y hy => by cases hy)
  rw [← List.range_eq_range'] at h0
  exact h0
end
end Go.Proofs.YtdffgeoegdkiaaaGreatDoor

namespace Go.Proofs.YtdffgeoegdkiaaaGreatDoor
open Go.RowKit Go.Proofs.YtdffgeoegdkiaaaGreatDoorW.PrintWords Go.Proofs.YtdffgeoegdkiaaaGreatDoorW.PrintLast Go.Proofs.YtdffgeoegdkiaaaGreatDoorW.PrintMore Go.Lib Go.Proofs.YtdffgeoegdkiaaaGreatDoor.F
def gridI (a0 a1 : Int) (l : List Int) : Prop := (1 ≤ a0 ∧ a0 ≤ 7) ∧ (1 ≤ a1 ∧ a1 ≤ 7) ∧ l.length = a0.toNat * a1.toNat
instance (a0 a1 : Int) (l : List Int) : Decidable (gridI a0 a1 l) := by unfold gridI; exact inferInstance
theorem gridI_nat {w h : Nat} {cs : List Int} (hw : 1 ≤ w ∧ w ≤ 7) (hh : 1 ≤ h ∧ h ≤ 7) (hl : cs.length = w * h) : gridI w h cs := ⟨by omega, by omega, by rw [Int.toNat_natCast, Int.toNat_natCast]; exact hl⟩
theorem strD_facts {w h d : Nat} {cs : List Int} (hw : 1 ≤ w ∧ w ≤ 7) (hh : 1 ≤ h ∧ h ≤ 7) (hl : cs.length = w * h) (hd : d < 4) :
    (0 < cs.length ∧ cs.length < 65536) ∧ (∀ st ∈ strD w h d cs, ∀ i ∈ st, i < cs.length) ∧ (strD w h d cs).flatten.length < 65536 ∧ (strD w h d cs).length < 65536 ∧ (∀ st ∈ strD w h d cs, st.length < 65536) := by
  have h49 : w * h ≤ 7 * 7 := Nat.mul_le_mul hw.2 hh.2
  have h1 : 0 < w * h := Nat.mul_pos (by omega) (by omega)
  have hf : (strD w h d cs).flatten.length ≤ w * h := by
    rw [(strD_cells hd cs).length_eq]
    exact Nat.le_trans (List.length_filter_le _ _) (by rw [List.length_range]; exact Nat.le_refl _)
  have hne := strD_ne hd (w := w) (h := h) (cs := cs)
  have len : ∀ S : List (List Nat), (∀ st ∈ S, st ≠ []) → S.length ≤ S.flatten.length ∧ ∀ st ∈ S, st.length ≤ S.flatten.length := fun S => by
    induction S with
    | nil => intro _; exact ⟨Nat.le_refl _, fun st h => by cases h⟩
    | cons a S ih =>
      intro hs
      obtain ⟨i1, i2⟩ := ih (fun st h => hs st (List.mem_cons_of_mem _ h))
      have ha : 0 < a.length := List.length_pos_iff.2 (hs a List.mem_cons_self)
      rw [List.flatten_cons, List.length_append, List.length_cons]
      refine ⟨by omega, fun st h => ?_⟩
      rcases List.mem_cons.1 h with rfl | h
      · omega
      · have := i2 st h; omega
  obtain ⟨l1, l2⟩ := len _ hne
  refine ⟨⟨by rw [hl]; exact h1, by rw [hl]; omega⟩, fun st hs i hi => by rw [hl]; exact (strD_Str hd cs).lt st hs i hi, by omega, by omega, fun st hs => ?_⟩
  have := l2 st hs
  omega
def spec_tiTilt.f (a0 a1 : Int) (l : List Int) (d : Int) : Option (Int × Int × List Int) := if gridI a0 a1 l ∧ 0 ≤ d ∧ d < 4 then some (a0, a1, tiltD a0.toNat a1.toNat d.toNat l) else none
theorem spec_tiTilt_eq {w h d : Nat} {cs : List Int} (hw : 1 ≤ w ∧ w ≤ 7) (hh : 1 ≤ h ∧ h ≤ 7) (hl : cs.length = w * h) (hd : d < 4) : spec_tiTilt.f w h cs d = some ((w : Int), (h : Int), tiltD w h d cs) := if_pos ⟨gridI_nat hw hh hl, by omega, by omega⟩
theorem spec_tiTilt.calls (a0_0 a0_1 : Int) (A0_2 : Option Addr) (c0_2 : Nat) (l0_2 : List Int) (a1 : Int) (r1 r2 : Int) (r3 : List Int) (w : World) (hr0_2 : Kd.C (Kd.int .u8) w A0_2 l0_2.length l0_2) (hc0_2 : l0_2.length ≤ c0_2) (h : spec_tiTilt.f a0_0 a0_1 l0_2 a1 = some (r1, r2, r3)) :
    Calls Tryz.prog 85 #[.agg #[.int .i64 a0_0, .int .i64 a0_1, .slice A0_2 l0_2.length c0_2], .int .i64 a1] w fun e w' => ∃ v2_ : Value, e = .returned (.agg #[.int .i64 r1, .int .i64 r2, v2_]) ∧ Kd.R (Kd.int .u8) 5 w' w.heap.size (fun _ => True) v2_ r3 ∧ Below w.heap.size w w' := by
  unfold spec_tiTilt.f at h
  split at h
  case isFalse => cases h
  rename_i hc
  obtain ⟨⟨hw, hh, hl⟩, hd0, hd4⟩ := hc
  injection h with h
  injection h with h1 h
  injection h with h2 h3
  subst h1 h2 h3
  obtain ⟨W, rfl⟩ : ∃ n : Nat, a0_0 = n := ⟨a0_0.toNat, by omega⟩
  obtain ⟨H, rfl⟩ : ∃ n : Nat, a0_1 = n := ⟨a0_1.toNat, by omega⟩
  obtain ⟨d, rfl⟩ : ∃ n : Nat, a1 = n := ⟨a1.toNat, by omega⟩
  simp only [Int.toNat_natCast] at hl ⊢
  have hw' : 1 ≤ W ∧ W ≤ 7 := by omega
  have hh' : 1 ≤ H ∧ H ≤ 7 := by omega
  have hd' : d < 4 := by omega
  obtain ⟨f1, f2, f3, f4, f5⟩ := strD_facts hw' hh' hl hd'
  obtain ⟨k, hk⟩ := Ev.rounds (tiStretches_ev hw' hh' hl hd')
  refine tiTilt_calls W H d A0_2 c0_2 l0_2 (strD W H d l0_2) w hr0_2 hc0_2 f1 f2 f4 f5 (fun W' hW => ?_)
  exact spec_tiStretches.calls k W H A0_2 c0_2 l0_2 d _ W' (Kd.C_below hr0_2 hW) hc0_2 hk
theorem rev_ev (l : List Int) (hl : l.length ≤ 7) : Ev (fun k => slices_Reverse_int_int.f k l) l.reverse := by
  refine Ev.of (fun k => slices_Reverse_int_int.mono _ _) (k := 6) ?_
  match l, hl with
  | [], _ => simp [slices_Reverse_int_int.f, slices_Reverse_int_int.l0, wrap64, rd]
  | [a], _ => simp [slices_Reverse_int_int.f, slices_Reverse_int_int.l0, wrap64, rd]
  | [a, b], _ => simp [slices_Reverse_int_int.f, slices_Reverse_int_int.l0, wrap64, rd]
  | [a, b, c], _ => simp [slices_Reverse_int_int.f, slices_Reverse_int_int.l0, wrap64, rd]
  | [a, b, c, d], _ => simp [slices_Reverse_int_int.f, slices_Reverse_int_int.l0, wrap64, rd]
  | [a, b, c, d, e], _ => simp [slices_Reverse_int_int.f, slices_Reverse_int_int.l0, wrap64, rd]
  | [a, b, c, d, e, f], _ => simp [slices_Reverse_int_int.f, slices_Reverse_int_int.l0, wrap64, rd]
  | [a, b, c, d, e, f, g], _ => simp [slices_Reverse_int_int.f, slices_Reverse_int_int.l0, wrap64, rd]
  | _ :: _ :: _ :: _ :: _ :: _ :: _ :: _ :: _, h => exact absurd h (by simp)
theorem casts_rev (l : List Nat) : (castsI l).reverse = castsI l.reverse := by unfold castsI; rw [List.map_reverse]
theorem range_rev {α : Type} (f : Nat → α) (n : Nat) : (List.range n).map (fun b => f (n - 1 - b)) = ((List.range n).map f).reverse := by
  apply List.ext_getElem
  · simp
  · intro i h1 h2
    simp [List.getElem_reverse]
theorem w100 (n : Nat) (h : n < 100) : wrap64 (n : Int) = n := w64 (by omega) (by omega)
def rawP (w d a b : Nat) : Nat := if d = 0 ∨ d = 2 then b * w + a else a * w + b
def rawL (w d a n : Nat) : List Nat := (List.range n).map (rawP w d a)
theorem rawL_succ (w d a n : Nat) : rawL w d a (n + 1) = rawL w d a n ++ [rawP w d a n] := by unfold rawL; rw [List.range_succ, List.map_append]; rfl
theorem rawL_length (w d a n : Nat) : (rawL w d a n).length = n := by simp [rawL]
theorem raw_line {w h d a : Nat} (hd : d < 4) : lineD w h d a = if d = 1 ∨ d = 2 then (rawL w d a (lnK w h d)).reverse else rawL w d a (lnK w h d) := by
  rcases dir4 hd with rfl | rfl | rfl | rfl
  · rfl
  · rw [if_pos (Or.inl rfl)]; exact range_rev (rawP w 1 a) w
  · rw [if_pos (Or.inr rfl)]; exact range_rev (rawP w 2 a) h
  · rfl
section
variable {w h d : Nat} {cs : List Int} (hw : 1 ≤ w ∧ w ≤ 7) (hh : 1 ≤ h ∧ h ≤ 7) (hd : d < 4)
include hw hh hd
omit hd in
theorem number_raw {a b : Nat} (ha : a < lnM w h d) (hb : b < lnK w h d) : (if decide (d = 0 ∨ d = 2) = true then impl_tray_number.f w h cs a b else impl_tray_number.f w h cs b a) = some ((rawP w d a b : Nat) : Int) := by
  have key : ∀ x y : Nat, x < 8 → y < 8 → impl_tray_number.f w h cs x y = some ((y * w + x : Nat) : Int) := fun x y hx hy => by
    have h49 : y * w ≤ 7 * 7 := Nat.mul_le_mul (by omega) hw.2
    have e1 : (y : Int) * (w : Int) = ((y * w : Nat) : Int) := by rw [Int.natCast_mul]
    have hb : y * w + x < 100 := by omega
    unfold impl_tray_number.f
    rw [e1, w100 (y * w) (by omega), ← Int.natCast_add, w100 _ hb]
  have hK := lnK_le (d := d) hw.2 hh.2
  have hM : lnM w h d ≤ 7 := by unfold lnM; split <;> omega
  unfold rawP
  by_cases hv : d = 0 ∨ d = 2
  · rw [if_pos (decide_eq_true hv), if_pos hv, key a b (by omega) (by omega)]
  · rw [if_neg (by simp only [decide_eq_true_eq]; exact hv), if_neg hv, key b a (by omega) (by omega)]
theorem lines_l1 (x5 : List (List Int)) (hx : x5.length < 1000) (r : List (List Int)) {a : Nat} (ha : a < lnM w h d) : ∀ (n j : Nat), j + n = lnK w h d →
    Ev (fun k => impl_tray_lines.l0 k (dirB d) (x5 ++ [castsI (lineD w h d a)]) (lnK w h d : Int) (lnM w h d : Int) ((a + 1 : Nat) : Int) w h cs) r →
    Ev (fun k => impl_tray_lines.l1 k (dirB d) x5 (lnK w h d : Int) (a : Int) (castsI (rawL w d a j)) (lnM w h d : Int) (a : Int) (lnK w h d : Int) (j : Int) w h cs) r
  | 0, j, hj, hr => by
    have hK := lnK_le (d := d) hw.2 hh.2
    have hM : lnM w h d ≤ 7 := by unfold lnM; split <;> omega
    obtain rfl : j = lnK w h d := by omega
    have hrl := raw_line (w := w) (h := h) (a := a) hd
    have hrev : Ev (fun k => slices_Reverse_int_int.f k (castsI (rawL w d a (lnK w h d)))) (castsI (rawL w d a (lnK w h d)).reverse) := by
      have := rev_ev (castsI (rawL w d a (lnK w h d))) (by rw [castsI_length, rawL_length]; exact hK)
      rwa [casts_rev] at this
    have HW : Aside0 (wrap64 ((a : Int) + 1) = ((a + 1 : Nat) : Int)) := ⟨by rw [w64 (by omega) (by omega)]; rfl⟩
    have hlen : x5.length < 5864062014805 := by omega
    rcases dir4 hd with rfl | rfl | rfl | rfl
    · rw [if_neg (by decide)] at hrl
      rw [hrl] at hr
      refine Ev.step (fun k => ?_) hr
      rw [impl_tray_lines.l1, if_neg (by omega), if_neg (by decide), if_neg (by decide), if_pos hlen, HW.out]
    · rw [if_pos (by decide)] at hrl
      rw [hrl] at hr
      refine Ev.step (fun k => ?_) (Ev.bind hrev (f := fun k t => impl_tray_lines.l0 k (dirB 1) (x5 ++ [t]) (lnK w h 1 : Int) (lnM w h 1 : Int) ((a + 1 : Nat) : Int) w h cs) hr)
      rw [impl_tray_lines.l1, if_neg (by omega), if_pos (by rfl), HW.out]
      simp only [if_pos hlen]
    · rw [if_pos (by decide)] at hrl
      rw [hrl] at hr
      refine Ev.step (fun k => ?_) (Ev.bind hrev (f := fun k t => impl_tray_lines.l0 k (dirB 2) (x5 ++ [t]) (lnK w h 2 : Int) (lnM w h 2 : Int) ((a + 1 : Nat) : Int) w h cs) hr)
      rw [impl_tray_lines.l1, if_neg (by omega), if_neg (by decide), if_pos (by rfl), HW.out]
      simp only [if_pos hlen]
    · rw [if_neg (by decide)] at hrl
      rw [hrl] at hr
      refine Ev.step (fun k => ?_) hr
      rw [impl_tray_lines.l1, if_neg (by omega), if_neg (by decide), if_neg (by decide), if_pos hlen, HW.out]
  | n + 1, j, hj, hr => by
    have hK := lnK_le (d := d) hw.2 hh.2
    have hjK : j < lnK w h d := by omega
    have ih := lines_l1 x5 hx r ha n (j + 1) (by omega) hr
    have hnum := number_raw (cs := cs) hw hh ha hjK
    have HW : Aside0 (wrap64 ((j : Int) + 1) = ((j + 1 : Nat) : Int)) := ⟨by rw [w64 (by omega) (by omega)]; rfl⟩
    have hlen : (castsI (rawL w d a j)).length < 17592186044416 := by rw [castsI_length, rawL_length]; omega
    have h1 : ∀ k, impl_tray_lines.l1 (k + 1) (dirB d) x5 (lnK w h d : Int) (a : Int) (castsI (rawL w d a j)) (lnM w h d : Int) (a : Int) (lnK w h d : Int) (j : Int) w h cs = impl_tray_lines.j4 k (dirB d) x5 (lnK w h d : Int) (a : Int) (castsI (rawL w d a j)) (j : Int) (lnM w h d : Int) (a : Int) (lnK w h d : Int) (j : Int) (decide (d = 0 ∨ d = 2)) w h cs := fun k => by
      rw [impl_tray_lines.l1, if_pos (by omega)]
      rcases dir4 hd with rfl | rfl | rfl | rfl
      · rw [if_pos (by rfl)]; rfl
      · rw [if_neg (by decide)]; rfl
      · rw [if_neg (by decide)]; rfl
      · rw [if_neg (by decide)]; rfl
    refine Ev.step h1 (Ev.step (fun k => ?_) ih)
    rw [rawL_succ, casts_app, casts_one, impl_tray_lines.j4]
    by_cases hv : decide (d = 0 ∨ d = 2) = true
    · rw [if_pos hv] at hnum ⊢
      rw [hnum, Option.bind_some, if_pos hlen, HW.out]
    · rw [if_neg hv] at hnum ⊢
      rw [hnum, Option.bind_some, if_pos hlen, HW.out]
theorem lines_l0 : ∀ (n a : Nat), a + n = lnM w h d → Ev (fun k => impl_tray_lines.l0 k (dirB d) (((List.range a).map (lineD w h d)).map castsI) (lnK w h d : Int) (lnM w h d : Int) (a : Int) w h cs) ((linesD w h d).map castsI)
  | 0, a, ha => by
    obtain rfl : a = lnM w h d := by omega
    exact Ev.step (fun k => by rw [impl_tray_lines.l0, if_neg (by omega)]; rfl) (Ev.now _)
  | n + 1, a, ha => by
    have hM : lnM w h d ≤ 7 := by unfold lnM; split <;> omega
    have ih := lines_l0 n (a + 1) (by omega)
    rw [List.range_succ, List.map_append, List.map_append] at ih
    have := lines_l1 (cs := cs) hw hh hd (((List.range a).map (lineD w h d)).map castsI) (by simp; omega) _ (show a < lnM w h d by omega) (lnK w h d) 0 (by omega) ih
    exact Ev.step (fun k => by rw [impl_tray_lines.l0, if_pos (by omega)]; rfl) this
theorem lines_ev : Ev (fun k => impl_tray_lines.f k w h cs (dirB d)) ((linesD w h d).map castsI) := by
  have h0 := lines_l0 (cs := cs) hw hh hd (lnM w h d) 0 (by omega)
  rcases dir4 hd with rfl | rfl | rfl | rfl
  · exact Ev.congr (fun k => rfl) (Ev.step (g := fun k => impl_tray_lines.j0 k 117 [] h w true w h cs) (f := fun k => impl_tray_lines.j1 k 117 [] w h w h cs) (fun k => rfl) (Ev.step (fun k => rfl) h0))
  · exact Ev.congr (fun k => rfl) (Ev.step (g := fun k => impl_tray_lines.j0 k 114 [] h w false w h cs) (f := fun k => impl_tray_lines.j1 k 114 [] h w w h cs) (fun k => rfl) (Ev.step (fun k => rfl) h0))
  · exact Ev.congr (fun k => rfl) (Ev.step (g := fun k => impl_tray_lines.j0 k 100 [] h w true w h cs) (f := fun k => impl_tray_lines.j1 k 100 [] w h w h cs) (fun k => rfl) (Ev.step (fun k => rfl) h0))
  · exact Ev.congr (fun k => rfl) (Ev.step (g := fun k => impl_tray_lines.j0 k 108 [] h w false w h cs) (f := fun k => impl_tray_lines.j1 k 108 [] h w w h cs) (fun k => rfl) (Ev.step (fun k => rfl) h0))
end
theorem open_rd {cs : List Int} {x : Nat} : openAt cs x = true ↔ ¬ rd cs (x : Int) = 35 := by
  unfold openAt isOpenC rd
  rw [Int.toNat_natCast]; simp
theorem runs_l1 {w h : Nat} {cs : List Int} (LL : List (List Int)) (a : Nat) (ha : a < 1000) (r : List (List Int)) (L : List Nat) (hL : L.length < 1000) (hlt : ∀ x ∈ L, x < cs.length) : ∀ (n j : Nat) (out : List (List Nat)) (own : List Nat), j + n = L.length → out.length + n < 100000 → own.length ≤ j →
    Ev (fun k => impl_tray_strI.l0 k ((out ++ runsF (openAt cs) own (L.drop j)).map castsI) LL (LL.length : Int) ((a + 1 : Nat) : Int) w h cs) r →
    Ev (fun k => impl_tray_strI.l1 k (out.map castsI) (castsI own) LL (LL.length : Int) (a : Int) (castsI L) (L.length : Int) (j : Int) w h cs) r
  | 0, j, out, own, hj, ho, hown, hr => by
    have HW : Aside0 (wrap64 ((a : Int) + 1) = ((a + 1 : Nat) : Int)) := ⟨by rw [w64 (by omega) (by omega)]; rfl⟩
    rw [List.drop_eq_nil_of_le (by omega)] at hr
    unfold runsF at hr
    refine Ev.step (fun k => ?_) hr
    rw [impl_tray_strI.l1, if_neg (by omega), castsI_length, HW.out]
    by_cases h0 : own = []
    · rw [if_pos h0, if_neg (by rw [h0]; decide), List.append_nil]
    · have : 0 < own.length := List.length_pos_iff.2 h0
      rw [if_neg h0, if_pos (by omega), if_pos (by simp; omega), List.map_append]; rfl
  | n + 1, j, out, own, hj, ho, hown, hr => by
    have hjl : j < L.length := by omega
    have HW : Aside0 (wrap64 ((j : Int) + 1) = ((j + 1 : Nat) : Int)) := ⟨by rw [w64 (by omega) (by omega)]; rfl⟩
    have hx := hlt _ (List.getElem_mem hjl)
    rw [List.drop_eq_getElem_cons hjl] at hr
    have hrd := rd_cast L j hjl
    have hop := open_rd (cs := cs) (x := L[j]'hjl)
    generalize L[j]'hjl = x at *
    unfold runsF at hr
    have hs : ∀ k, impl_tray_strI.l1 (k + 1) (out.map castsI) (castsI own) LL (LL.length : Int) (a : Int) (castsI L) (L.length : Int) (j : Int) w h cs =
        if rd cs (x : Int) = 35 then (if own = [] then impl_tray_strI.l1 k (out.map castsI) (castsI []) LL (LL.length : Int) (a : Int) (castsI L) (L.length : Int) ((j + 1 : Nat) : Int) w h cs else impl_tray_strI.l1 k ((out ++ [own]).map castsI) (castsI []) LL (LL.length : Int) (a : Int) (castsI L) (L.length : Int) ((j + 1 : Nat) : Int) w h cs)
        else impl_tray_strI.l1 k (out.map castsI) (castsI (own ++ [x])) LL (LL.length : Int) (a : Int) (castsI L) (L.length : Int) ((j + 1 : Nat) : Int) w h cs := fun k => by
      rw [impl_tray_strI.l1, if_pos (by omega), if_pos (by omega), castsI_length, if_pos (by omega), hrd, if_pos (by omega), if_pos (by omega), HW.out, castsI_length]
      by_cases h35 : rd cs (x : Int) = 35
      · rw [if_pos h35, if_pos h35]
        by_cases h0 : own = []
        · rw [if_neg (by rw [h0]; decide), if_pos h0, h0]
        · have : 0 < own.length := List.length_pos_iff.2 h0
          rw [if_neg h0, if_pos (by omega), if_pos (by simp; omega), List.map_append]; rfl
      · rw [if_neg h35, if_neg h35, if_pos (by omega), casts_app, casts_one]
    refine Ev.step hs ?_
    by_cases h35 : rd cs (x : Int) = 35
    · have hop' : ¬ openAt cs x = true := fun e => hop.1 e h35
      rw [if_neg hop'] at hr
      refine Ev.congr (fun k => if_pos h35) ?_
      by_cases h0 : own = []
      · rw [if_pos h0] at hr
        exact Ev.congr (fun k => if_pos h0) (runs_l1 LL a ha r L hL hlt n (j + 1) out [] (by omega) (by omega) (by simp) hr)
      · rw [if_neg h0] at hr
        refine Ev.congr (fun k => if_neg h0) (runs_l1 LL a ha r L hL hlt n (j + 1) (out ++ [own]) [] (by omega) (by simp; omega) (by simp) ?_)
        rw [List.append_assoc]; exact hr
    · rw [if_pos (hop.2 h35)] at hr
      exact Ev.congr (fun k => if_neg h35) (runs_l1 LL a ha r L hL hlt n (j + 1) out (own ++ [x]) (by omega) (by omega) (by simp; omega) hr)
theorem runsF_len (p : Nat → Bool) : ∀ (l own : List Nat), (runsF p own l).length ≤ l.length + 1
  | [], own => by unfold runsF; split <;> simp
  | k :: l, own => by
    have h1 := runsF_len p l (own ++ [k])
    have h2 := runsF_len p l []
    unfold runsF
    split
    · simp; omega
    · split
      · simp; omega
      · simp; omega
theorem runs_l0 {w h : Nat} {cs : List Int} (S : List (List Nat)) (hS : S.length < 1000) (hall : ∀ L ∈ S, L.length < 10 ∧ ∀ x ∈ L, x < cs.length) : ∀ (n a : Nat) (out : List (List Nat)), a + n = S.length → out.length ≤ 20 * a →
    Ev (fun k => impl_tray_strI.l0 k (out.map castsI) (S.map castsI) ((S.map castsI).length : Int) (a : Int) w h cs) ((out ++ (S.drop a).flatMap (runsF (openAt cs) [])).map castsI)
  | 0, a, out, ha, ho => by
    rw [List.drop_eq_nil_of_le (by omega)]
    refine Ev.step (fun k => by rw [impl_tray_strI.l0, if_neg (by simp; omega)]) (Ev.congr (fun k => ?_) (Ev.now _))
    rw [List.flatMap_nil, List.append_nil]
  | n + 1, a, out, ha, ho => by
    have hal : a < S.length := by omega
    obtain ⟨q1, q2⟩ := hall _ (List.getElem_mem hal)
    have hrow := rows_at S a hal
    have hd := List.drop_eq_getElem_cons hal
    rw [hd, List.flatMap_cons, ← List.append_assoc]
    have hl := runsF_len (openAt cs) (S[a]'hal) []
    have ih := runs_l0 (w := w) (h := h) S hS hall n (a + 1) (out ++ runsF (openAt cs) [] (S[a]'hal)) (by omega) (by simp; omega)
    have := runs_l1 (w := w) (h := h) (S.map castsI) a (by omega) _ (S[a]'hal) (by omega) q2 (S[a]'hal).length 0 out [] (by omega) (by omega) (by simp) (by rw [List.drop_zero]; exact ih)
    refine Ev.step (fun k => ?_) this
    rw [impl_tray_strI.l0, if_pos (by simp; omega), if_pos (by omega), if_pos (by simp; omega), hrow, castsI_length]; rfl
section
variable {w h d : Nat} {cs : List Int} (hw : 1 ≤ w ∧ w ≤ 7) (hh : 1 ≤ h ∧ h ≤ 7) (hl : cs.length = w * h) (hd : d < 4)
include hw hh hl hd
theorem strI_ev : Ev (fun k => impl_tray_strI.f k w h cs (dirB d)) ((strI w h d cs).map castsI) := by
  have hM : lnM w h d ≤ 7 := by unfold lnM; split <;> omega
  have hK := lnK_le (d := d) hw.2 hh.2
  refine Ev.bind (lines_ev (cs := cs) hw hh hd) ?_
  have := runs_l0 (w := w) (h := h) (cs := cs) (linesD w h d) (by simp [linesD]; omega) (fun L hL => ?_) (linesD w h d).length 0 [] (by omega) (by simp)
  · exact this
  · obtain ⟨a, ha, rfl⟩ := List.mem_map.1 hL
    exact ⟨by rw [lineD_length]; omega, fun x hx => by rw [hl]; exact (mem_lines hd).1 (List.mem_flatten.2 ⟨_, hL, hx⟩)⟩
end
theorem foldl_cast : ∀ (l : List Nat) (m : Nat), (castsI l).foldl min (m : Int) = ((l.foldl Nat.min m : Nat) : Int)
  | [], m => rfl
  | a :: l, m => by
    show (castsI l).foldl min (min (m : Int) (a : Int)) = _
    have e : min (m : Int) (a : Int) = ((Nat.min m a : Nat) : Int) := by
      rcases Nat.le_total m a with h | h
      · rw [show Nat.min m a = m from Nat.min_eq_left h]; omega
      · rw [show Nat.min m a = a from Nat.min_eq_right h]; omega
    rw [e, foldl_cast l]; rfl
theorem minOf_casts {l : List Nat} (hne : l ≠ []) : Lib.minOf (castsI l) = ((leastL l : Nat) : Int) := by
  cases l with
  | nil => exact absurd rfl hne
  | cons a l =>
    show (castsI (a :: l)).foldl min ((a : Nat) : Int) = _
    rw [foldl_cast, List.foldl_cons, show Nat.min a a = a from Nat.min_self a]; rfl
theorem nat_casts (l : List Nat) : (castsI l).map Int.toNat = l := by
  unfold castsI
  rw [List.map_map]
  exact (List.map_congr_left fun x _ => rfl).trans (List.map_id l)
theorem sorted_back {S : List (List Nat)} (hne : ∀ st ∈ S, st ≠ []) {ys : List (List Int)} (hp : ys.Perm (S.map castsI)) (hs : ys.Pairwise fun a b => Lib.minOf a ≤ Lib.minOf b) :
    ∃ T : List (List Nat), ys = T.map castsI ∧ T.Perm S ∧ T.Pairwise fun a b => leastL a ≤ leastL b := by
  have hT : (ys.map fun y => y.map Int.toNat).Perm S := by
    refine (hp.map _).trans (List.Perm.of_eq ?_)
    rw [List.map_map]
    exact (List.map_congr_left fun x _ => nat_casts x).trans (List.map_id S)
  have hY : ys = (ys.map fun y => y.map Int.toNat).map castsI := by
    rw [List.map_map]
    refine ((List.map_congr_left fun y hy => ?_).trans (List.map_id ys)).symm
    obtain ⟨l, hl, rfl⟩ := List.mem_map.1 (hp.mem_iff.1 hy)
    show castsI ((castsI l).map Int.toNat) = _
    rw [nat_casts]; rfl
  refine ⟨_, hY, hT, ?_⟩
  rw [hY, List.pairwise_map] at hs
  refine List.Pairwise.imp_of_mem (fun {a b} ha hb hab => ?_) hs
  rw [minOf_casts (hne a (hT.mem_iff.1 ha)), minOf_casts (hne b (hT.mem_iff.1 hb))] at hab
  omega
end Go.Proofs.YtdffgeoegdkiaaaGreatDoor

namespace Go.Proofs.YtdffgeoegdkiaaaGreatDoor
open Go.RowKit Go.Proofs.YtdffgeoegdkiaaaGreatDoorW.PrintWords Go.Proofs.YtdffgeoegdkiaaaGreatDoorW.PrintLast Go.Proofs.YtdffgeoegdkiaaaGreatDoorW.PrintMore Go.Lib Go.Shelf Go.Proofs.YtdffgeoegdkiaaaGreatDoor.F Go.Maps
attribute [local go_sem] max2_int min2_int
theorem set3_cell {w : World} {b b' : Nat} (h : b ≠ b') (u0 u1 u2 : Value) (j : Nat) {v : Value} (hc : w.cell? ⟨b, j, none⟩ = some v) : (((w.setCell ⟨b', 0, none⟩ u0).setCell ⟨b', 1, none⟩ u1).setCell ⟨b', 2, none⟩ u2).cell? ⟨b, j, none⟩ = some v := by
  have ne : ∀ k, (⟨b', k, none⟩ : Addr) ≠ ⟨b, j, none⟩ := fun k e => by injection e with e; exact h e.symm
  rw [World.cell?_setCell_other _ _ _ _ (by first | exact ne 2 | exact (ne 2).symm), World.cell?_setCell_other _ _ _ _ (by first | exact ne 1 | exact (ne 1).symm), World.cell?_setCell_other _ _ _ _ (by first | exact ne 0 | exact (ne 0).symm)]
  exact hc
theorem R_set3 {w : World} {base : Nat} {v : Value} {xs : List Int} {b : Nat} (h : Kd.R (Kd.int .u8) 5 w base (fun _ => True) v xs) (hb : b < base) (u0 u1 u2 : Value) : Kd.R (Kd.int .u8) 5 (((w.setCell ⟨b, 0, none⟩ u0).setCell ⟨b, 1, none⟩ u1).setCell ⟨b, 2, none⟩ u2) base (fun _ => True) v xs := by
  have h1 := Kd.R_mono (Kd.R_bound h) (ok' := fun k => k ≠ b) (fun k hk => by have := hk.2.1; omega)
  exact Kd.R_mono (Kd.R_far (p := ⟨b, 2, none⟩) (Kd.R_far (p := ⟨b, 1, none⟩) (Kd.R_far (p := ⟨b, 0, none⟩) h1 (fun _ hk => hk) u0) (fun _ hk => hk) u1) (fun _ hk => hk) u2) (fun _ _ => trivial)
set_option maxRecDepth 100000 in
set_option maxHeartbeats 8000000 in
theorem tilted_calls (a0 a1 dir : Int) (A2 : Option Addr) (c2 : Nat) (l2 : List Int) (m : List (Nat × Nat)) (w : World) (hr2 : Kd.C (Kd.int .u8) w A2 l2.length l2) (hc2 : l2.length ≤ c2)
    (hl : 0 < l2.length ∧ l2.length < 65536) (hn : (m.map Prod.fst).Nodup) (hs : (m.map Prod.snd).Nodup) (hlt : ∀ p ∈ m, p.1 < l2.length ∧ p.2 < l2.length)
    (hcall : ∀ W, Below w.heap.size w W → Calls Tryz.prog 108 #[.agg #[.int .i64 a0, .int .i64 a1, .slice A2 l2.length c2], .int .u8 dir] W fun e w' => ∃ b, e = .returned (.map (some b)) ∧ W.heap.size ≤ b ∧ MapAt w' b m ∧ Below W.heap.size W w') :
    Calls Tryz.prog 109 #[.agg #[.int .i64 a0, .int .i64 a1, .slice A2 l2.length c2], .int .u8 dir] w fun e w' => ∃ v2_ : Value, e = .returned (.agg #[.int .i64 a0, .int .i64 a1, v2_]) ∧ Kd.R (Kd.int .u8) 5 w' w.heap.size (fun _ => True) v2_ (putAll l2 (wallsL l2) m) ∧ Below w.heap.size w w' := by
  have HR := am hr2
  have HC := am hc2
  have HL := am hl
  have HN := am (And.intro hn (And.intro hs hlt))
  have HB := am (Below.refl w.heap.size w)
  have HCALL := am hcall
  clear hr2 hc2 hl hn hs hlt hcall
  go_enter Tryz.func109, Tryz.ntmps109
  go_wp2_with (first
    | ((with_reducible refine gate_dst (N := 2) rfl ?_); refine box_event ?hg (N := 2) ?hd (cs := #[.int .i64 a0, .int .i64 a1, .slice A2 l2.length c2]) (t := 93) ?hr ?_; (case hd => rfl); (case hg => rfl); (case hr => first | (go_simp; done) | (go_simp; rfl)); intro b1 hg1 w3 hbox1 hb1; have L0 := am (blk_lt hbox1); have G1 := am hg1; have X1 := am hbox1; have B1 := am hb1; clear hg1 hbox1 hb1)
    | ((with_reducible refine gate_dst (N := 4) rfl ?_); refine box_event ?hg (N := 4) ?hd (cs := #[.int .i64 0, .int .i64 0, .slice none 0 0]) (t := 93) ?hr ?_; (case hd => rfl); (case hg => rfl); (case hr => first | (go_simp; done) | (go_simp; rfl)); intro b2 hg2 w4 hbox2 hb2; have G2 := am hg2; have X2 := am hbox2; have B2 := am (below_step B1.out hb2); have n1 := am (blk_below X1.out hb2); clear X1; have X1 := n1; clear n1; clear hg2 hbox2 hb2))
  have z10 : w4.cell? ⟨b1, 0, none⟩ = some (.int .i64 a0) := (blk_cell X1.out 0).trans rfl
  have z11 : w4.cell? ⟨b1, 1, none⟩ = some (.int .i64 a1) := (blk_cell X1.out 1).trans rfl
  have z12 : w4.cell? ⟨b1, 2, none⟩ = some (.slice A2 l2.length c2) := (blk_cell X1.out 2).trans rfl
  have L1 := am (blk_lt X1.out)
  have hb12 : b1 ≠ b2 := by have h1 := L0.out; have h2 := G2.out; omega
  have HSL := fun W (h : Below w.heap.size w W) => HCALL.out W h
  go_region_held3 (fun w' => w'.cell? ⟨b1, 0, none⟩ = some (.int .i64 a0) ∧ w'.cell? ⟨b1, 1, none⟩ = some (.int .i64 a1) ∧ w'.cell? ⟨b1, 2, none⟩ = some (.slice A2 l2.length c2)) (first | go_keep | exact ⟨y10, y11, y12⟩ | exact ⟨x10, x11, x12⟩ | exact ⟨set3_cell hb12 _ _ _ 0 x10, set3_cell hb12 _ _ _ 1 x11, set3_cell hb12 _ _ _ 2 x12⟩)
    ((first
      | (go_simp; go_at_call 108; refine (HSL _ (below_drew1 B2.out)).mono ?_; rintro e w5 ⟨b, rfl, hb0, hm, hb⟩; have Y5 := blk_below (w := w4.drew) X1.out hb; have y10 : w5.cell? ⟨b1, 0, none⟩ = some (.int .i64 a0) := (blk_cell Y5 0).trans rfl; have y11 : w5.cell? ⟨b1, 1, none⟩ = some (.int .i64 a1) := (blk_cell Y5 1).trans rfl; have y12 : w5.cell? ⟨b1, 2, none⟩ = some (.slice A2 l2.length c2) := (blk_cell Y5 2).trans rfl; have B5 := am (below_step (below_drew1 B2.out) hb); have M5 := am hm; have X5 := am (blk_below (w := w4.drew) X2.out hb); have Y6 := am Y5; clear hb0 hm hb Y5)
      | (go_simp; go_at_call 152; refine (impl_tray_carried.calls a0 a1 A2 c2 l2 b m _ (Kd.C_below HR.out B5.out) HC.out HL.out M5.out HN.out.1 HN.out.2.1 HN.out.2.2).mono ?_; rintro e w6 ⟨v, rfl, ho, hb⟩; obtain ⟨Ao, co, rfl⟩ := Kd.R_slice ho; have HO := am ho; have B6 := am (below_step B5.out hb); have X6 := am (blk_below X5.out hb); have Z6 := blk_below Y6.out hb; have x10 : w6.cell? ⟨b1, 0, none⟩ = some (.int .i64 a0) := (blk_cell Z6 0).trans rfl; have x11 : w6.cell? ⟨b1, 1, none⟩ = some (.int .i64 a1) := (blk_cell Z6 1).trans rfl; have x12 : w6.cell? ⟨b1, 2, none⟩ = some (.slice A2 l2.length c2) := (blk_cell Z6 2).trans rfl; have d0 : w6.cell? ⟨b2, 0, none⟩ = some (.int .i64 0) := (blk_cell X6.out 0).trans rfl; have d1 : w6.cell? ⟨b2, 1, none⟩ = some (.int .i64 0) := (blk_cell X6.out 1).trans rfl; have d2 : w6.cell? ⟨b2, 2, none⟩ = some (.slice none 0 0) := (blk_cell X6.out 2).trans rfl; have f0 := blk_frozen X6.out 0; have f1 := blk_frozen X6.out 1; have f2 := blk_frozen X6.out 2; clear ho hb Z6)))
  obtain ⟨n, hn⟩ : ∃ n, (putAll l2 (wallsL l2) m).length = n := ⟨_, rfl⟩
  have h2w : w.heap.size ≤ b2 := by rw [G2.out]; exact B1.out.size
  try simp only [hn]
  go_wp2
  have hb25 : b2 < w5.heap.size := blk_lt X5.out
  refine bodyPost_ret (results_cell_row rfl _ _ b2 93 #[.int .i64 a0, .int .i64 a1, .slice Ao n co] (0, 0) _ rfl (by exact blk_put (blk_put (blk_put X6.out 0 (.int .i64 a0) rfl) 1 (.int .i64 a1) rfl) 2 (.slice Ao n co) rfl) Tryz.underlying93 rfl (by kernel_rfl)) rfl ?_
  refine ⟨.slice Ao n co, rfl, ?_, ((B6.out.setCell (p := ⟨b2, 0, none⟩) h2w _).setCell (p := ⟨b2, 1, none⟩) h2w _).setCell (p := ⟨b2, 2, none⟩) h2w _⟩
  have hO := HO.out
  rw [hn] at hO
  exact Kd.R_lower (R_set3 hO hb25 _ _ _) B5.out.size
end Go.Proofs.YtdffgeoegdkiaaaGreatDoor

namespace Go.Proofs.YtdffgeoegdkiaaaGreatDoor
open Go.RowKit Go.Proofs.YtdffgeoegdkiaaaGreatDoorW.PrintWords Go.Proofs.YtdffgeoegdkiaaaGreatDoorW.PrintLast Go.Proofs.YtdffgeoegdkiaaaGreatDoorW.PrintMore Go.Lib Go.Proofs.YtdffgeoegdkiaaaGreatDoor.F
theorem stretches_calls {w h d : Nat} {cs : List Int} (hw : 1 ≤ w ∧ w ≤ 7) (hh : 1 ≤ h ∧ h ≤ 7) (hl : cs.length = w * h) (hd : d < 4) (A2 : Option Addr) (c2 : Nat) (W : World) (hr2 : Kd.C (Kd.int .u8) W A2 cs.length cs) (hc2 : cs.length ≤ c2) :
    Calls Tryz.prog 151 #[.agg #[.int .i64 w, .int .i64 h, .slice A2 cs.length c2], .int .u8 (dirB d)] W fun e w' => ∃ v, e = .returned v ∧ Kd.R (Kd.slice 3 (Kd.int .i64)) 28 w' W.heap.size (fun _ => True) v ((strD w h d cs).map castsI) ∧ Below W.heap.size W w' := by
  obtain ⟨k, hk⟩ := Ev.rounds (strI_ev hw hh hl hd)
  have hp := strD_perm hd cs (w := w) (h := h)
  obtain ⟨f1, f2, f3, f4, f5⟩ := strD_facts hw hh hl hd
  have hne := strI_ne (w := w) (h := h) (d := d) (cs := cs)
  have hml : ∀ st ∈ strI w h d cs, Lib.minOf (castsI st) = ((leastL st : Nat) : Int) ∧ leastL st < 65536 := fun st hs => by
    have h1 := f2 st (hp.mem_iff.2 hs) _ (leastL_mem (hne st hs))
    have h2 := f1.2
    exact ⟨minOf_casts (hne st hs), by omega⟩
  refine (impl_tray_strI.calls k w h A2 c2 cs (dirB d) _ W hr2 hc2 (fun x hx => ?_) (by rw [List.length_map, ← hp.length_eq]; exact f4) (fun x hx => ?_) hk).mono ?_
  · obtain ⟨st, hs, rfl⟩ := List.mem_map.1 hx
    intro e
    have := hne st hs
    unfold castsI at e
    exact this (List.map_eq_nil_iff.1 e)
  · obtain ⟨st, hs, rfl⟩ := List.mem_map.1 hx
    obtain ⟨h1, h2⟩ := hml st hs
    rw [h1]; omega
  · rintro e w' ⟨v, rfl, ⟨ys, hp', hs', hR⟩, hb⟩
    obtain ⟨T, rfl, hT, hsT⟩ := sorted_back hne hp' hs'
    rw [strD_of hd hT hsT] at hR
    exact ⟨v, rfl, hR, hb⟩
def impl_tray_tilted.f (a0 a1 : Int) (l : List Int) (c : Int) : Option (Int × Int × List Int) := if gridI a0 a1 l ∧ isDirC c = true then some (a0, a1, tiltD a0.toNat a1.toNat (dirIx c).toNat l) else none
theorem impl_tilted_eq {w h : Nat} {cs : List Int} {c : Int} (hw : 1 ≤ w ∧ w ≤ 7) (hh : 1 ≤ h ∧ h ≤ 7) (hl : cs.length = w * h) (hc : isDirC c = true) : impl_tray_tilted.f w h cs c = some ((w : Int), (h : Int), tiltD w h (dirIx c).toNat cs) := if_pos ⟨gridI_nat hw hh hl, hc⟩
theorem slide_calls {w h d : Nat} {cs : List Int} (hw : 1 ≤ w ∧ w ≤ 7) (hh : 1 ≤ h ∧ h ≤ 7) (hl : cs.length = w * h) (hd : d < 4) (A2 : Option Addr) (c2 : Nat) (W : World) (hr2 : Kd.C (Kd.int .u8) W A2 cs.length cs) (hc2 : cs.length ≤ c2) :
    Calls Tryz.prog 108 #[.agg #[.int .i64 w, .int .i64 h, .slice A2 cs.length c2], .int .u8 (dirB d)] W fun e w' => ∃ b, e = .returned (.map (some b)) ∧ W.heap.size ≤ b ∧ MapAt w' b (mvD w h d cs) ∧ Below W.heap.size W w' := by
  obtain ⟨f1, f2, f3, f4, f5⟩ := strD_facts hw hh hl hd
  exact impl_tray_slide.calls w h (dirB d) A2 c2 cs (strD w h d cs) W hr2 hc2 f1 f2 f3 f4 f5 fun W' hW => stretches_calls hw hh hl hd A2 c2 W' (Kd.C_below hr2 hW) hc2
theorem impl_tray_tilted.calls (a0_0 a0_1 : Int) (A0_2 : Option Addr) (c0_2 : Nat) (l0_2 : List Int) (a1 : Int) (r1 r2 : Int) (r3 : List Int) (w : World) (hr0_2 : Kd.C (Kd.int .u8) w A0_2 l0_2.length l0_2) (hc0_2 : l0_2.length ≤ c0_2) (h : impl_tray_tilted.f a0_0 a0_1 l0_2 a1 = some (r1, r2, r3)) :
    Calls Tryz.prog 109 #[.agg #[.int .i64 a0_0, .int .i64 a0_1, .slice A0_2 l0_2.length c0_2], .int .u8 a1] w fun e w' => ∃ v2_ : Value, e = .returned (.agg #[.int .i64 r1, .int .i64 r2, v2_]) ∧ Kd.R (Kd.int .u8) 5 w' w.heap.size (fun _ => True) v2_ r3 ∧ Below w.heap.size w w' := by
  unfold impl_tray_tilted.f at h
  split at h
  case isFalse => cases h
  rename_i hc
  obtain ⟨⟨hw, hh, hl⟩, hdir⟩ := hc
  injection h with h
  injection h with h1 h
  injection h with h2 h3
  subst h1 h2 h3
  obtain ⟨W, rfl⟩ : ∃ n : Nat, a0_0 = n := ⟨a0_0.toNat, by omega⟩
  obtain ⟨H, rfl⟩ : ∃ n : Nat, a0_1 = n := ⟨a0_1.toNat, by omega⟩
  obtain ⟨e1, hd', _⟩ := dirB_ix hdir
  generalize (dirIx a1).toNat = d at *
  subst e1
  simp only [Int.toNat_natCast] at hl ⊢
  have hw' : 1 ≤ W ∧ W ≤ 7 := by omega
  have hh' : 1 ≤ H ∧ H ≤ 7 := by omega
  obtain ⟨f1, _⟩ := strD_facts hw' hh' hl hd'
  exact tilted_calls W H (dirB d) A0_2 c0_2 l0_2 (mvD W H d l0_2) w hr0_2 hc0_2 f1 (mv_fst hd') (mv_snd hd') (fun p hp => by
    have := mv_mem hd' hp
    rw [hl]; exact ⟨this.1, this.2.2.1⟩) (fun W' hW => slide_calls hw' hh' hl hd' A0_2 c0_2 W' (Kd.C_below hr0_2 hW) hc0_2)
end Go.Proofs.YtdffgeoegdkiaaaGreatDoor

namespace Go.Proofs.YtdffgeoegdkiaaaGreatDoor.F
open Go.Proofs.YtdffgeoegdkiaaaGreatDoor
open Go.RowKit Go.Proofs.YtdffgeoegdkiaaaGreatDoorW.PrintWords Go.Proofs.YtdffgeoegdkiaaaGreatDoorW.PrintLast Go.Proofs.YtdffgeoegdkiaaaGreatDoorW.PrintMore
attribute [local go_sem] max2_int min2_int max_two min_two max_three min_three max_four min_four
def impl_tray_tiltedAll.l0 : Nat → List Int → Int → Int → Int → Int → List Int → Option (Int × Int × List Int)
 | 0, _, _, _, _, _, _ => none
 | k + 1, x8, x9, x10, x102000, x102001, x102002 => if x10 < x9 then (if 0 ≤ x10 then (if x10 < (x8.length : Int) then ((impl_tray_tilted.f x102000 x102001 x102002 (rd x8 x10)).bind fun bt107 => (impl_tray_tiltedAll.l0 k x8 x9 (wrap64 (x10 + 1)) bt107.1 bt107.2.1 bt107.2.2)) else (none)) else (none)) else (some (x102000, x102001, x102002))
theorem impl_tray_tiltedAll.mono_l : ∀ k, (∀ y0 y1 y2 y3 y4 y5, LeO (impl_tray_tiltedAll.l0 k y0 y1 y2 y3 y4 y5) (impl_tray_tiltedAll.l0 (k + 1) y0 y1 y2 y3 y4 y5))
 | 0 => fun _ _ _ _ _ _ r h => by simp [impl_tray_tiltedAll.l0] at h
 | k + 1 => by
  have ih0 := impl_tray_tiltedAll.mono_l k
  ·intro y0 y1 y2 y3 y4 y5
   unfold impl_tray_tiltedAll.l0
   exact mo
def spec_tiRun.l0 : Nat → ByteArray → Int → Int → Int → List Int → Option (Int × Int × List Int)
 | 0, _, _, _, _, _ => none
 | k + 1, x1, x5, x102000, x102001, x102002 => if x5 < (x1.size : Int) then (if 0 ≤ x5 then (if x5 ≤ (wrap64 (x5 + 1)) then (if (wrap64 (x5 + 1)) ≤ (x1.size : Int) then ((spec_tiDir.f k (x1.extract (x5 : Int).toNat ((wrap64 (x5 + 1)) : Int).toNat)).bind fun t103 => ((spec_tiTilt.f x102000 x102001 x102002 t103).bind fun bt104 => (spec_tiRun.l0 k x1 (wrap64 (x5 + 1)) bt104.1 bt104.2.1 bt104.2.2))) else (none)) else (none)) else (none)) else (some (x102000, x102001, x102002))
def spec_tiRun.f (k : Nat) (a0_0 : Int) (a0_1 : Int) (l0_2 : List Int) (a1 : ByteArray) : Option (Int × Int × List Int) := spec_tiRun.l0 k a1 0 a0_0 a0_1 l0_2
theorem spec_tiRun.mono_l : ∀ k, (∀ y0 y1 y2 y3 y4, LeO (spec_tiRun.l0 k y0 y1 y2 y3 y4) (spec_tiRun.l0 (k + 1) y0 y1 y2 y3 y4))
 | 0 => fun _ _ _ _ _ r h => by simp [spec_tiRun.l0] at h
 | k + 1 => by
  have ih0 := spec_tiRun.mono_l k
  ·intro y0 y1 y2 y3 y4
   unfold spec_tiRun.l0
   have im0 := @spec_tiDir.mono; exact mo
theorem spec_tiRun.mono : ∀ a0 a1 a2 a3 k, LeO (spec_tiRun.f k a0 a1 a2 a3) (spec_tiRun.f (k + 1) a0 a1 a2 a3) := by
 intro a0 a1 a2 a3 k
 have ih0 := spec_tiRun.mono_l k
 unfold spec_tiRun.f
 have im0 := @spec_tiDir.mono; exact mo
def spec_tiRun.T4 : Bool × List (List Nat × List Nat) := (true, [([], []), ([], []), ([], []), ([], []), ([3], [3]), ([1, 2, 4], [1, 2, 4]), ([5], [5]), ([0, 6, 6], [0, 6]), ([7, 7, 0, 1, 2, 3, 4, 5, 6, 7], [7])])
def spec_tiRun.B4 : List Nat := [0, 0, 0, 0, 8, 30, 62, 127, 255]
theorem spec_tiRun.tab4 : rtab .any (opsOf Tryz.f99 4) = spec_tiRun.T4 := by kernel_rfl
theorem spec_tiRun.bits4 : waitsOk spec_tiRun.T4.2 spec_tiRun.B4 = true := by kernel_rfl
set_option maxHeartbeats 8000000 in
set_option maxRecDepth 100000 in
theorem spec_tiRun.calls (k : Nat) (a0_0 : Int) (a0_1 : Int) (P0_2_ : Nat → Prop) (A0_2 : Option Addr) (c0_2 : Nat) (l0_2 : List Int) (a1 : ByteArray) (r1 : Int) (r2 : Int) (r3 : List Int) (w : World) (hs0_2 : Kd.V (Kd.int .u8) 5 w w.heap.size (fun k_ => P0_2_ k_) (.slice A0_2 l0_2.length c0_2) l0_2) (h : spec_tiRun.f k a0_0 a0_1 l0_2 a1 = some (r1, r2, r3)) :
  Calls Tryz.prog 99 #[.agg #[.int .i64 a0_0, .int .i64 a0_1, .slice A0_2 l0_2.length c0_2], .string a1] w fun e w' => ∃ v2_ : Value, e = .returned (.agg #[.int .i64 r1, .int .i64 r2, v2_]) ∧ Kd.V (Kd.int .u8) 5 w' w.heap.size (fun k_ => (P0_2_ k_ ∨ w.heap.size ≤ k_)) v2_ r3 ∧ Below w.heap.size w w' := by
 have hu62 := Tryz.underlying62
 have HO0_2 := am (show Kd.V (Kd.int .u8) 5 w w.heap.size (fun k_ => (P0_2_ k_ ∨ w.heap.size ≤ k_)) (.slice A0_2 l0_2.length c0_2) l0_2 from Kd.V_mono hs0_2 (fun k_ hk => .inl hk))
 have HB := am (Below.refl w.heap.size w)
 have H : (spec_tiRun.l0 k a1 0 a0_0 a0_1 l0_2) = some (r1, r2, r3) := h
 clear h
 have H' := am H
 clear H
 go_enter Tryz.func99, Tryz.ntmps99
 go_wp2_with (first | ((with_reducible refine gate_dst (N := 2) rfl ?_); refine box_event ?hg (N := 2) ?hd (cs := #[.int .i64 a0_0, .int .i64 a0_1, .slice A0_2 l0_2.length c0_2]) (t := 62) ?hr ?_; (case hd => rfl); (case hg => rfl); (case hr => exact aq15); intro gb101 hg w3 hbox hb; have n0_ := am (Kd.V_below (Kd.V_elderB aq20 gb101 (Nat.le_of_eq hg.symm)) hb); have n1_ := am (below_step aq1 hb); have n2_ := am (hbox); have n3_ := am ((by rw [hg]; exact (below_size aq1) : w.heap.size ≤ gb101)); have n4_ := am ((by rw [hg]; exact (below_size aq1) : w.heap.size ≤ gb101)); clear HO0_2; clear HB; have HO0_2 := n0_; have HB := n1_; have BK101 := n2_; have GW101 := n3_; have GE101 := n4_; clear n0_ n1_ n2_ n3_ n4_; clear hb hbox hg) | ((with_reducible refine gate_dst (N := 4) rfl ?_); refine box_event ?hg (N := 4) ?hd (cs := #[.int .i64 0, .int .i64 0, .slice none 0 0]) (t := 62) ?hr ?_; (case hd => rfl); (case hg => rfl); (case hr => exact aq15); intro gb102 hg w4 hbox hb; have n0_ := am (Kd.V_below (Kd.V_elderB aq20 gb102 (Nat.le_of_eq hg.symm)) hb); have n1_ := am (blk_below (g := gb101) (o := .cells #[.int .i64 a0_0, .int .i64 a0_1, .slice A0_2 l0_2.length c0_2] 62 (0, 0)) aq2 hb); have n2_ := am (below_step aq0 hb); have n3_ := am (hbox); have n4_ := am ((by rw [hg]; exact (below_size aq0) : w.heap.size ≤ gb102)); have n5_ := am ((by rw [hg]; exact (below_size aq0) : w.heap.size ≤ gb102)); have n6_ := am ((by rw [hg]; exact Nat.ne_of_lt (blk_lt (g := gb101) (o := .cells #[.int .i64 a0_0, .int .i64 a0_1, .slice A0_2 l0_2.length c0_2] 62 (0, 0)) aq2) : gb101 ≠ gb102)); have n7_ := am ((by rw [hg]; exact Nat.ne_of_gt (blk_lt (g := gb101) (o := .cells #[.int .i64 a0_0, .int .i64 a0_1, .slice A0_2 l0_2.length c0_2] 62 (0, 0)) aq2) : gb102 ≠ gb101)); clear HO0_2; clear BK101; clear HB; have HO0_2 := n0_; have BK101 := n1_; have HB := n2_; have BK102 := n3_; have GW102 := n4_; have GE102 := n5_; have NB101_102 := n6_; have NB102_101 := n7_; clear n0_ n1_ n2_ n3_ n4_ n5_ n6_ n7_; clear hb hbox hg))
 go_loopg [5] k (fun kq v5 w' => ∃ (x5_1 : Int) (x102000_1 : Int) (x102001_1 : Int) (x102002_1 : List Int) (u102002 : Value), v5 = .int .i64 x5_1 ∧ Aside0 (spec_tiRun.l0 kq a1 x5_1 x102000_1 x102001_1 x102002_1 = some (r1, r2, r3)) ∧ Aside0 (kq ≤ k) ∧ Aside0 (Kd.V (Kd.int .u8) 5 w' w.heap.size (fun k_ => (P0_2_ k_ ∨ w.heap.size ≤ k_) ∧ k_ ≠ gb101 ∧ k_ ≠ gb102) u102002 x102002_1) ∧ Aside0 (w'.heap[gb101]? = some (.cells #[.int .i64 x102000_1, .int .i64 x102001_1, u102002] 62 (0, 0))) ∧ Aside0 (w'.heap[gb102]? = some (.cells #[.int .i64 0, .int .i64 0, (.slice none 0 0)] 62 (0, 0))) ∧ Aside0 (Below w.heap.size w w'))
 case atStart => exact ⟨(0), (a0_0), (a0_1), (l0_2), (.slice A0_2 l0_2.length c0_2), aq7, H', ⟨Nat.le_refl _⟩, ⟨by (with_reducible repeat (first | apply Kd.V_alloc | apply Kd.V_drewN | apply Kd.V_drew)); exact Kd.V_mono HO0_2.out (fun _ hk => ⟨hk.1.1, ⟨hk.1.2, hk.2⟩⟩)⟩, ⟨aq2⟩, ⟨aq9⟩, ⟨aq3⟩⟩
 case round =>
  clear H'
  try clear p2
  obtain ⟨x5_1, x102000_1, x102001_1, x102002_1, u102002, rfl, HA, HK1, HO_102002, BK101, BK102, HB⟩ := hrel
  cases gk with
  | zero => exact absurd HA.out (by simp [spec_tiRun.l0])
  | succ k1 =>
   have H := HA.out
   clear HA
   simp only [spec_tiRun.l0] at H
   by_cases c5 : x5_1 < (a1.size : Int)
   ·rw [if_pos c5] at H
    have c5b0 := decide_eq_true c5
    clear c5
    by_cases c6 : 0 ≤ x5_1
    ·rw [if_pos c6] at H
     have c6b0 := eq_true c6
     have c6b1 := decide_eq_true c6
     clear c6
     by_cases c7 : x5_1 ≤ (wrap64 (x5_1 + 1))
     ·rw [if_pos c7] at H
      have c7b0 := eq_true c7
      have c7b1 := decide_eq_true c7
      by_cases c8 : (wrap64 (x5_1 + 1)) ≤ (a1.size : Int)
      ·rw [if_pos c8] at H
       have c8b0 := eq_true c8
       have c8b1 := decide_eq_true c8
       obtain ⟨t103, A90, H⟩ := Option.bind_eq_some_iff.mp H
       have A9 := am A90
       clear A90
       replace H := Option.bind_eq_some_iff.mp H
       obtain ⟨⟨t104, t105, t106⟩, A100, H⟩ := H
       replace H : (spec_tiRun.l0 k1 a1 (wrap64 (x5_1 + 1)) t104 t105 t106) = some (r1, r2, r3) := H
       have A10 := am A100
       clear A100
       have H' := am H
       clear H
       try go_wp2
       have n0_ := am (Kd.V_drew HO_102002.out)
       have n1_ := am (blk_drew BK101.out)
       have n2_ := am (blk_drew BK102.out)
       have n3_ := am (below_drew1 HB.out)
       clear HO_102002
       clear BK101
       clear BK102
       clear HB
       have HO_102002 := n0_
       have BK101 := n1_
       have BK102 := n2_
       have HB := n3_
       clear n0_ n1_ n2_ n3_
       refine start_ (n := 9) (S := fun w' => w'.cell? ⟨gb101, 0, none⟩ = some (.int .i64 x102000_1) ∧ w'.cell? ⟨gb101, 1, none⟩ = some (.int .i64 x102001_1) ∧ w'.cell? ⟨gb101, 2, none⟩ = some (u102002)) (ds := [8]) #[false, false, false, false, false, false, false, false, false] (by kernel_rfl) rfl rfl ⟨(blk_cell BK101.out 0).trans rfl, (blk_cell BK101.out 1).trans rfl, (blk_cell BK101.out 2).trans rfl⟩ (fun hHeld => ?_); refine with_tabW spec_tiRun.tab4 spec_tiRun.bits4 (fun HT_ HW_ => ?_)
       generalize wr.drew = w11 at HO_102002 BK101 BK102 HB hHeld ⊢
       refine pure_ (i := 1) (N := some 13) (v := ?_) (a' := ?_) (bm 9 2) rfl rfl (any_of HT_.out (by kernel_rfl)) (fun _ _ _ h => h) (Or.inl ⟨by rfl, ?_⟩) ?_ ?_
       rotate_left
       ·intro w'
        go_simp
        with_reducible rfl
       rotate_left
       ·simp only [Act.put, ac_]
        rfl
       refine pure_ (i := 2) (N := some 14) (v := ?_) (a' := ?_) (bm 9 6) rfl rfl (any_of HT_.out (by kernel_rfl)) (fun _ _ _ h => h) (Or.inl ⟨by rfl, ?_⟩) ?_ ?_
       rotate_left
       ·intro w'
        go_simp
        with_reducible rfl
       rotate_left
       ·simp only [Act.put, ac_]
        rfl
       refine pure_ (i := 3) (N := some 15) (v := ?_) (a' := ?_) (bm 9 14) rfl rfl (any_of HT_.out (by kernel_rfl)) (fun _ _ _ h => h) (Or.inl ⟨by rfl, ?_⟩) ?_ ?_
       rotate_left
       ·intro w'
        go_simp
        with_reducible rfl
       rotate_left
       ·simp only [Act.put, ac_]
        rfl
       refine pure_ (i := 4) (N := some 16) (v := ?_) (a' := ?_) (bm 9 30) rfl rfl (any_of HT_.out (by kernel_rfl)) (fun _ _ _ h => h) (Or.inl ⟨by rfl, ?_⟩) ?_ ?_
       rotate_left
       ·intro w'
        go_simp
        with_reducible rfl
       rotate_left
       ·simp only [Act.put, ac_]
        rfl
       refine pure_ (i := 5) (N := some 17) (v := ?_) (a' := ?_) (bm 9 62) rfl rfl (any_of HT_.out (by kernel_rfl)) (fun _ _ _ h => h) (Or.inl ⟨by rfl, ?_⟩) ?_ ?_
       rotate_left
       ·intro w'
        go_simp
        with_reducible rfl
       rotate_left
       ·simp only [Act.put, ac_]
        rfl
       refine take_ (i := 0) (N := some 12) (v := ?_) (a' := ?_) (bm 9 63) rfl rfl (take_ofW HT_.out HW_.out (by kernel_rfl)) (fun _ _ _ h => h) (Or.inl ⟨by rfl, ?_⟩) hHeld ?_ ?_
       rotate_left
       ·rintro w' ⟨s0, s1, s2⟩
        go_simp
        with_reducible rfl
       rotate_left
       ·simp only [Act.put, ac_]
        rfl
       refine one_ (i := 6) (N := some 18) (bm 9 127) rfl rfl (one_of HT_.out (by kernel_rfl)) (by decide) (fun K hK => ?_)
       refine goes_ Tryz.func86 (by kernel_rfl) rfl #[.string (a1.extract (x5_1 : Int).toNat ((wrap64 (x5_1 + 1)) : Int).toNat)] (by rfl) rfl rfl aq5 ?_
       with_reducible refine (spec_tiDir.calls k1 (a1.extract (x5_1 : Int).toNat ((wrap64 (x5_1 + 1)) : Int).toNat) t103 _ A9.out).mono ?_
       rintro e w' ⟨rfl, ⟨nd, rfl⟩⟩
       refine ⟨_, rfl, ?_⟩
       obtain ⟨Ao12, co12, eo12⟩ := Kd.V_slice HO_102002.out
       (first | subst eo12 | (injection eo12 with f1_ f2_ f3_; have f4_ := f1_.symm; have f5_ := f3_.symm; clear f1_ f2_ f3_; subst f4_; subst f5_))
       refine hK.out _ _ ⟨(blk_cell BK101.out 0).trans rfl, (blk_cell BK101.out 1).trans rfl, (blk_cell BK101.out 2).trans rfl⟩ (fun hHeld => ?_)
       clear hK K
       refine norm_ (a' := ?_) ?_ ?_
       rotate_left
       ·show Act.put _ (some 18) _ = _
        simp only [Act.put, ac_]
        rfl
       refine one_ (i := 7) (N := some 19) (bm 9 255) rfl rfl (one_of HT_.out (by kernel_rfl)) (by decide) (fun K hK => ?_)
       refine goes_ Tryz.func85 (by kernel_rfl) rfl #[.agg #[.int .i64 x102000_1, .int .i64 x102001_1, .slice Ao12 x102002_1.length co12], .int .i64 t103] (by rfl) rfl rfl aq5 ?_
       with_reducible refine (spec_tiTilt.calls x102000_1 x102001_1 _ _ x102002_1 t103 t104 t105 t106 _ ?side1 ?side2 A10.out).mono ?_
       (case side1 => repeat (first | exact (Kd.V_reads' HO_102002.out).2.2 | (with_reducible refine Kd.C_alloc ?_ _) | (with_reducible refine Kd.C_drewN ?_ _) | (with_reducible refine Kd.C_drew ?_)))
       (case side2 => exact (Kd.V_reads' HO_102002.out).2.1)
       rintro e w13 ⟨v107, rfl, ho0, hb⟩
       refine ⟨_, rfl, ?_⟩
       have n0_ := am (Kd.V_elder' (by (with_reducible repeat (first | apply Kd.V_alloc | apply Kd.V_drewN | apply Kd.V_drew)); exact HO_102002.out) (Kd.R_base ho0) hb)
       have n1_ := am (Kd.R_lower (Kd.R_newM (M := fun k_ => (w.heap.size ≤ k_)) ho0 (below_size aq3) (fun k_ h_ => h_)) (below_size aq3))
       have n2_ := am (blk_below (g := gb101) (o := .cells #[.int .i64 x102000_1, .int .i64 x102001_1, .slice Ao12 x102002_1.length co12] 62 (0, 0)) aq2 hb)
       have n3_ := am (blk_below (g := gb102) (o := .cells #[.int .i64 0, .int .i64 0, .slice none 0 0] 62 (0, 0)) aq9 hb)
       have n4_ := am (below_step aq3 hb)
       clear HO_102002
       clear BK101
       clear BK102
       clear HB
       have HO_102002 := n0_
       have HO108 := n1_
       have BK101 := n2_
       have BK102 := n3_
       have HB := n4_
       clear n0_ n1_ n2_ n3_ n4_
       (try clear hb)
       (try clear hb2)
       (try clear hk)
       (try clear hi)
       (try clear ho0)
       obtain ⟨Ao16, co16, eo16⟩ := Kd.R_slice HO108.out
       (first | subst eo16 | (injection eo16 with f1_ f2_ f3_; have f4_ := f1_.symm; have f5_ := f3_.symm; clear f1_ f2_ f3_; subst f4_; subst f5_))
       refine hK.out _ _ ⟨(blk_cell BK101.out 0).trans rfl, (blk_cell BK101.out 1).trans rfl, (blk_cell BK101.out 2).trans rfl⟩ (fun hHeld => ?_)
       clear hK K
       refine norm_ (a' := ?_) ?_ ?_
       rotate_left
       ·show Act.put _ (some 19) _ = _
        simp only [Act.put, ac_]
        rfl
       refine last_ (i := 8) (N := none) (bm 9 511) rfl rfl (one_of HT_.out (by kernel_rfl)) (by decide) (fun K hK => ?_)
       have hs14 : w13.cell? ⟨gb101, 0, none⟩ = some (.int .i64 x102000_1) := (blk_cell BK101.out 0).trans rfl
       have hfs14 := blk_frozen BK101.out 0
       have hns14_1 := NB102_101.out
       have hms14_1 := NB101_102.out
       have hs15 : w13.cell? ⟨gb101, 1, none⟩ = some (.int .i64 x102001_1) := (blk_cell BK101.out 1).trans rfl
       have hfs15 := blk_frozen BK101.out 1
       have hns15_1 := NB102_101.out
       have hms15_1 := NB101_102.out
       have hs17 : w13.cell? ⟨gb101, 2, none⟩ = some (.slice Ao12 x102002_1.length co12) := (blk_cell BK101.out 2).trans rfl
       have hfs17 := blk_frozen BK101.out 2
       have hns17_1 := NB102_101.out
       have hms17_1 := NB101_102.out
       refine skip_ (w1 := ?_) (by rfl) rfl ?_ ?_
       rotate_left
       ·go_simp
        rfl
       refine hK.out _ _ ?_
       clear hK K
       refine done_ (done_of HT_.out (by kernel_rfl)) ?_
       try go_wp2
       go_roundg k1
       case measure => have := HK1.out; omega
       case rel => exact ⟨(wrap64 (x5_1 + 1)), (t104), (t105), (t106), (.slice Ao16 t106.length co16), aq7, H', ⟨aq70⟩, ⟨Kd.V_mono (Kd.R_V (Kd.R_far (p := ⟨gb101, 2, none⟩) (Kd.R_far (p := ⟨gb101, 1, none⟩) (Kd.R_far (p := ⟨gb101, 0, none⟩) (Kd.R_types (Kd.R_types (Kd.R_types HO108.out BK101.out (by decide)) BK102.out (by decide)) BK101.out (by decide)) (fun _ hk => hk.2) (.int .i64 t104)) (fun _ hk => hk.2) (.int .i64 t105)) (fun _ hk => hk.2) (.slice Ao16 t106.length co16))) (fun k_ hk => by first | exact ⟨.inr hk.1.1.1.1.1.1, hk.1.1.2, hk.2⟩ | exact ⟨.inr hk.1.1.1.1.1, hk.1.1.2, hk.2⟩ | exact ⟨.inr hk.1.1.1.1, hk.1.1.2, hk.2⟩ | exact ⟨.inr hk.1.1.1.1.1.1.1, hk.1.1.2, hk.2⟩ | exact ⟨(.inr (hk.1)), hk.2⟩ | exact (.inr (hk)) | exact ⟨.inr hk.1.1.1.1, hk.2, hk.1.2⟩ | exact ⟨.inr hk.1.1.1.1, hk.1.1.2⟩ | exact ⟨.inr hk.1.1.1, hk.1.2⟩ | exact ⟨.inr hk.1.1.1, hk.2⟩)⟩, ⟨by (with_reducible repeat (first | refine blk_drewN ?_ _ | refine blk_drew ?_ | refine blk_alloc ?_ _)); refine blk_put (cs := #[.int .i64 t104, .int .i64 t105, .slice Ao12 x102002_1.length co12]) ?_ 2 _ rfl; (with_reducible repeat (first | refine blk_drewN ?_ _ | refine blk_drew ?_ | refine blk_alloc ?_ _)); refine blk_put (cs := #[.int .i64 t104, .int .i64 x102001_1, .slice Ao12 x102002_1.length co12]) ?_ 1 _ rfl; (with_reducible repeat (first | refine blk_drewN ?_ _ | refine blk_drew ?_ | refine blk_alloc ?_ _)); refine blk_put (cs := #[.int .i64 x102000_1, .int .i64 x102001_1, .slice Ao12 x102002_1.length co12]) ?_ 0 _ rfl; (with_reducible repeat (first | refine blk_drewN ?_ _ | refine blk_drew ?_ | refine blk_alloc ?_ _)); exact BK101.out⟩, ⟨by (with_reducible repeat (first | refine blk_drewN ?_ _ | refine blk_drew ?_ | refine blk_alloc ?_ _)); refine blk_far ?_ NB102_101.out _; (with_reducible repeat (first | refine blk_drewN ?_ _ | refine blk_drew ?_ | refine blk_alloc ?_ _)); refine blk_far ?_ NB102_101.out _; (with_reducible repeat (first | refine blk_drewN ?_ _ | refine blk_drew ?_ | refine blk_alloc ?_ _)); refine blk_far ?_ NB102_101.out _; (with_reducible repeat (first | refine blk_drewN ?_ _ | refine blk_drew ?_ | refine blk_alloc ?_ _)); exact BK102.out⟩, ⟨aq3⟩⟩
      ·rw [if_neg c8] at H
       exact absurd H (by simp)
     ·rw [if_neg c7] at H
      exact absurd H (by simp)
    ·rw [if_neg c6] at H
     exact absurd H (by simp)
   ·rw [if_neg c5] at H
    have c5b0 := decide_eq_false c5
    clear c5
    simp only [Option.some.injEq, Prod.mk.injEq] at H
    obtain ⟨rfl, rfl, rfl⟩ := H
    have hnb18 := NB101_102.out
    have hnc18 := NB102_101.out
    obtain ⟨hcz19_0, hcz19_1, hcz19_2, hfz19_0, hfz19_1, hfz19_2⟩ := blk3_ BK101.out
    obtain ⟨hcz20_0, hcz20_1, hcz20_2, hfz20_0, hfz20_1, hfz20_2⟩ := blk3_ BK102.out
    obtain ⟨Ao21, co21, eo21⟩ := Kd.V_slice HO_102002.out
    subst eo21
    go_wp2
    refine bodyPost_ret (results_cell_row rfl _ _ gb102 62 #[.int .i64 x102000_1, .int .i64 x102001_1, .slice Ao21 x102002_1.length co21] (0, 0) _ rfl (by (with_reducible repeat (first | refine blk_drewN ?_ _ | refine blk_drew ?_ | refine blk_alloc ?_ _)); refine blk_put (cs := #[.int .i64 x102000_1, .int .i64 x102001_1, .slice none 0 0]) ?_ 2 _ rfl; (with_reducible repeat (first | refine blk_drewN ?_ _ | refine blk_drew ?_ | refine blk_alloc ?_ _)); refine blk_put (cs := #[.int .i64 x102000_1, .int .i64 0, .slice none 0 0]) ?_ 1 _ rfl; (with_reducible repeat (first | refine blk_drewN ?_ _ | refine blk_drew ?_ | refine blk_alloc ?_ _)); refine blk_put (cs := #[.int .i64 0, .int .i64 0, .slice none 0 0]) ?_ 0 _ rfl; (with_reducible repeat (first | refine blk_drewN ?_ _ | refine blk_drew ?_ | refine blk_alloc ?_ _)); exact BK102.out) Tryz.underlying62 rfl (by kernel_rfl)) rfl ?_
    exact ⟨_, aq8, by (with_reducible repeat (first | apply Kd.V_alloc | apply Kd.V_drewN | apply Kd.V_drew)); exact Kd.V_mono (Kd.V_far (p := ⟨gb102, 2, none⟩) (Kd.V_far (p := ⟨gb102, 1, none⟩) (Kd.V_far (p := ⟨gb102, 0, none⟩) (Kd.V_mono HO_102002.out (fun k_ hk => (⟨hk, hk.2.2⟩ : _ ∧ k_ ≠ gb102))) (fun _ hk => hk.2) (.int .i64 x102000_1)) (fun _ hk => hk.2) (.int .i64 x102001_1)) (fun _ hk => hk.2) (.slice Ao21 x102002_1.length co21)) (fun _ hk => hk.1.1), aq3⟩
end Go.Proofs.YtdffgeoegdkiaaaGreatDoor.F

namespace Go.Proofs.YtdffgeoegdkiaaaGreatDoor.F
open Go.RowKit Go.Proofs.YtdffgeoegdkiaaaGreatDoor Go.Proofs.YtdffgeoegdkiaaaGreatDoorW.PrintWords Go.Proofs.YtdffgeoegdkiaaaGreatDoorW.PrintMore
def dirsL (l : List Int) : List Nat := l.map fun c => (dirIx c).toNat
theorem dirsL_lt (l : List Int) : ∀ d ∈ dirsL l, d < 4 := by
  intro d hd
  obtain ⟨c, _, rfl⟩ := List.mem_map.1 hd
  have := dirIx_lt c
  omega
theorem dirsL_length (l : List Int) : (dirsL l).length = l.length := by simp [dirsL]
def wordD (s : ByteArray) : List Nat := dirsL (bytesOf s)
theorem wordD_lt (s : ByteArray) : ∀ d ∈ wordD s, d < 4 := dirsL_lt _
theorem wordD_length (s : ByteArray) : (wordD s).length = s.size := by unfold wordD; rw [dirsL_length, bytesOf_length]
theorem word_size {s : ByteArray} (h : isWordB (bytesOf s) = true) : s.size ≤ 40 := by
  rw [isWordB_iff, bytesOf_length] at h; exact h.1
section
variable {w h : Nat} (hw : 1 ≤ w ∧ w ≤ 7) (hh : 1 ≤ h ∧ h ≤ 7)
include hw hh
theorem tiRun_l0 {s : ByteArray} (hs : isWordB (bytesOf s) = true) : ∀ (n i : Nat) (cs : List Int), i + n = s.size → cs.length = w * h →
    Ev (fun k => spec_tiRun.l0 k s (i : Int) w h cs) ((w : Int), (h : Int), runD w h cs ((wordD s).drop i))
  | 0, i, cs, hi, hl => by
    rw [List.drop_eq_nil_of_le (by rw [wordD_length]; omega)]
    exact Ev.step (fun k => by rw [spec_tiRun.l0, if_neg (by omega)]; rfl) (Ev.now _)
  | n + 1, i, cs, hi, hl => by
    have hil : i < s.size := by omega
    have hz := word_size hs
    have HW : Aside0 (wrap64 ((i : Int) + 1) = ((i + 1 : Nat) : Int)) := ⟨by rw [w64 (by omega) (by omega)]; rfl⟩
    obtain ⟨_, h2⟩ := (isWordB_iff _).1 hs
    have hb : (bytesOf s).drop i = bt s i :: (bytesOf s).drop (i + 1) := bytesOf_drop s i hil
    have hdir : isDirC (bt s i) = true := h2 _ (List.mem_of_mem_drop (by rw [hb]; exact List.mem_cons_self))
    obtain ⟨q1, q2, q3⟩ := dirB_ix hdir
    have hdw : (wordD s).drop i = (dirIx (bt s i)).toNat :: (wordD s).drop (i + 1) := by
      unfold wordD dirsL
      rw [← List.map_drop, hb, List.map_cons, List.map_drop]
    rw [hdw]
    have ih := tiRun_l0 hs n (i + 1) (tiltD w h (dirIx (bt s i)).toNat cs) (by omega) (by rw [tiltD_length]; exact hl)
    have hT := spec_tiTilt_eq (d := (dirIx (bt s i)).toNat) hw hh hl q2
    rw [show (((dirIx (bt s i)).toNat : Nat) : Int) = dirIx (bt s i) by omega] at hT
    refine Ev.step (f := fun k => (spec_tiDir.f k (s.extract i (i + 1))).bind fun t103 => (spec_tiTilt.f w h cs t103).bind fun bt104 => spec_tiRun.l0 k s ((i + 1 : Nat) : Int) bt104.1 bt104.2.1 bt104.2.2) (fun k => ?_) (Ev.bind (tiDir_ev _ _ (bytes_extract s i hil)) (Ev.congr (fun k => by rw [hT, Option.bind_some]) ih))
    rw [spec_tiRun.l0, if_pos (by omega), if_pos (by omega), HW.out, if_pos (by omega), if_pos (by omega), Int.toNat_natCast, Int.toNat_natCast]
theorem tiRun_ev {s : ByteArray} (hs : isWordB (bytesOf s) = true) {cs : List Int} (hl : cs.length = w * h) : Ev (fun k => spec_tiRun.f k w h cs s) ((w : Int), (h : Int), runD w h cs (wordD s)) := by
  have h0 := tiRun_l0 hw hh hs s.size 0 cs (by omega) hl
  exact h0
end
end Go.Proofs.YtdffgeoegdkiaaaGreatDoor.F

namespace Go.Proofs.YtdffgeoegdkiaaaGreatDoor
open Go.RowKit Go.Proofs.YtdffgeoegdkiaaaGreatDoorW.PrintWords Go.Proofs.YtdffgeoegdkiaaaGreatDoorW.PrintLast Go.Proofs.YtdffgeoegdkiaaaGreatDoorW.PrintMore Go.Lib Go.Proofs.YtdffgeoegdkiaaaGreatDoor.F
attribute [local go_sem] max2_int min2_int
structure Held (F : Nat → Prop) (w w' : World) : Prop where
  os : w'.os = w.os
  tape : w'.tape = w.tape
  output : w'.output = w.output
  size : w.heap.size ≤ w'.heap.size
  block : ∀ k, k < w.heap.size → ¬ F k → w'.heap[k]? = w.heap[k]?
theorem Held.refl (F : Nat → Prop) (w : World) : Held F w w := ⟨rfl, rfl, rfl, Nat.le_refl _, fun _ _ _ => rfl⟩
theorem Held.trans {F F' : Nat → Prop} {w w1 w2 : World} (h : Held F w w1) (h' : Held F' w1 w2) (hs : ∀ k, F' k → F k ∨ w.heap.size ≤ k) : Held F w w2 :=
  ⟨h'.os.trans h.os, h'.tape.trans h.tape, h'.output.trans h.output, Nat.le_trans h.size h'.size, fun k hk hn => (h'.block k (Nat.lt_of_lt_of_le hk h.size) (fun hf => (hs k hf).elim hn (fun h1 => by omega))).trans (h.block k hk hn)⟩
theorem Held.of_below {F : Nat → Prop} {w w1 : World} (h : Below w.heap.size w w1) : Held F w w1 := ⟨h.os, h.tape, h.output, h.size, fun k hk _ => h.block k hk⟩
theorem Held.of_grown {F : Nat → Prop} {w w1 : World} {r : Option Nat} (h : w.grownBy w1 r) (hr : ∀ k, r = some k → F k) : Held F w w1 := ⟨h.os, h.tape, h.output, h.size, fun k hk hn => h.block k hk (fun e => hn (hr k e.symm))⟩
theorem Held.below {F : Nat → Prop} {w0 w w1 : World} {base : Nat} (hb : Below base w0 w) (h : Held F w w1) (hs : base ≤ w.heap.size) (hF : ∀ k, F k → base ≤ k) : Below base w0 w1 :=
  ⟨h.os.trans hb.os, h.tape.trans hb.tape, h.output.trans hb.output, Nat.le_trans hb.size h.size, fun k hk => (h.block k (Nat.lt_of_lt_of_le hk hs) (fun hf => by have := hF k hf; omega)).trans (hb.block k hk)⟩
theorem Held.setCell {F : Nat → Prop} {w w1 : World} (h : Held F w w1) {p : Addr} (u : Value) (hp : F p.block) : Held F w (w1.setCell p u) :=
  ⟨h.os, h.tape, h.output, by rw [World.size_setCell]; exact h.size, fun k hk hn => (Below.heap_setCell w1 p u k (fun e => hn (e ▸ hp))).trans (h.block k hk hn)⟩
theorem R_held {α : Type} {d : Kd α} {e base : Nat} {w w1 : World} {ok : Nat → Prop} {v : Value} {xs : List α} {F F' : Nat → Prop} (h : d.R e w base (fun k => ¬ F k ∧ ok k) v xs) (hh : Held F w w1) (hs : ∀ k, F' k → F k ∨ w.heap.size ≤ k) : d.R e w1 base (fun k => ¬ F' k ∧ ok k) v xs := by
  have h1 := Kd.R_bound h
  refine Kd.R_mono (Kd.R_move h1 (fun k hk => hh.block k hk.2.2.1 hk.1.1)) (fun k hk => ⟨fun hf => ?_, hk.1.2⟩)
  rcases hs k hf with h2 | h2
  · exact hk.1.1 h2
  · have := hk.2.2.1; omega
def dirBytes : List Int := [117, 114, 100, 108]
def dirCells : Array Value := #[.int .u8 117, .int .u8 114, .int .u8 100, .int .u8 108]
theorem dirCells_at {p : Nat} (h : p < 4) : dirCells[p]? = some (.int .u8 (dirBytes.getD p 0)) := by
  have : p = 0 ∨ p = 1 ∨ p = 2 ∨ p = 3 := by omega
  rcases this with rfl | rfl | rfl | rfl <;> rfl
theorem blkx_lt {w : World} {g : Nat} {o : Obj} (h : w.heap[g]? = some o) : g < w.heap.size := (Array.getElem?_eq_some_iff.1 h).1
def kidsTo (x : ByteArray) (j : Nat) : List ByteArray := (dirBytes.take j).map fun c => x ++ strOfNums [c]
def kidsB (x : ByteArray) : List ByteArray := kidsTo x 4
theorem kidsTo_succ (x : ByteArray) {j : Nat} (h : j < 4) : kidsTo x (j + 1) = kidsTo x j ++ [x ++ strOfNums [dirBytes.getD j 0]] := by
  unfold kidsTo
  rw [List.take_succ_eq_append_getElem (by exact h), List.map_append, List.getD_eq_getElem?_getD, List.getElem?_eq_getElem (by exact h)]; rfl
theorem kidsTo_len (x : ByteArray) (j : Nat) : (kidsTo x j).length ≤ 4 := by
  unfold kidsTo; rw [List.length_map, List.length_take]; exact Nat.min_le_right _ _
theorem strOf_one (c : Int) : (strOfNums [c]).size = 1 := rfl
theorem kidsTo_size (x : ByteArray) (j : Nat) : ∀ y ∈ kidsTo x j, y.size = x.size + 1 := by
  intro y hy
  obtain ⟨c, _, rfl⟩ := List.mem_map.1 hy
  rw [ByteArray.size_append, strOf_one]
def wordsGo {σ : Type} (step : σ → ByteArray → Option (σ × Bool)) : σ → List ByteArray → List ByteArray → Option (σ × Option (List ByteArray))
  | s, [], o => some (s, some o)
  | s, x :: l, o => (step s x).bind fun r => if r.2 = true then wordsGo step r.1 l (o ++ kidsB x) else some (r.1, none)
def wordsF {σ : Type} (step : σ → ByteArray → Option (σ × Bool)) : Nat → σ → List ByteArray → Option σ
  | 0, s, _ => some s
  | m + 1, s, l => (wordsGo step s l []).bind fun r => match r.2 with
    | none => some r.1
    | some o => wordsF step m r.1 o
theorem wordsGo_mono {σ : Type} {f g : σ → ByteArray → Option (σ × Bool)} (h : ∀ s x, LeO (f s x) (g s x)) : ∀ (l : List ByteArray) (s : σ) (o : List ByteArray), LeO (wordsGo f s l o) (wordsGo g s l o)
  | [], s, o => LeO.refl _
  | x :: l, s, o => LeO.bind (h s x) (fun r => LeO.ite (wordsGo_mono h l r.1 (o ++ kidsB x)) (LeO.refl _))
theorem wordsF_mono {σ : Type} {f g : σ → ByteArray → Option (σ × Bool)} (h : ∀ s x, LeO (f s x) (g s x)) : ∀ (n : Nat) (s : σ) (l : List ByteArray), LeO (wordsF f n s l) (wordsF g n s l)
  | 0, s, l => LeO.refl _
  | n + 1, s, l => LeO.bind (wordsGo_mono h l s []) (fun r => by
    obtain ⟨r1, r2⟩ := r
    cases r2 with
    | none => exact LeO.refl _
    | some o => exact wordsF_mono h n r1 o)
set_option maxRecDepth 100000 in
set_option maxHeartbeats 8000000 in
theorem words_calls {σ : Type} (step : σ → ByteArray → Option (σ × Bool)) (Inv : σ → (Nat → Prop) → World → Prop) (f : FuncId) (cap : Array Value)
    (he : ∀ args w, (callFunc f args).run Tryz.prog w = .ok (.enter f args) w)
    (hlt : ∀ s F W, Inv s F W → ∀ k, F k → k < W.heap.size)
    (hcl : ∀ s F W x s' b, Inv s F W → step s x = some (s', b) → Calls Tryz.prog f (#[.string x] ++ cap) W fun e W' => e = .returned (.bool b) ∧ ∃ F', Inv s' F' W' ∧ Held F W W' ∧ ∀ k, F' k → F k ∨ W.heap.size ≤ k)
    (n : Nat) (hn : n ≤ 6) (s0 s1 : σ) (F0 : Nat → Prop) (w : World) (hst : ∀ s F W W', Inv s F W → Held (fun k => ¬ F k ∧ w.heap.size ≤ k) W W' → Inv s F W') (hi : Inv s0 F0 w) (hw : wordsF step (n + 1) s0 [ByteArray.empty] = some s1) :
    Calls Tryz.prog 57 #[.int .i64 n, .func (.func f) #[] cap] w fun e w' => e = .returned (.tuple #[]) ∧ ∃ F', Inv s1 F' w' ∧ Held F0 w w' ∧ ∀ k, F' k → F0 k ∨ w.heap.size ≤ k := by
  have HE := am he
  have HLT := am hlt
  have HST := am hst
  have HCL := am hcl
  have HN := am hn
  have HI := am hi
  have HW := am hw
  have hn1 : IntKind.i64.wrap ((n : Int) + 1) = ((n + 1 : Nat) : Int) := by rw [IntKind.wrap_i64]; omega
  clear he hlt hst hcl hn hi hw
  go_enter Tryz.func57, Tryz.ntmps57
  go_wp2_with (first | ((with_reducible refine gate_dst (N := 10) rfl ?_); refine Kd.R_lit Kd.string _ 9 ?hg (N := 10) ?hd (xs := ([(⟨#[]⟩ : ByteArray)] : List ByteArray)) (inner := [.string (⟨#[]⟩ : ByteArray)]) (ok := fun _ => True) (okp := fun _ => True) ?hr ?hp (fun _ hk => hk) trivial (Below.refl _ _) (Nat.le_refl _) (by simp) ?_; (case hd => rfl); (case hg => rfl); (case hr => first | (go_simp; done) | (go_simp; rfl)); (case hp => exact (Reps.one (show Kd.M Kd.string _ _ _ (⟨#[]⟩ : ByteArray) [.string (⟨#[]⟩ : ByteArray)] from rfl) (Reps.none _ _))); intro v4 w1 ho hb hg_ hnew_; have HO4 := am (show Kd.string.R 9 w1 w.heap.size (fun k => ¬ F0 k ∧ True) v4 [ByteArray.empty] from Kd.R_mono (Kd.R_bound ho) (fun k hk => ⟨fun hf => by have h1 := HLT.out _ _ _ HI.out k hf; have h2 := hk.2.1; omega, trivial⟩)); have HI1 := am (HST.out _ _ _ _ HI.out (Held.of_below hb)); have HH := am (Held.of_below (F := F0) hb); clear ho hb hg_ hnew_ HI))
  go_loopw [4, 13] (fun v4 v13 wr => ∃ (j : Nat) (s : σ) (F : Nat → Prop) (l : List ByteArray), j ≤ n + 1 ∧ v13 = .int .i64 j ∧ Aside0 (wordsF step (n + 1 - j) s l = some s1) ∧ Aside0 (l.length ≤ 4 ^ j ∧ ∀ x ∈ l, x.size ≤ j) ∧ Aside0 (Inv s F wr) ∧ Aside0 (∀ k, F k → F0 k ∨ w.heap.size ≤ k) ∧ Aside0 (Held F0 w wr) ∧ Aside0 (Kd.string.R 9 wr w.heap.size (fun k => ¬ F k ∧ True) v4 l)) (fun _ v13 _ => n + 1 - (intOf v13).toNat)
  case atStart => exact ⟨0, s0, F0, [ByteArray.empty], Nat.zero_le _, rfl, HW, ⟨by simp, by intro x hx; simp at hx; subst hx; exact Nat.le_refl _⟩, HI1, ⟨fun k hk => .inl hk⟩, HH, HO4⟩
  case round =>
    obtain ⟨j, s, F, l, hj, rfl, HA, HL, HI, HS, HH, HO⟩ := hrel
    by_cases hlt : j < n + 1
    · have hltI : (j : Int) < ((n + 1 : Nat) : Int) := by omega
      obtain ⟨Al, cl, el⟩ := Kd.R_slice HO.out
      subst el
      obtain ⟨m, hm⟩ : ∃ m, n + 1 - j = m + 1 := ⟨n - j, by omega⟩
      have HM := am hm
      have HJ := am hlt
      have HA2 := am (show (wordsGo step s l []).bind (fun r => match r.2 with | none => some r.1 | some o => wordsF step m r.1 o) = some s1 by have := HA.out; rw [hm] at this; exact this)
      clear HA hm hlt hj
      go_wp2_with (first | ((with_reducible refine gate_dst (N := 15) rfl ?_); refine Kd.R_lit Kd.string _ 9 ?hg (N := 15) ?hd (xs := ([] : List ByteArray)) (inner := []) (ok := fun _ => True) (okp := fun _ => True) ?hr ?hp (fun _ hk => hk) trivial (Below.refl _ _) (Nat.le_refl _) (by simp) ?_; (case hd => rfl); (case hg => rfl); (case hr => first | (go_simp; done) | (go_simp; rfl)); (case hp => exact (Reps.none _ _)); intro v5 w2 ho hb hg_ hnew_; have HO5 := am (show Kd.string.R 9 w2 w.heap.size (fun k => ¬ F k ∧ some k ≠ (.slice Al l.length cl : Value).ownBlock) v5 [] from Kd.R_lower (Kd.R_mono (Kd.R_bound ho) (fun k hk => ⟨fun hf => by have h1 := HLT.out _ _ _ HI.out k hf; have h2 := hk.2.1; omega, fun e => by have h1 := Kd.R_lt HO.out k e.symm; have h2 := hk.2.1; omega⟩)) HH.out.size); have HI2 := am (HST.out _ _ _ _ HI.out (Held.of_below hb)); have HH2 := am (Held.trans HH.out (Held.of_below (F := F) hb) HS.out); have HO2 := am (show Kd.string.R 9 w2 w.heap.size (fun k => ¬ F k ∧ some k ≠ (v5 : Value).ownBlock) (.slice Al l.length cl) l from Kd.R_mono (Kd.R_below (Kd.R_bound HO.out) hb) (fun k hk => ⟨hk.1.1, fun e => by obtain ⟨b, eb, hb2⟩ := hnew_; rw [eb] at e; injection e with e; have h1 := hk.2.2.1; omega⟩)); clear ho hb hg_ hnew_ HI HH HO))
      go_loopw [5, 18] (fun v5 v18 wr => ∃ (i : Nat) (s' : σ) (F : Nat → Prop) (o : List ByteArray), i ≤ l.length ∧ v18 = .int .i64 i ∧ Aside0 ((wordsGo step s' (l.drop i) o).bind (fun r => match r.2 with | none => some r.1 | some o => wordsF step m r.1 o) = some s1) ∧ Aside0 (o.length ≤ 4 * i ∧ ∀ x ∈ o, x.size ≤ j + 1) ∧ Aside0 (Inv s' F wr) ∧ Aside0 (∀ k, F k → F0 k ∨ w.heap.size ≤ k) ∧ Aside0 (Held F0 w wr) ∧ Aside0 (Kd.string.R 9 wr w.heap.size (fun k => ¬ F k ∧ some k ≠ (v5 : Value).ownBlock) (.slice Al l.length cl) l) ∧ Aside0 (Kd.string.R 9 wr w.heap.size (fun k => ¬ F k ∧ some k ≠ (.slice Al l.length cl : Value).ownBlock) v5 o)) (fun _ v18 _ => l.length - (intOf v18).toNat)
      case atStart => exact ⟨0, s, F, [], Nat.zero_le _, rfl, ⟨by rw [List.drop_zero]; exact HA2.out⟩, ⟨by simp, by simp⟩, HI2, HS, HH2, HO2, HO5⟩
      case round =>
        clear HI2 HS HH2 HO2 HO5 HA2
        obtain ⟨i, s', F, o, hi, rfl, HA, HLo, HI, HS, HH, HO, HO5⟩ := hrel
        by_cases hlt2 : i < l.length
        · have hltI2 : (i : Int) < (l.length : Int) := by omega
          have hxs := HL.out.2 _ (List.getElem_mem hlt2)
          have hA := HA.out
          rw [List.drop_eq_getElem_cons hlt2] at hA
          have hrd : rdOf ByteArray.empty l (i : Int) = l[i] := by unfold rdOf; rw [Int.toNat_natCast, List.getD_eq_getElem?_getD, List.getElem?_eq_getElem hlt2]; rfl
          obtain ⟨ad, e1, hx⟩ := Kd.at_string (Kd.R_reads' HO.out).2.2 (i : Int) (by omega) hltI2
          rw [hrd] at hx
          simp only [Int.toNat_natCast] at hx
          generalize hxx : l[i] = x at *
          have HXS := am hxs
          have HI2' := am (And.intro hi hlt2)
          subst e1
          clear HA hrd hxs hxx hi hlt2
          cases hsx : step s' x with
          | none =>
            unfold wordsGo at hA
            rw [hsx] at hA
            cases hA
          | some q =>
            obtain ⟨s2, b⟩ := q
            cases b with
            | false =>
              have es : s2 = s1 := by
                unfold wordsGo at hA
                rw [hsx] at hA
                exact Option.some.inj hA
              subst es
              clear hA
              go_wp2_with (first | (rw [HE.out, Oper.upon_enter]; refine (HCL.out s' F _ x s2 false HI.out hsx).mono ?_; rintro e w3 ⟨rfl, F', hinv, hheld, hsub⟩; have HI3 := am hinv; have HS3 := am hsub; have HH3 := am (Held.trans HH.out hheld HS.out); clear hinv hheld))
              (try simp only [Exit.inBlock, Exit.then]); refine bodyPost_ret (results_none rfl _ _ _) rfl ?_
              exact ⟨rfl, F', HI3.out, HH3.out, fun k hk => by
                rcases HS3.out k hk with h | h
                · exact HS.out k h
                · exact .inr (Nat.le_trans HH.out.size h)⟩
            | true =>
              have hA' : (wordsGo step s2 (l.drop (i + 1)) (o ++ kidsB x)).bind (fun r => match r.2 with | none => some r.1 | some o => wordsF step m r.1 o) = some s1 := by
                have := hA
                unfold wordsGo at this
                rw [hsx] at this
                exact this
              have HA' := am hA'
              have kc := fun (w : World) (C : Array Value) (n c : Nat) => Lib.run_convert_bytes_const (P := Tryz.prog) w 60 5 C n c Tryz.underlying60 Tryz.underlying5
              clear hA hA'
              go_wp2_with (first
                | (rw [HE.out, Oper.upon_enter]; refine (HCL.out s' F _ x s2 true HI.out hsx).mono ?_; rintro e w3 ⟨rfl, F', hinv, hheld, hsub⟩; have HI3 := am hinv; have HS3 := am (show ∀ k, F' k → F0 k ∨ w.heap.size ≤ k from fun k hk => (hsub k hk).elim (HS.out k) (fun h => .inr (Nat.le_trans HH.out.size h))); have HH3 := am (Held.trans HH.out hheld HS.out); have HO3 := am (R_held HO.out hheld hsub); have HO53 := am (R_held HO5.out hheld hsub); clear hinv hheld hsub HI HH HO HO5))
              have hal : Below w3.heap.size w3 (w3.alloc (.cells dirCells 5 (4, 5))) := (Below.refl _ w3).alloc (Nat.le_refl _) _
              go_loopw [5, 29] (fun v5 v29 wr => ∃ (p : Nat), p ≤ 4 ∧ v29 = .int .i64 p ∧ Aside0 (Inv s2 F' wr) ∧ Aside0 (Held F0 w wr) ∧ Aside0 (Kd.string.R 9 wr w.heap.size (fun k => ¬ F' k ∧ some k ≠ (v5 : Value).ownBlock) (.slice (some ad) l.length cl) l) ∧ Aside0 (Kd.string.R 9 wr w.heap.size (fun k => ¬ F' k ∧ some k ≠ (.slice (some ad) l.length cl : Value).ownBlock) v5 (o ++ kidsTo x p)) ∧ Aside0 (wr.heap[w3.heap.size]? = some (.cells dirCells 5 (4, 5)))) (fun _ v29 _ => 4 - (intOf v29).toNat)
              case atStart => exact ⟨0, by omega, rfl, ⟨HST.out _ _ _ _ HI3.out (Held.of_below hal)⟩, ⟨Held.trans HH3.out (Held.of_below (F := F') hal) HS3.out⟩, ⟨Kd.R_below HO3.out hal⟩, ⟨by rw [show kidsTo x 0 = [] from rfl, List.append_nil]; exact Kd.R_below HO53.out hal⟩, ⟨heap_alloc_new _ _⟩⟩
              case round =>
                clear HI3 HH3 HO3 HO53 hal kc hx
                obtain ⟨p, hp, rfl, HI, HH, HO, HO5, HD⟩ := hrel
                by_cases hlt3 : p < 4
                · have hltI3 : (p : Int) < 4 := by omega
                  have hxb : wr.cell? ⟨w3.heap.size, p, none⟩ = some (.int .u8 (dirBytes.getD p 0)) := (cell_of_row wr _ p _ _ _ HD.out).trans (dirCells_at hlt3)
                  have hks := kidsTo_succ x hlt3
                  generalize dirBytes.getD p 0 = c at *
                  have hsz : x.size + (strOfNums [c]).size ≤ 9223372036854775807 := by rw [strOf_one]; have := HXS.out; have := HN.out; omega
                  have hszF : (9223372036854775807 < x.size + (strOfNums [c]).size) = False := eq_false (Nat.not_lt.2 hsz)
                  have hszD : decide (x.size + (strOfNums [c]).size ≤ 9223372036854775807) = true := decide_eq_true hsz
                  have HKS := am hks
                  have HP := am hlt3
                  have HLB := am (show (o ++ kidsTo x p).length < 65536 by
                    rw [List.length_append]; have h1 := HLo.out.1; have h2 := kidsTo_len x p; have h3 := HI2'.out.2; have h4 := HL.out.1; have h5 := HN.out; have h6 := HJ.out
                    have h7 : 4 ^ j ≤ 4 ^ 6 := Nat.pow_le_pow_right (by decide) (by omega)
                    have h8 : 4 ^ 6 = 4096 := rfl
                    omega)
                  clear hks hp hlt3
                  go_wp2_with (first
                    | ((with_reducible refine gate_dst (N := 36) rfl ?_); refine Kd.R_lit (Kd.int .u8) _ 5 ?hg (N := 36) ?hd (xs := ([c] : List Int)) (inner := [.int .u8 c]) (ok := fun _ => True) (okp := fun _ => True) ?hr ?hp (fun _ hk => hk) trivial (Below.refl _ _) (Nat.le_refl _) (by simp) ?_; (case hd => rfl); (case hg => rfl); (case hr => first | (go_simp; done) | (go_simp; rfl)); (case hp => exact (Reps.one (show Kd.M (Kd.int .u8) _ _ _ c [.int .u8 c] from rfl) (Reps.none _ _))); intro v36 w5 ho hb hg_ hnew_; have hcv := own_string (P := Tryz.prog) Tryz.underlying60 Tryz.underlying5 Tryz.underlying9 (Kd.own_of_R ho); have HI5 := am (HST.out _ _ _ _ HI.out (Held.of_below hb)); have HH5 := am (Held.trans HH.out (Held.of_below (F := F') hb) HS3.out); have HO6 := am (Kd.R_below HO.out hb); have HO56 := am (Kd.R_below HO5.out hb); have HD6 := am ((hb.block _ (blkx_lt HD.out)).trans HD.out); clear ho hb hg_ hnew_ HI HH HO HO5 HD)
                    | ((with_reducible refine gate_builtin (b := .append) (xs := #[.tmp 33, .tmp 39]) rfl ?_); at_builtin; refine Kd.R_append Kd.string (w0 := w5) w.heap.size rfl (.tmp 33) (.tmp 39) 22 9 (.string ⟨#[]⟩) 16 rfl Tryz.underlying22 info9 rfl (by decide) (by omega) _ (o ++ kidsTo x p) (x ++ strOfNums [c]) [.string (x ++ strOfNums [c])] (fun k => ¬ F' k ∧ some k ≠ (.slice (some ad) l.length cl : Value).ownBlock) (fun _ => False) rfl rfl ?aP (fun _ hk => hk.elim) ?aF ?aO ?aB ?aS ?aL ?_; (case aP => exact rfl); (case aB => exact Below.refl _ _); (case aF => exact (fun k hk => ⟨fun hf => by have := HLT.out _ _ _ HI5.out k hf; omega, fun e => by have := Kd.R_lt HO6.out k e.symm; omega⟩)); (case aO => exact HO56.out); (case aS => exact HH5.out.size); (case aL => have := HLB.out; omega); intro v7 w7 ho hb hg hat; rw [List.append_assoc, ← HKS.out] at ho; have HI7 := am (HST.out _ _ _ _ HI5.out (Held.of_grown hg (fun k e => ⟨(HO56.out.1 k e).1, Kd.R_base HO56.out k e⟩))); have HH7 := am (show Held F0 w w7 from ⟨hg.os.trans HH5.out.os, hg.tape.trans HH5.out.tape, hg.output.trans HH5.out.output, Nat.le_trans HH5.out.size hg.size, fun k hk hn => (hg.block k (Nat.lt_of_lt_of_le hk HH5.out.size) (fun e => by have := Kd.R_base HO56.out k e.symm; omega)).trans (HH5.out.block k hk hn)⟩); have HO7 := am (Kd.R_after (ok := fun k => ¬ F' k) HO6.out hg hat); have HD7 := am ((hg.block _ (blkx_lt HD6.out) (fun e => by obtain ⟨cs, hc⟩ := Kd.R_typed HO56.out _ e.symm; rw [HD6.out] at hc; injection hc with hc; injection hc with _ hc _; exact absurd hc (by decide))).trans HD6.out); have HO57 := am ho; clear ho hb hg hat HI5 HH5 HO6 HO56 HD6))
                  go_roundw
                  case rel => exact ⟨p + 1, by have := HP.out; omega, by first | rfl | simp, HI7, HH7, HO7, HO57, HD7⟩
                  case measure => have := HP.out; simp [intOf]; omega
                · have hge3 : ¬ (p : Int) < 4 := by omega
                  obtain rfl : p = 4 := by omega
                  have hw1 : IntKind.i64.wrap ((i : Int) + 1) = ((i + 1 : Nat) : Int) := by rw [IntKind.wrap_i64]; have h2 := HI2'.out.2; have h4 := HL.out.1; have h5 := HN.out; have h6 := HJ.out; have h7 : 4 ^ j ≤ 4 ^ 6 := Nat.pow_le_pow_right (by decide) (by omega); have h8 : 4 ^ 6 = 4096 := rfl; omega
                  go_wp2
                  go_roundw
                  case rel => exact ⟨i + 1, s2, F', o ++ kidsB x, by have := HI2'.out.2; omega, by first | rfl | simp, HA', ⟨by rw [List.length_append]; have h1 := HLo.out.1; have h2 := kidsTo_len x 4; have h3 : (kidsB x).length = (kidsTo x 4).length := rfl; omega, fun y hy => (List.mem_append.1 hy).elim (HLo.out.2 y) (fun h => by rw [kidsTo_size x 4 y h]; have := HXS.out; omega)⟩, HI, HS3, HH, HO, HO5⟩
                  case measure => have := HI2'.out.2; simp [intOf]; omega
        · have hge2 : ¬ (i : Int) < (l.length : Int) := by omega
          have hA := HA.out
          rw [List.drop_eq_nil_of_le (by omega)] at hA
          have HA' := am (show wordsF step m s' o = some s1 from hA)
          have hw1 : IntKind.i64.wrap ((j : Int) + 1) = ((j + 1 : Nat) : Int) := by rw [IntKind.wrap_i64]; have := HJ.out; have := HN.out; omega
          have hm' : n + 1 - (j + 1) = m := by have := HM.out; omega
          have HM' := am hm'
          have hil : i = l.length := by omega
          have HIL := am hil
          clear HA hA hi hm' hil hlt2
          go_wp2
          go_roundw
          case rel => exact ⟨j + 1, s', F, o, by have := HJ.out; omega, by first | rfl | simp, ⟨by rw [HM'.out]; exact HA'.out⟩, ⟨by have h1 := HLo.out.1; have h2 := HL.out.1; have h3 := HIL.out; rw [Nat.pow_succ]; omega, HLo.out.2⟩, HI, HS, HH, ⟨Kd.R_mono HO5.out (fun k hk => ⟨hk.1, trivial⟩)⟩⟩
          case measure => have := HJ.out; simp [intOf]; omega
    · have hge : ¬ (j : Int) < ((n + 1 : Nat) : Int) := by omega
      have hA := HA.out
      rw [show n + 1 - j = 0 by omega] at hA
      obtain rfl : s = s1 := Option.some.inj hA
      go_wp2
      go_end0
      exact ⟨rfl, F, HI.out, HH.out, HS.out⟩
end Go.Proofs.YtdffgeoegdkiaaaGreatDoor

namespace Go.Proofs.YtdffgeoegdkiaaaGreatDoor.F
open Go.Proofs.YtdffgeoegdkiaaaGreatDoor
open Go.RowKit Go.Proofs.YtdffgeoegdkiaaaGreatDoorW.PrintWords Go.Proofs.YtdffgeoegdkiaaaGreatDoorW.PrintLast Go.Proofs.YtdffgeoegdkiaaaGreatDoorW.PrintMore
attribute [local go_sem] max2_int min2_int max_two min_two max_three min_three max_four min_four
mutual
def spec_mcWords.l0 : Nat → Int → List ByteArray → Option (List ByteArray)
 | 0, _, _ => none
 | k + 1, x0, x3 => if x0 > 0 then (spec_mcWords.l1 k x0 ([] : List ByteArray) x3 (x3.length : Int) 0) else (some x3)
def spec_mcWords.l1 : Nat → Int → List ByteArray → List ByteArray → Int → Int → Option (List ByteArray)
 | 0, _, _, _, _, _ => none
 | k + 1, x0, x4, x14, x15, x16 => if x16 < x15 then (if 0 ≤ x16 then (if x16 < (x14.length : Int) then (spec_mcWords.l2 k x0 x4 (rdOf ByteArray.empty x14 x16) 0 x14 x15 x16) else (none)) else (none)) else (spec_mcWords.l0 k (wrap64 (x0 - 1)) x4)
def spec_mcWords.l2 : Nat → Int → List ByteArray → ByteArray → Int → List ByteArray → Int → Int → Option (List ByteArray)
 | 0, _, _, _, _, _, _, _ => none
 | k + 1, x0, x4, x6, x7, x14, x15, x16 => if x7 < 4 then ((spec_tiDirs.f).bind fun t105 => (if 0 ≤ x7 then (if x7 ≤ (wrap64 (x7 + 1)) then (if (wrap64 (x7 + 1)) ≤ (t105.size : Int) then (if (x6.size : Int) = 0 then (if x6.size + (t105.extract (x7 : Int).toNat ((wrap64 (x7 + 1)) : Int).toNat).size ≤ 9223372036854775807 then (if x4.length < 8796093022208 then (spec_mcWords.l2 k x0 (x4 ++ [x6 ++ (t105.extract (x7 : Int).toNat ((wrap64 (x7 + 1)) : Int).toNat)]) x6 (wrap64 (x7 + 1)) x14 x15 x16) else (none)) else (none)) else (if 0 ≤ (wrap64 ((x6.size : Int) - 1)) then (if (wrap64 ((x6.size : Int) - 1)) ≤ (x6.size : Int) then (if (x6.extract ((wrap64 ((x6.size : Int) - 1)) : Int).toNat x6.size).toList = (t105.extract (x7 : Int).toNat ((wrap64 (x7 + 1)) : Int).toNat).toList then (spec_mcWords.l2 k x0 x4 x6 (wrap64 (x7 + 1)) x14 x15 x16) else (if x6.size + (t105.extract (x7 : Int).toNat ((wrap64 (x7 + 1)) : Int).toNat).size ≤ 9223372036854775807 then (if x4.length < 8796093022208 then (spec_mcWords.l2 k x0 (x4 ++ [x6 ++ (t105.extract (x7 : Int).toNat ((wrap64 (x7 + 1)) : Int).toNat)]) x6 (wrap64 (x7 + 1)) x14 x15 x16) else (none)) else (none))) else (none)) else (none))) else (none)) else (none)) else (none))) else (spec_mcWords.l1 k x0 x4 x14 x15 (wrap64 (x16 + 1)))
end
def spec_mcWords.f (k : Nat) (a0 : Int) : Option (List ByteArray) := spec_mcWords.l0 k a0 (([(⟨#[]⟩ : ByteArray)] : List ByteArray))
theorem spec_mcWords.mono_l : ∀ k, (∀ y0 y1, LeO (spec_mcWords.l0 k y0 y1) (spec_mcWords.l0 (k + 1) y0 y1)) ∧ (∀ y0 y1 y2 y3 y4, LeO (spec_mcWords.l1 k y0 y1 y2 y3 y4) (spec_mcWords.l1 (k + 1) y0 y1 y2 y3 y4)) ∧ (∀ y0 y1 y2 y3 y4 y5 y6, LeO (spec_mcWords.l2 k y0 y1 y2 y3 y4 y5 y6) (spec_mcWords.l2 (k + 1) y0 y1 y2 y3 y4 y5 y6))
 | 0 => ⟨fun _ _ r h => by simp [spec_mcWords.l0] at h, fun _ _ _ _ _ r h => by simp [spec_mcWords.l1] at h, fun _ _ _ _ _ _ _ r h => by simp [spec_mcWords.l2] at h⟩
 | k + 1 => by
  obtain ⟨ih0, ih1, ih2⟩ := spec_mcWords.mono_l k
  refine ⟨?_, ?_, ?_⟩
  ·intro y0 y1
   unfold spec_mcWords.l0
   exact mo
  ·intro y0 y1 y2 y3 y4
   unfold spec_mcWords.l1
   exact mo
  ·intro y0 y1 y2 y3 y4 y5 y6
   unfold spec_mcWords.l2
   exact mo
theorem spec_mcWords.mono : ∀ a0 k, LeO (spec_mcWords.f k a0) (spec_mcWords.f (k + 1) a0) := by
 intro a0 k
 obtain ⟨ih0, ih1, ih2⟩ := spec_mcWords.mono_l k
 unfold spec_mcWords.f
 exact mo
set_option maxHeartbeats 8000000 in
set_option maxRecDepth 100000 in
theorem spec_mcWords.calls (k : Nat) (a0 : Int) (r : List ByteArray) (w : World) (h : spec_mcWords.f k a0 = some r) :
  Calls Tryz.prog 53 #[.int .i64 a0] w fun e w' => ∃ v0_ : Value, e = .returned (v0_) ∧ Kd.R Kd.string 9 w' w.heap.size (fun _ => True) v0_ r ∧ Below w.heap.size w w' := by
 have HB := am (Below.refl w.heap.size w)
 have H : (spec_mcWords.l0 k a0 (([(⟨#[]⟩ : ByteArray)] : List ByteArray))) = some r := h
 clear h
 obtain ⟨y101, hy_⟩ : ∃ y_ : List ByteArray, y_ = (([(⟨#[]⟩ : ByteArray)] : List ByteArray)) := ⟨_, rfl⟩
 replace H : (spec_mcWords.l0 k a0 y101) = some r := aq4
 have Ny101 := am hy_
 clear hy_
 have H' := am H
 clear H
 go_enter Tryz.func53, Tryz.ntmps53
 go_wp2_with (first | ((with_reducible refine gate_dst (N := 9) rfl ?_); (try (refine gate_guard (by rfl) ?_; dsimp only)); refine Kd.R_lit Kd.string _ 9 ?hg (N := 9) ?hd (xs := ([(⟨#[]⟩ : ByteArray)] : List ByteArray)) (inner := [.string (⟨#[]⟩ : ByteArray)]) (ok := fun _ => True) (okp := fun _ => True) ?hr ?hp (fun _ hk => hk) trivial (Below.refl _ _) (Nat.le_refl _) (by simp) ?_; (case hd => rfl); (case hg => rfl); (case hr => exact aq15); (case hp => exact (Reps.one (show Kd.M Kd.string _ _ _ (⟨#[]⟩ : ByteArray) [.string (⟨#[]⟩ : ByteArray)] from rfl) (Reps.none _ _))); intro v102 w2 ho3 hb hg_ hnew_; clear hg_ hnew_; (first | rw [← Ny101.out] at ho3 | (simp only [Int.reduceToNat] at ho3; rw [← Ny101.out] at ho3)); have n0_ := am (Kd.R_lower ho3 (below_size aq1)); have n1_ := am (below_step aq1 hb); clear HB; have HO103 := n0_; have HB := n1_; clear n0_ n1_; clear hb ho3))
 go_loopg [0, 3] k (fun kq v0 v3 w' => ∃ (x0_1 : Int) (x3_1 : List ByteArray), v0 = .int .i64 x0_1 ∧ Aside0 (spec_mcWords.l0 kq x0_1 x3_1 = some r) ∧ Aside0 (kq ≤ k) ∧ Aside0 (Kd.R Kd.string 9 w' w.heap.size (fun _ => True) v3 x3_1) ∧ Aside0 (Below w.heap.size w w'))
 case atStart => exact ⟨(a0), (y101), aq7, H', ⟨Nat.le_refl _⟩, ⟨aq78⟩, ⟨aq1⟩⟩
 case round =>
  clear H'
  try clear p2
  obtain ⟨x0_1, x3_1, rfl, HA, HK1, HO_3, HB⟩ := hrel
  cases gk with
  | zero => exact absurd HA.out (by simp [spec_mcWords.l0])
  | succ k1 =>
   have H := HA.out
   clear HA
   simp only [spec_mcWords.l0] at H
   by_cases c4 : x0_1 > 0
   ·rw [if_pos c4] at H
    have c4b0 := decide_eq_true c4
    clear c4
    have H' := am H
    clear H
    obtain ⟨Ao5, co5, eo5⟩ := Kd.R_slice HO_3.out
    subst eo5
    go_wp2
    go_loopg [4, 16] k1 (fun kq v4 v16 w' => ∃ (x4_2 : List ByteArray) (x16_2 : Int), v16 = .int .i64 x16_2 ∧ Aside0 (spec_mcWords.l1 kq x0_1 x4_2 x3_1 (x3_1.length : Int) x16_2 = some r) ∧ Aside0 (kq ≤ k1) ∧ Aside0 (Kd.R Kd.string 9 w' w.heap.size (fun k_ => some k_ ≠ ((.slice Ao5 x3_1.length co5) : Value).ownBlock) v4 x4_2) ∧ Aside0 (Kd.R Kd.string 9 w' w.heap.size (fun k_ => some k_ ≠ (v4 : Value).ownBlock) (.slice Ao5 x3_1.length co5) x3_1) ∧ Aside0 (Below w.heap.size w w'))
    case atStart => exact ⟨(([] : List ByteArray)), (0), aq7, H', ⟨Nat.le_refl _⟩, ⟨aq18⟩, ⟨by (with_reducible repeat (first | apply Kd.R_alloc | apply Kd.R_drewN | apply Kd.R_drew)); exact Kd.R_mono HO_3.out (fun _ hk => (by simp [Value.ownBlock]))⟩, ⟨aq1⟩⟩
    case round =>
     clear H'
     try clear p2
     try clear c4
     try clear c4b0
     try clear c5
     try clear p2
     obtain ⟨x4_2, x16_2, rfl, HA, HK2, HO_4, HO_14, HB⟩ := hrel
     cases gk with
     | zero => exact absurd HA.out (by simp [spec_mcWords.l1])
     | succ k2 =>
      have H := HA.out
      clear HA
      simp only [spec_mcWords.l1] at H
      by_cases c6 : x16_2 < (x3_1.length : Int)
      ·rw [if_pos c6] at H
       have c6b0 := decide_eq_true c6
       clear c6
       by_cases c7 : 0 ≤ x16_2
       ·rw [if_pos c7] at H
        have c7b0 := decide_eq_true c7
        clear c7
        by_cases c8 : x16_2 < (x3_1.length : Int)
        ·rw [if_pos c8] at H
         have c8b0 := decide_eq_true c8
         clear c8
         have H' := am H
         clear H
         have p104 : 0 ≤ (x16_2 : Int) := of_decide_eq_true aq6
         have q104 : x16_2 < (x3_1.length : Int) := of_decide_eq_true aq6
         obtain ⟨ad104, e104, hx104_0⟩ := Kd.at_string (Kd.R_reads' HO_14.out).2.2 x16_2 p104 q104
         cases e104
         replace p104 := eq_true p104
         replace q104 := eq_true q104
         go_wp2
         go_loopg [4, 7] k2 (fun kq v4 v7 w' => ∃ (x4_3 : List ByteArray) (x7_3 : Int), v7 = .int .i64 x7_3 ∧ Aside0 (spec_mcWords.l2 kq x0_1 x4_3 (rdOf ByteArray.empty x3_1 x16_2) x7_3 x3_1 (x3_1.length : Int) x16_2 = some r) ∧ Aside0 (kq ≤ k2) ∧ Aside0 (Kd.R Kd.string 9 w' w.heap.size (fun k_ => some k_ ≠ ((.slice (some ad104) x3_1.length co5) : Value).ownBlock) v4 x4_3) ∧ Aside0 (Kd.R Kd.string 9 w' w.heap.size (fun k_ => some k_ ≠ (v4 : Value).ownBlock) (.slice (some ad104) x3_1.length co5) x3_1) ∧ Aside0 (Below w.heap.size w w'))
         case atStart => exact ⟨(x4_2), (0), aq7, H', ⟨Nat.le_refl _⟩, ⟨aq52⟩, ⟨aq43⟩, ⟨aq1⟩⟩
         case round =>
          clear H'
          try clear p1
          try clear q1
          try clear hx1
          try clear p2
          try clear c4
          try clear c4b0
          try clear c5
          try clear c6
          try clear c6b0
          try clear c7
          try clear c7b0
          try clear c8
          try clear c8b0
          try clear hx104_0
          try clear p104
          try clear p2
          try clear q104
          obtain ⟨x4_3, x7_3, rfl, HA, HK3, HO_4, HO_14, HB⟩ := hrel
          cases gk with
          | zero => exact absurd HA.out (by simp [spec_mcWords.l2])
          | succ k3 =>
           have H := HA.out
           clear HA
           simp only [spec_mcWords.l2] at H
           by_cases c9 : x7_3 < 4
           ·rw [if_pos c9] at H
            have c9b0 := decide_eq_true c9
            clear c9
            obtain ⟨t105, A100, H⟩ := Option.bind_eq_some_iff.mp H
            have A10 := am A100
            clear A100
            by_cases c11 : 0 ≤ x7_3
            ·rw [if_pos c11] at H
             have c11b0 := eq_true c11
             have c11b1 := decide_eq_true c11
             clear c11
             by_cases c12 : x7_3 ≤ (wrap64 (x7_3 + 1))
             ·rw [if_pos c12] at H
              have c12b0 := eq_true c12
              have c12b1 := decide_eq_true c12
              by_cases c13 : (wrap64 (x7_3 + 1)) ≤ (t105.size : Int)
              ·rw [if_pos c13] at H
               have c13b0 := eq_true c13
               have c13b1 := decide_eq_true c13
               by_cases c14 : ((rdOf ByteArray.empty x3_1 x16_2).size : Int) = 0
               ·rw [if_pos c14] at H
                have c14b0 := beq_iff_eq.mpr c14
                have c14b1 := bne_eq_false_iff_eq.mpr c14
                clear c14
                by_cases c15 : (rdOf ByteArray.empty x3_1 x16_2).size + (t105.extract (x7_3 : Int).toNat ((wrap64 (x7_3 + 1)) : Int).toNat).size ≤ 9223372036854775807
                ·rw [if_pos c15] at H
                 have c15b0 := eq_true c15
                 have c15b1 := decide_eq_true c15
                 try have c15b2 : (9223372036854775807 < (rdOf ByteArray.empty x3_1 x16_2).size + (t105.extract (x7_3 : Int).toNat ((wrap64 (x7_3 + 1)) : Int).toNat).size) = False := eq_false (Nat.not_lt.2 c15)
                 by_cases c16 : x4_3.length < 8796093022208
                 ·rw [if_pos c16] at H
                  have LMc16 := am c16
                  clear c16
                  obtain ⟨y106, hy_⟩ : ∃ y_ : List ByteArray, y_ = (x4_3 ++ [(rdOf ByteArray.empty x3_1 x16_2) ++ (t105.extract (x7_3 : Int).toNat ((wrap64 (x7_3 + 1)) : Int).toNat)]) := ⟨_, rfl⟩
                  replace H : (spec_mcWords.l2 k3 x0_1 y106 (rdOf ByteArray.empty x3_1 x16_2) (wrap64 (x7_3 + 1)) x3_1 (x3_1.length : Int) x16_2) = some r := aq4
                  have Ny106 := am hy_
                  clear hy_
                  have H' := am H
                  clear H
                  go_wp2_with (first | ((with_reducible refine gate_callee (f := 98) rfl ?_); refine goesL_ (some 24) rfl rfl Tryz.func98 (by kernel_rfl) rfl #[] rfl aq5 ?_; (with_reducible refine (spec_tiDirs.calls  t105 _ A10.out).mono ?_); rintro e w' ⟨rfl, ⟨nd, rfl⟩⟩; refine ⟨_, rfl, ?_⟩) | ((with_reducible refine gate_builtin (b := .append) (xs := #[.tmp 41, .tmp 45]) rfl ?_); (try (refine gate_guard (by rfl) ?_; dsimp only)); at_builtin; refine Kd.R_append Kd.string (w0 := w) w.heap.size rfl (.tmp 41) (.tmp 45) 22 9 (.string ⟨#[]⟩) 16 rfl Tryz.underlying22 info9 rfl (by decide) (by omega) u4 x4_3 ((rdOf ByteArray.empty x3_1 x16_2) ++ (t105.extract (x7_3 : Int).toNat ((wrap64 (x7_3 + 1)) : Int).toNat)) [.string ((rdOf ByteArray.empty x3_1 x16_2) ++ (t105.extract (x7_3 : Int).toNat ((wrap64 (x7_3 + 1)) : Int).toNat))] (fun k_ => some k_ ≠ (.slice (some ad104) x3_1.length co5 : Value).ownBlock) (fun _ => False) rfl rfl ?aP (fun _ hk => hk.elim) ?aF ?aO ?aB ?aS ?aL ?_; (case aP => exact rfl); (case aB => exact aq1); (case aF => exact (fun k_ hk => Kd.fresh' (Kd.R_lt aq43) k_ hk)); (case aO => exact aq52); (case aS => exact (below_size aq1)); (case aL => have := LMc16.out; omega); intro v107 w17 ho hb hg hat; rw [← Ny106.out] at ho; have n0_ := am (Kd.R_after (ok := (fun _ => True)) aq100 hg hat); have n1_ := am (hb); have n2_ := am (ho); clear HO_14; clear HB; clear HO_4; have HO_14 := n0_; have HB := n1_; have HO108 := n2_; clear n0_ n1_ n2_; clear ho hb hg hat))
                  go_roundg k3
                  case measure => have := HK1.out; have := HK2.out; have := HK3.out; omega
                  case rel => exact ⟨(y106), (wrap64 (x7_3 + 1)), aq7, H', ⟨aq87⟩, ⟨by (with_reducible repeat (first | apply Kd.R_alloc | apply Kd.R_drewN | apply Kd.R_drew)); exact HO108.out⟩, ⟨aq103⟩, ⟨aq1⟩⟩
                 ·rw [if_neg c16] at H
                  exact absurd H (by simp)
                ·rw [if_neg c15] at H
                 exact absurd H (by simp)
               ·rw [if_neg c14] at H
                have c14b0 := beq_eq_false_iff_ne.mpr c14
                have c14b1 := bne_iff_ne.mpr c14
                obtain ⟨ji18, hji18⟩ : ∃ j_ : Int, (wrap64 (((rdOf ByteArray.empty x3_1 x16_2).size : Int) - 1)) = j_ := ⟨_, rfl⟩
                first | rw [hji18] at H | simp only [hji18] at H
                (try rw [hji18] at A10)
                have hji18w : (IntKind.i64.wrap (((rdOf ByteArray.empty x3_1 x16_2).size : Int) - 1)) = ji18 := (i64_w _).trans hji18
                by_cases c19 : 0 ≤ (ji18)
                ·rw [if_pos c19] at H
                 have c19b0 := eq_true c19
                 have c19b1 := decide_eq_true c19
                 clear c19
                 by_cases c20 : (ji18) ≤ ((rdOf ByteArray.empty x3_1 x16_2).size : Int)
                 ·rw [if_pos c20] at H
                  have c20b0 := eq_true c20
                  have c20b1 := decide_eq_true c20
                  clear c20
                  by_cases c21 : ((rdOf ByteArray.empty x3_1 x16_2).extract ((ji18) : Int).toNat (rdOf ByteArray.empty x3_1 x16_2).size).toList = (t105.extract (x7_3 : Int).toNat ((wrap64 (x7_3 + 1)) : Int).toNat).toList
                  ·rw [if_pos c21] at H
                   have c21b0 := beq_iff_eq.mpr c21
                   have c21b1 := bne_eq_false_iff_eq.mpr c21
                   clear c21
                   have H' := am H
                   clear H
                   go_wp2_with (first | ((with_reducible refine gate_callee (f := 98) rfl ?_); refine goesL_ (some 24) rfl rfl Tryz.func98 (by kernel_rfl) rfl #[] rfl aq5 ?_; (with_reducible refine (spec_tiDirs.calls  t105 _ A10.out).mono ?_); rintro e w' ⟨rfl, ⟨nd, rfl⟩⟩; refine ⟨_, rfl, ?_⟩))
                   go_roundg k3
                   case measure => have := HK1.out; have := HK2.out; have := HK3.out; omega
                   case rel => exact ⟨(x4_3), (wrap64 (x7_3 + 1)), aq7, H', ⟨aq87⟩, ⟨aq52⟩, ⟨aq43⟩, ⟨aq1⟩⟩
                  ·rw [if_neg c21] at H
                   have c21b0 := beq_eq_false_iff_ne.mpr c21
                   have c21b1 := bne_iff_ne.mpr c21
                   by_cases c22 : (rdOf ByteArray.empty x3_1 x16_2).size + (t105.extract (x7_3 : Int).toNat ((wrap64 (x7_3 + 1)) : Int).toNat).size ≤ 9223372036854775807
                   ·rw [if_pos c22] at H
                    have c22b0 := eq_true c22
                    have c22b1 := decide_eq_true c22
                    try have c22b2 : (9223372036854775807 < (rdOf ByteArray.empty x3_1 x16_2).size + (t105.extract (x7_3 : Int).toNat ((wrap64 (x7_3 + 1)) : Int).toNat).size) = False := eq_false (Nat.not_lt.2 c22)
                    by_cases c23 : x4_3.length < 8796093022208
                    ·rw [if_pos c23] at H
                     have LMc23 := am c23
                     clear c23
                     obtain ⟨y109, hy_⟩ : ∃ y_ : List ByteArray, y_ = (x4_3 ++ [(rdOf ByteArray.empty x3_1 x16_2) ++ (t105.extract (x7_3 : Int).toNat ((wrap64 (x7_3 + 1)) : Int).toNat)]) := ⟨_, rfl⟩
                     replace H : (spec_mcWords.l2 k3 x0_1 y109 (rdOf ByteArray.empty x3_1 x16_2) (wrap64 (x7_3 + 1)) x3_1 (x3_1.length : Int) x16_2) = some r := aq4
                     have Ny109 := am hy_
                     clear hy_
                     have H' := am H
                     clear H
                     go_wp2_with (first | ((with_reducible refine gate_callee (f := 98) rfl ?_); refine goesL_ (some 24) rfl rfl Tryz.func98 (by kernel_rfl) rfl #[] rfl aq5 ?_; (with_reducible refine (spec_tiDirs.calls  t105 _ A10.out).mono ?_); rintro e w' ⟨rfl, ⟨nd, rfl⟩⟩; refine ⟨_, rfl, ?_⟩) | ((with_reducible refine gate_builtin (b := .append) (xs := #[.tmp 41, .tmp 45]) rfl ?_); (try (refine gate_guard (by rfl) ?_; dsimp only)); at_builtin; refine Kd.R_append Kd.string (w0 := w) w.heap.size rfl (.tmp 41) (.tmp 45) 22 9 (.string ⟨#[]⟩) 16 rfl Tryz.underlying22 info9 rfl (by decide) (by omega) u4 x4_3 ((rdOf ByteArray.empty x3_1 x16_2) ++ (t105.extract (x7_3 : Int).toNat ((wrap64 (x7_3 + 1)) : Int).toNat)) [.string ((rdOf ByteArray.empty x3_1 x16_2) ++ (t105.extract (x7_3 : Int).toNat ((wrap64 (x7_3 + 1)) : Int).toNat))] (fun k_ => some k_ ≠ (.slice (some ad104) x3_1.length co5 : Value).ownBlock) (fun _ => False) rfl rfl ?aP (fun _ hk => hk.elim) ?aF ?aO ?aB ?aS ?aL ?_; (case aP => exact rfl); (case aB => exact aq1); (case aF => exact (fun k_ hk => Kd.fresh' (Kd.R_lt aq43) k_ hk)); (case aO => exact aq52); (case aS => exact (below_size aq1)); (case aL => have := LMc23.out; omega); intro v110 w24 ho hb hg hat; rw [← Ny109.out] at ho; have n0_ := am (Kd.R_after (ok := (fun _ => True)) aq100 hg hat); have n1_ := am (hb); have n2_ := am (ho); clear HO_14; clear HB; clear HO_4; have HO_14 := n0_; have HB := n1_; have HO111 := n2_; clear n0_ n1_ n2_; clear ho hb hg hat))
                     go_roundg k3
                     case measure => have := HK1.out; have := HK2.out; have := HK3.out; omega
                     case rel => exact ⟨(y109), (wrap64 (x7_3 + 1)), aq7, H', ⟨aq87⟩, ⟨by (with_reducible repeat (first | apply Kd.R_alloc | apply Kd.R_drewN | apply Kd.R_drew)); exact HO111.out⟩, ⟨aq103⟩, ⟨aq1⟩⟩
                    ·rw [if_neg c23] at H
                     exact absurd H (by simp)
                   ·rw [if_neg c22] at H
                    exact absurd H (by simp)
                 ·rw [if_neg c20] at H
                  exact absurd H (by simp)
                ·rw [if_neg c19] at H
                 exact absurd H (by simp)
              ·rw [if_neg c13] at H
               exact absurd H (by simp)
             ·rw [if_neg c12] at H
              exact absurd H (by simp)
            ·rw [if_neg c11] at H
             exact absurd H (by simp)
           ·rw [if_neg c9] at H
            have c9b0 := decide_eq_false c9
            clear c9
            have H' := am H
            clear H
            go_wp2
            go_roundg k3
            case measure => have := HK1.out; have := HK2.out; have := HK3.out; omega
            case rel => exact ⟨(x4_3), (wrap64 (x16_2 + 1)), aq7, H', ⟨aq87⟩, ⟨aq52⟩, ⟨aq43⟩, ⟨aq1⟩⟩
        ·rw [if_neg c8] at H
         exact absurd H (by simp)
       ·rw [if_neg c7] at H
        exact absurd H (by simp)
      ·rw [if_neg c6] at H
       have c6b0 := decide_eq_false c6
       clear c6
       have H' := am H
       clear H
       go_wp2
       go_roundg k2
       case measure => have := HK1.out; have := HK2.out; omega
       case rel => exact ⟨(wrap64 (x0_1 - 1)), (x4_2), aq7, H', ⟨aq58⟩, ⟨by (with_reducible repeat (first | apply Kd.R_alloc | apply Kd.R_drewN | apply Kd.R_drew)); exact Kd.R_mono HO_4.out (fun _ hk => trivial)⟩, ⟨aq1⟩⟩
   ·rw [if_neg c4] at H
    have c4b0 := decide_eq_false c4
    clear c4
    obtain rfl := Option.some.inj H
    go_wp2
    go_ret
    exact ⟨_, aq8, aq65, aq1⟩
end Go.Proofs.YtdffgeoegdkiaaaGreatDoor.F

namespace Go.Proofs.YtdffgeoegdkiaaaGreatDoor.F
open Go.RowKit Go.Proofs.YtdffgeoegdkiaaaGreatDoor Go.Proofs.YtdffgeoegdkiaaaGreatDoorW.PrintWords Go.Proofs.YtdffgeoegdkiaaaGreatDoorW.PrintMore
def txtW (u : List Nat) : ByteArray := strOfNums (u.map dirB)
theorem dirB_ok {d : Nat} (h : d < 4) : isDirC (dirB d) = true ∧ (dirIx (dirB d)).toNat = d ∧ 0 ≤ dirB d ∧ dirB d < 256 := by
  have : d = 0 ∨ d = 1 ∨ d = 2 ∨ d = 3 := by omega
  rcases this with rfl | rfl | rfl | rfl <;> exact ⟨by decide, by decide, by decide, by decide⟩
theorem bytes_txtW {u : List Nat} (hu : ∀ d ∈ u, d < 4) : bytesOf (txtW u) = u.map dirB := by
  refine bytesOf_str fun c hc => ?_
  obtain ⟨d, hd, rfl⟩ := List.mem_map.1 hc
  exact (dirB_ok (hu d hd)).2.2
theorem wordD_txtW {u : List Nat} (hu : ∀ d ∈ u, d < 4) : wordD (txtW u) = u := by
  unfold wordD dirsL
  rw [bytes_txtW hu, List.map_map]
  conv => rhs; rw [← List.map_id u]
  exact List.map_congr_left fun d hd => (dirB_ok (hu d hd)).2.1
theorem word_txtW {u : List Nat} (hu : ∀ d ∈ u, d < 4) (hl : u.length ≤ 40) : isWordB (bytesOf (txtW u)) = true := by
  rw [isWordB_iff, bytes_txtW hu]
  refine ⟨by rw [List.length_map]; exact hl, fun c hc => ?_⟩
  obtain ⟨d, hd, rfl⟩ := List.mem_map.1 hc
  exact (dirB_ok (hu d hd)).1
theorem txtW_size (u : List Nat) : (txtW u).size = u.length := by unfold txtW; rw [strOfNums_len, List.length_map]
theorem txtW_snoc (u : List Nat) (d : Nat) : txtW (u ++ [d]) = txtW u ++ strOfNums [dirB d] := by
  unfold txtW; rw [List.map_append, strOfNums_app]; rfl
theorem kids_txtW (u : List Nat) : kidsB (txtW u) = ([0, 1, 2, 3].map fun d => u ++ [d]).map txtW := by
  rw [List.map_map]
  show ([117, 114, 100, 108] : List Int).map (fun c => txtW u ++ strOfNums [c]) = [0, 1, 2, 3].map (fun d => txtW (u ++ [d]))
  simp only [txtW_snoc, List.map_cons, List.map_nil]; rfl
theorem kids_level (l : List (List Nat)) : (l.map txtW).flatMap kidsB = (grow l).map txtW := by
  unfold grow
  induction l with
  | nil => rfl
  | cons u l ih => rw [List.map_cons, List.flatMap_cons, List.flatMap_cons, List.map_append, ih, kids_txtW]
theorem level_len : ∀ n, (level n).length = 4 ^ n
  | 0 => rfl
  | n + 1 => by
    show (grow (level n)).length = _
    rw [Nat.pow_succ, ← level_len n]
    unfold grow
    induction level n with
    | nil => rfl
    | cons u l ih => rw [List.flatMap_cons, List.length_append, ih]; simp only [List.length_map, List.length_cons, List.length_nil]; omega
section
variable {σ : Type} {step : Nat → σ → ByteArray → Option (σ × Bool)}
theorem go_all {g : σ → ByteArray → σ} {P : Nat → σ → Prop} : ∀ (l : List ByteArray) (m : Nat) (s : σ) (o : List ByteArray), m + l.length ≤ 10000 → P m s → (∀ m s x, x ∈ l → m < 10000 → P m s → Ev (fun k => step k s x) (g s x, true) ∧ P (m + 1) (g s x)) →
    Ev (fun k => wordsGo (step k) s l o) (l.foldl g s, some (o ++ l.flatMap kidsB)) ∧ P (m + l.length) (l.foldl g s)
  | [], m, s, o, _, hp, _ => ⟨by rw [List.flatMap_nil, List.append_nil]; exact Ev.now _, hp⟩
  | x :: l, m, s, o, hM, hp, hs => by
    rw [List.length_cons] at hM
    obtain ⟨h1, h2⟩ := hs m s x List.mem_cons_self (by omega) hp
    obtain ⟨i1, i2⟩ := go_all l (m + 1) (g s x) (o ++ kidsB x) (by omega) h2 (fun m s y hy => hs m s y (List.mem_cons_of_mem _ hy))
    refine ⟨?_, by rw [List.length_cons, show m + (l.length + 1) = m + 1 + l.length by omega]; exact i2⟩
    refine Ev.congr (f := fun k => (step k s x).bind fun r => if r.2 = true then wordsGo (step k) r.1 l (o ++ kidsB x) else some (r.1, none)) (fun k => rfl) (Ev.bind h1 ?_)
    rw [List.flatMap_cons, ← List.append_assoc]
    exact Ev.congr (fun k => if_pos rfl) i1
theorem words_all {g : σ → ByteArray → σ} {P : Nat → σ → Prop} (hs : ∀ m s (u : List Nat), (∀ d ∈ u, d < 4) → u.length ≤ 6 → m < 10000 → P m s → Ev (fun k => step k s (txtW u)) (g s (txtW u), true) ∧ P (m + 1) (g s (txtW u))) : ∀ (n j m : Nat) (s : σ), j + n ≤ 7 → m + ((List.range n).flatMap fun i => level (j + i)).length ≤ 10000 → P m s →
    Ev (fun k => wordsF (step k) n s ((level j).map txtW)) ((((List.range n).flatMap fun i => level (j + i)).map txtW).foldl g s)
  | 0, j, m, s, hj, hM, hp => Ev.now _
  | n + 1, j, m, s, hj, hM, hp => by
    have e : (fun a : Nat => level (j + a.succ)) = fun i => level (j + 1 + i) := by funext i; congr 1; omega
    rw [List.range_succ_eq_map, List.flatMap_cons, List.flatMap_map, Nat.add_zero, e, List.length_append] at hM
    obtain ⟨h1, h2⟩ := go_all (g := g) (P := P) ((level j).map txtW) m s [] (by rw [List.length_map]; omega) hp (fun m s x hx hm hp => by
      obtain ⟨u, hu, rfl⟩ := List.mem_map.1 hx
      obtain ⟨q1, q2⟩ := (mem_level j u).1 hu
      exact hs m s u q2 (by omega) hm hp)
    rw [List.nil_append, kids_level] at h1
    rw [List.length_map] at h2
    have ih := words_all hs n (j + 1) _ _ (by omega) (by omega) h2
    rw [List.range_succ_eq_map, List.flatMap_cons, List.map_append, List.foldl_append, Nat.add_zero, List.flatMap_map, e]
    exact Ev.bind h1 ih
end
theorem levels_map (n : Nat) : (((List.range (n + 1)).flatMap fun i => level (0 + i)).map txtW) = (levels n).map txtW := by
  unfold levels
  congr 2
  funext i
  rw [Nat.zero_add]
theorem levels_len : ∀ n, 3 * (levels n).length + 1 = 4 ^ (n + 1)
  | 0 => rfl
  | n + 1 => by
    have ih := levels_len n
    unfold levels at ih ⊢
    rw [List.range_succ, List.flatMap_append, List.length_append, List.flatMap_cons, List.flatMap_nil, List.append_nil, level_len, Nat.pow_succ 4 (n + 1)]
    omega
theorem levels_small {n : Nat} (h : n ≤ 6) : ((List.range (n + 1)).flatMap fun i => level (0 + i)).length ≤ 10000 := by
  have h1 := levels_len n
  have h2 : 4 ^ (n + 1) ≤ 4 ^ 7 := Nat.pow_le_pow_right (by decide) (by omega)
  have h3 : 4 ^ 7 = 16384 := rfl
  have e : (fun i => level (0 + i)) = level := by funext i; rw [Nat.zero_add]
  rw [e]
  unfold levels at h1
  omega
theorem level0_map : (level 0).map txtW = [ByteArray.empty] := rfl
theorem dirs_ex {d : Nat} (h : d < 4) : (⟨#[117, 114, 100, 108]⟩ : ByteArray).extract d (d + 1) = strOfNums [dirB d] := by
  have : d = 0 ∨ d = 1 ∨ d = 2 ∨ d = 3 := by omega
  rcases this with rfl | rfl | rfl | rfl <;> decide +kernel
theorem last_ex {u : List Nat} (hu : ∀ d ∈ u, d < 4) (hl : u ≠ []) {d : Nat} (hd : d < 4) : ((txtW u).extract (u.length - 1) u.length).toList = ((⟨#[117, 114, 100, 108]⟩ : ByteArray).extract d (d + 1)).toList ↔ u.getLast? = some d := by
  obtain ⟨v, e, rfl⟩ : ∃ v e, u = v ++ [e] := ⟨u.dropLast, u.getLast hl, (List.dropLast_concat_getLast hl).symm⟩
  have he : e < 4 := hu e (by simp)
  rw [dirs_ex hd, List.getLast?_append, List.length_append, List.length_singleton, Nat.add_sub_cancel, txtW_snoc]
  have hx : (txtW v ++ strOfNums [dirB e]).extract v.length (v.length + 1) = strOfNums [dirB e] := by
    apply ByteArray.ext
    apply Array.toList_inj.1
    rw [Lib.extract_data, ByteArray.data_append, Array.toList_append]
    have h1 : (txtW v).data.toList.length = v.length := by
      have := txtW_size v
      rw [← this, Array.length_toList]; rfl
    have h2 : (strOfNums [dirB e]).data.toList.length = 1 := rfl
    rw [show (txtW v).data.toList ++ (strOfNums [dirB e]).data.toList = _ from rfl, ← h1]
    simp [h2]
    exact List.take_of_length_le (by rw [h2]; exact Nat.le_refl _)
  rw [hx]
  have h4 : ∀ a b : Fin 4, ((strOfNums [dirB a.1]).toList = (strOfNums [dirB b.1]).toList ↔ a.1 = b.1) := by decide +kernel
  have := h4 ⟨e, he⟩ ⟨d, hd⟩
  simp only at this
  rw [this]
  simp
def kidsS (u : List Nat) (j : Nat) : List (List Nat) := (((List.range j).filter fun d => u.getLast? != some d)).map fun d => u ++ [d]
theorem kidsS_succ (u : List Nat) (j : Nat) : kidsS u (j + 1) = if u.getLast? = some j then kidsS u j else kidsS u j ++ [u ++ [j]] := by
  unfold kidsS
  rw [List.range_succ, List.filter_append, List.map_append]
  by_cases h : u.getLast? = some j
  · rw [if_pos h]
    rw [List.filter_cons, if_neg (by simp [h])]; simp
  · rw [if_neg h]
    rw [List.filter_cons, if_pos (by simpa using h)]; simp
theorem kidsS_len (u : List Nat) (j : Nat) : (kidsS u j).length ≤ j := by
  unfold kidsS; rw [List.length_map]; exact Nat.le_trans (List.length_filter_le _ _) (by simp)
theorem mc_l2 {x0 : Int} {u : List Nat} (hu : ∀ d ∈ u, d < 4) (hul : u.length ≤ 10) {o : List (List Nat)} (ho : o.length ≤ 100000) {x14 : List ByteArray} {x15 x16 : Int} {R : List ByteArray} : ∀ (n j : Nat), j + n = 4 →
    Ev (fun k => spec_mcWords.l1 k x0 ((o ++ kidsS u 4).map txtW) x14 x15 (wrap64 (x16 + 1))) R →
    Ev (fun k => spec_mcWords.l2 k x0 ((o ++ kidsS u j).map txtW) (txtW u) (j : Int) x14 x15 x16) R
  | 0, j, hj, h => by
    obtain rfl : j = 4 := by omega
    exact Ev.step (fun k => by rw [spec_mcWords.l2, if_neg (by omega)]) h
  | n + 1, j, hj, h => by
    have hj4 : j < 4 := by omega
    have ih := mc_l2 hu hul ho n (j + 1) (by omega) h
    have HW : Aside0 (wrap64 ((j : Int) + 1) = ((j + 1 : Nat) : Int)) := ⟨by rw [w64 (by omega) (by omega)]; rfl⟩
    have hsz4 : ((⟨#[117, 114, 100, 108]⟩ : ByteArray).size : Int) = 4 := rfl
    have hk := kidsS_len u j
    have hsz := txtW_size u
    have hone : ((⟨#[117, 114, 100, 108]⟩ : ByteArray).extract j (j + 1)).size = 1 := by rw [dirs_ex hj4]; rfl
    have hlen : ((o ++ kidsS u j).map txtW).length < 8796093022208 := by rw [List.length_map, List.length_append]; omega
    have hadd : (o ++ kidsS u j).map txtW ++ [txtW u ++ (⟨#[117, 114, 100, 108]⟩ : ByteArray).extract j (j + 1)] = (o ++ (kidsS u j ++ [u ++ [j]])).map txtW := by
      rw [dirs_ex hj4, ← txtW_snoc, ← List.append_assoc, List.map_append (l₂ := [u ++ [j]])]; rfl
    refine Ev.step (fun k => ?_) ih
    rw [spec_mcWords.l2, if_pos (by omega), show spec_tiDirs.f = some (⟨#[117, 114, 100, 108]⟩ : ByteArray) from rfl, Option.bind_some, if_pos (by omega), HW.out, if_pos (by omega), hsz4, if_pos (by omega), Int.toNat_natCast, Int.toNat_natCast, kidsS_succ]
    by_cases h0 : u = []
    · subst h0
      rw [if_pos (by rw [hsz]; rfl), if_pos (by rw [hone, hsz]; simp), if_pos hlen, hadd, if_neg (by simp)]
    · have hpos : 0 < u.length := List.length_pos_iff.2 h0
      have HS : Aside0 (wrap64 (((txtW u).size : Int) - 1) = ((u.length - 1 : Nat) : Int)) := ⟨by rw [hsz, w64 (by omega) (by omega)]; omega⟩
      rw [if_neg (by rw [hsz]; omega), HS.out, if_pos (by omega), if_pos (by rw [hsz]; omega), Int.toNat_natCast, hsz]
      by_cases he : u.getLast? = some j
      · rw [if_pos ((last_ex hu h0 hj4).2 he), if_pos he]
      · rw [if_neg (fun q => he ((last_ex hu h0 hj4).1 q)), if_pos (by rw [hone]; omega), if_pos hlen, hadd, if_neg he]
theorem mc_l1 {x0 : Int} {L : List (List Nat)} (hL : L.length ≤ 10000) (hm : ∀ u ∈ L, (∀ d ∈ u, d < 4) ∧ u.length ≤ 10) {R : List ByteArray} : ∀ (n i : Nat), i + n = L.length →
    Ev (fun k => spec_mcWords.l0 k (wrap64 (x0 - 1)) ((L.flatMap fun u => kidsS u 4).map txtW)) R →
    Ev (fun k => spec_mcWords.l1 k x0 (((L.take i).flatMap fun u => kidsS u 4).map txtW) (L.map txtW) ((L.map txtW).length : Int) (i : Int)) R
  | 0, i, hi, h => by
    rw [List.take_of_length_le (by omega)]
    exact Ev.step (fun k => by rw [spec_mcWords.l1, if_neg (by rw [List.length_map]; omega)]) h
  | n + 1, i, hi, h => by
    have hil : i < L.length := by omega
    have HW : Aside0 (wrap64 ((i : Int) + 1) = ((i + 1 : Nat) : Int)) := ⟨by rw [w64 (by omega) (by omega)]; rfl⟩
    have ih := mc_l1 hL hm n (i + 1) (by omega) h
    obtain ⟨q1, q2⟩ := hm _ (List.getElem_mem hil)
    rw [List.take_succ_eq_append_getElem hil, List.flatMap_append, List.flatMap_cons, List.flatMap_nil, List.append_nil] at ih
    have hlen : ((L.take i).flatMap fun u => kidsS u 4).length ≤ 4 * i := by
      have : ∀ l : List (List Nat), (l.flatMap fun u => kidsS u 4).length ≤ 4 * l.length := fun l => by
        induction l with
        | nil => simp
        | cons a l ih => rw [List.flatMap_cons, List.length_append, List.length_cons]; have := kidsS_len a 4; omega
      refine Nat.le_trans (this _) ?_
      rw [List.length_take]; omega
    have hrd : rdOf ByteArray.empty (L.map txtW) (i : Int) = txtW L[i] := by unfold rdOf; rw [Int.toNat_natCast, List.getD_eq_getElem?_getD, List.getElem?_map, List.getElem?_eq_getElem hil]; rfl
    have h2 := mc_l2 (x0 := x0) (x14 := L.map txtW) (x15 := ((L.map txtW).length : Int)) (x16 := (i : Int)) q1 q2 (o := (L.take i).flatMap fun u => kidsS u 4) (by omega) 4 0 rfl (by rw [HW.out]; exact ih)
    rw [show kidsS L[i] 0 = [] from rfl, List.append_nil] at h2
    refine Ev.step (fun k => ?_) h2
    rw [spec_mcWords.l1, if_pos (by rw [List.length_map]; omega), if_pos (by omega), if_pos (by rw [List.length_map]; omega), hrd]; rfl
theorem levelS_sub (n : Nat) : (levelS n).length ≤ 4 ^ n ∧ ∀ u ∈ levelS n, (∀ d ∈ u, d < 4) ∧ u.length = n := by
  rw [levelS_eq]
  exact ⟨Nat.le_trans (List.length_filter_le _ _) (by rw [level_len]; exact Nat.le_refl _), fun u hu => by
    obtain ⟨h1, h2⟩ := (mem_level n u).1 (List.mem_filter.1 hu).1
    exact ⟨h2, h1⟩⟩
theorem mc_l0 : ∀ (n j : Nat), n + j ≤ 6 → Ev (fun k => spec_mcWords.l0 k (n : Int) ((levelS j).map txtW)) ((levelS (j + n)).map txtW)
  | 0, j, _ => Ev.step (f := fun _ => some ((levelS j).map txtW)) (fun k => by rw [spec_mcWords.l0, if_neg (by omega)]) (Ev.now _)
  | n + 1, j, hj => by
    obtain ⟨h1, h2⟩ := levelS_sub j
    have h6 : 4 ^ j ≤ 4 ^ 6 := Nat.pow_le_pow_right (by decide) (by omega)
    have h7 : 4 ^ 6 = 4096 := rfl
    have ih := mc_l0 n (j + 1) (by omega)
    rw [show j + (n + 1) = j + 1 + n by omega]
    have HW : Aside0 (wrap64 (((n + 1 : Nat) : Int) - 1) = (n : Int)) := ⟨by rw [w64 (by omega) (by omega)]; omega⟩
    have hl := mc_l1 (x0 := ((n + 1 : Nat) : Int)) (L := levelS j) (by omega) (fun u hu => ⟨(h2 u hu).1, by have := (h2 u hu).2; omega⟩) (levelS j).length 0 (by omega) (by rw [HW.out]; exact ih)
    refine Ev.step (fun k => ?_) hl
    rw [spec_mcWords.l0, if_pos (by omega)]; rfl
theorem mcWords_ev {n : Nat} (hn : n ≤ 6) : Ev (fun k => spec_mcWords.f k (n : Int)) ((levelS n).map txtW) := by
  have := mc_l0 n 0 (by omega)
  rw [Nat.zero_add] at this
  exact this
end Go.Proofs.YtdffgeoegdkiaaaGreatDoor.F

namespace Go.Proofs.YtdffgeoegdkiaaaGreatDoor.F
open Go.Proofs.YtdffgeoegdkiaaaGreatDoor
open Go.RowKit Go.Proofs.YtdffgeoegdkiaaaGreatDoorW.PrintWords Go.Proofs.YtdffgeoegdkiaaaGreatDoorW.PrintLast Go.Proofs.YtdffgeoegdkiaaaGreatDoorW.PrintMore
attribute [local go_sem] max2_int min2_int max_two min_two max_three min_three max_four min_four
def impl_read.f (a0 : ByteArray) : Option (Int × Int × List Int) := (strings_Split.f a0 (⟨#[47]⟩ : ByteArray)).bind fun t102 => (if 0 < (t102.length : Int) then ((strings_Join.f t102 (⟨#[]⟩ : ByteArray)).bind fun t106 => ((conv_bytes.f t106).bind fun t107 => (some (((rdOf ByteArray.empty t102 0).size : Int), (t102.length : Int), t107)))) else (none))
def impl_read.T2 : Bool × List (List Nat × List Nat) := (true, [([], []), ([0], [0]), ([1], [1]), ([2], [2]), ([], []), ([4], [4]), ([], []), ([6], [6]), ([7], [7]), ([3, 5, 8], [3, 5, 8]), ([9, 7, 0, 1, 2, 3, 4, 5, 6, 7, 8, 9], [9])])
def impl_read.B2 : List Nat := [0, 1, 3, 7, 0, 16, 0, 64, 192, 511, 1023]
theorem impl_read.tab2 : rtab .any (opsOf Tryz.f89 2) = impl_read.T2 := by kernel_rfl
theorem impl_read.bits2 : waitsOk impl_read.T2.2 impl_read.B2 = true := by kernel_rfl
set_option maxHeartbeats 8000000 in
set_option maxRecDepth 100000 in
theorem impl_read.calls (a0 : ByteArray) (r1 : Int) (r2 : Int) (r3 : List Int) (w : World) (h : impl_read.f a0 = some (r1, r2, r3)) :
  Calls Tryz.prog 89 #[.string a0] w fun e w' => ∃ v2_ : Value, e = .returned (.agg #[.int .i64 r1, .int .i64 r2, v2_]) ∧ Kd.V (Kd.int .u8) 5 w' w.heap.size (fun k_ => (w.heap.size ≤ k_)) v2_ r3 ∧ Below w.heap.size w w' := by
 have hu93 := Tryz.underlying93
 have HB := am (Below.refl w.heap.size w)
 have H : ((strings_Split.f a0 (⟨#[47]⟩ : ByteArray)).bind fun t102 => (if 0 < (t102.length : Int) then ((strings_Join.f t102 (⟨#[]⟩ : ByteArray)).bind fun t106 => ((conv_bytes.f t106).bind fun t107 => (some (((rdOf ByteArray.empty t102 0).size : Int), (t102.length : Int), t107)))) else (none))) = some (r1, r2, r3) := h
 clear h
 obtain ⟨t102, A20, H⟩ := Option.bind_eq_some_iff.mp H
 have A2 := am A20
 clear A20
 by_cases c3 : 0 < (t102.length : Int)
 ·rw [if_pos c3] at H
  have c3b0 := decide_eq_true c3
  have c3b1 : decide (0 < t102.length) = true := decide_eq_true (by omega)
  clear c3
  obtain ⟨t106, A40, H⟩ := Option.bind_eq_some_iff.mp H
  have A4 := am A40
  clear A40
  obtain ⟨t107, A50, H⟩ := Option.bind_eq_some_iff.mp H
  have A5 := am A50
  clear A50
  simp only [Option.some.injEq, Prod.mk.injEq] at H
  obtain ⟨rfl, rfl, rfl⟩ := H
  go_enter Tryz.func89, Tryz.ntmps89
  try go_wp2_with (first | ((with_reducible refine gate_dst (N := 2) rfl ?_); refine box_event ?hg (N := 2) ?hd (cs := #[.int .i64 0, .int .i64 0, .slice none 0 0]) (t := 93) ?hr ?_; (case hd => rfl); (case hg => rfl); (case hr => exact aq15); intro gb101 hg w6 hbox hb; have n0_ := am (below_step aq1 hb); have n1_ := am (hbox); have n2_ := am ((by rw [hg]; exact (below_size aq1) : w.heap.size ≤ gb101)); have n3_ := am ((by rw [hg]; exact (below_size aq1) : w.heap.size ≤ gb101)); clear HB; have HB := n0_; have BK101 := n1_; have GW101 := n2_; have GE101 := n3_; clear n0_ n1_ n2_ n3_; clear hb hbox hg) | ((with_reducible refine gate_callee (f := 101) rfl ?_); refine goesL_ (some 5) rfl rfl Tryz.func101 (by kernel_rfl) rfl #[.string a0, .string (⟨#[47]⟩ : ByteArray)] rfl aq5 ?_; (with_reducible refine (strings_Split.calls a0 (⟨#[47]⟩ : ByteArray) t102 _ A2.out).mono ?_); rintro e w7 ⟨v103, rfl, ho0, hb⟩; refine ⟨_, rfl, ?_⟩; have n0_ := am (Kd.R_lower (Kd.R_newM (M := fun k_ => (w.heap.size ≤ k_)) ho0 (below_size aq0) (fun k_ h_ => h_)) (below_size aq0)); have n1_ := am (blk_below (g := gb101) (o := .cells #[.int .i64 0, .int .i64 0, .slice none 0 0] 93 (0, 0)) aq2 hb); have n2_ := am (below_step aq0 hb); clear BK101; clear HB; have HO104 := n0_; have BK101 := n1_; have HB := n2_; clear n0_ n1_ n2_; (try clear hb); (try clear hb2); (try clear hk); (try clear hi); (try clear ho0)))
  have n0_ := am (Kd.R_drew HO104.out)
  have n1_ := am (blk_drew BK101.out)
  have n2_ := am (below_drew1 HB.out)
  clear HO104
  clear BK101
  clear HB
  have HO104 := n0_
  have BK101 := n1_
  have HB := n2_
  clear n0_ n1_ n2_
  obtain ⟨Ao9, co9, eo9⟩ := Kd.R_slice HO104.out
  (first | subst eo9 | (injection eo9 with f1_ f2_ f3_; have f4_ := f1_.symm; have f5_ := f3_.symm; clear f1_ f2_ f3_; subst f4_; subst f5_))
  have p105 : 0 ≤ (0 : Int) := (by omega)
  have q105 : 0 < (t102.length : Int) := of_decide_eq_true aq6
  obtain ⟨ad105, e105, hx105_0⟩ := Kd.at_string (Kd.R_reads' HO104.out).2.2 0 p105 q105
  cases e105
  have qi105 : (0 < t102.length) = True := eq_true (by omega)
  (try rw [show ((0 : Int)).toNat = 0 from rfl] at hx105_0)
  (try rw [Addr.add_zero'] at hx105_0)
  replace p105 := eq_true p105
  replace q105 := eq_true q105
  refine start_ (n := 11) (S := fun w' => w'.cell? ad105 = some (.string (rdOf ByteArray.empty t102 0))) (ds := []) #[false, false, false, false, false, false, false, false, false, false, false] (by kernel_rfl) rfl rfl (hx105_0) (fun hHeld => ?_); refine with_tabW impl_read.tab2 impl_read.bits2 (fun HT_ HW_ => ?_)
  generalize w7.drew = w8 at HO104 BK101 HB hx105_0 hHeld ⊢
  refine pure_ (i := 0) (N := some 6) (v := ?_) (a' := ?_) (bm 11 1) rfl rfl (any_of HT_.out (by kernel_rfl)) (fun _ _ _ h => h) (Or.inl ⟨by rfl, ?_⟩) ?_ ?_
  rotate_left
  ·intro w'
   go_simp
   with_reducible rfl
  rotate_left
  ·simp only [Act.put, ac_]
   rfl
  refine pure_ (i := 1) (N := some 7) (v := ?_) (a' := ?_) (bm 11 3) rfl rfl (any_of HT_.out (by kernel_rfl)) (fun _ _ _ h => h) (Or.inl ⟨by rfl, ?_⟩) ?_ ?_
  rotate_left
  ·intro w'
   go_simp
   with_reducible rfl
  rotate_left
  ·simp only [Act.put, ac_]
   rfl
  refine pure_ (i := 4) (N := some 10) (v := ?_) (a' := ?_) (bm 11 19) rfl rfl (any_of HT_.out (by kernel_rfl)) (fun _ _ _ h => h) (Or.inl ⟨by rfl, ?_⟩) ?_ ?_
  rotate_left
  ·intro w'
   go_simp
   with_reducible rfl
  rotate_left
  ·simp only [Act.put, ac_]
   rfl
  refine pure_ (i := 5) (N := some 11) (v := ?_) (a' := ?_) (bm 11 51) rfl rfl (any_of HT_.out (by kernel_rfl)) (fun _ _ _ h => h) (Or.inl ⟨by rfl, ?_⟩) ?_ ?_
  rotate_left
  ·intro w'
   go_simp
   with_reducible rfl
  rotate_left
  ·simp only [Act.put, ac_]
   rfl
  refine pure_ (i := 6) (N := some 12) (v := ?_) (a' := ?_) (bm 11 115) rfl rfl (any_of HT_.out (by kernel_rfl)) (fun _ _ _ h => h) (Or.inl ⟨by rfl, ?_⟩) ?_ ?_
  rotate_left
  ·intro w'
   go_simp
   with_reducible rfl
  rotate_left
  ·simp only [Act.put, ac_]
   rfl
  refine take_ (i := 2) (N := some 8) (v := ?_) (a' := ?_) (bm 11 119) rfl rfl (take_ofW HT_.out HW_.out (by kernel_rfl)) (fun _ _ _ h => h) (Or.inl ⟨by rfl, ?_⟩) hHeld ?_ ?_
  rotate_left
  ·intro w' s0
   go_simp
   with_reducible rfl
  rotate_left
  ·simp only [Act.put, ac_]
   rfl
  refine pure_ (i := 3) (N := some 9) (v := ?_) (a' := ?_) (bm 11 127) rfl rfl (any_of HT_.out (by kernel_rfl)) (fun _ _ _ h => h) (Or.inl ⟨by rfl, ?_⟩) ?_ ?_
  rotate_left
  ·intro w'
   go_simp
   with_reducible rfl
  rotate_left
  ·simp only [Act.put, ac_]
   rfl
  refine one_ (i := 7) (N := some 13) (bm 11 255) rfl rfl (one_of HT_.out (by kernel_rfl)) (by decide) (fun K hK => ?_)
  refine goes_ Tryz.func128 (by kernel_rfl) rfl #[.slice (some ad105) t102.length co9, .string (⟨#[]⟩ : ByteArray)] (by rfl) rfl rfl aq5 ?_
  with_reducible refine (strings_Join.calls _ _ t102 (⟨#[]⟩ : ByteArray) t106 _ ?side1 ?side2 A4.out).mono ?_
  (case side1 => exact aq61)
  (case side2 => exact (Kd.R_reads' HO104.out).2.1)
  rintro e w10 ⟨rfl, hb⟩
  have HS0_ := (hb.cell (World.block_lt_of_cell? _ _ (hHeld))).trans (hHeld)
  refine ⟨_, rfl, ?_⟩
  have n0_ := am (Kd.R_below aq42 hb)
  have n1_ := am (blk_below (g := gb101) (o := .cells #[.int .i64 0, .int .i64 0, .slice none 0 0] 93 (0, 0)) aq2 hb)
  have n2_ := am (below_step aq0 hb)
  clear HO104
  clear BK101
  clear HB
  have HO104 := n0_
  have BK101 := n1_
  have HB := n2_
  clear n0_ n1_ n2_
  (try clear hb)
  (try clear hb2)
  (try clear hk)
  (try clear hi)
  refine hK.out _ _ (HS0_) (fun hHeld => ?_)
  clear hK K
  refine norm_ (a' := ?_) ?_ ?_
  rotate_left
  ·show Act.put _ (some 13) _ = _
   simp only [Act.put, ac_]
   rfl
  refine one_ (i := 8) (N := some 14) (bm 11 511) rfl rfl (one_of HT_.out (by kernel_rfl)) (by decide) (fun K hK => ?_)
  refine conv_step (by rfl) (N := 14) rfl 9 60 5 _ rfl t106 rfl Tryz.underlying9 Tryz.underlying60 Tryz.underlying5 t107 A5.out ?_
  intro v108 w11 ho0 hb
  have HS0_ := (hb.cell (World.block_lt_of_cell? _ _ (hHeld))).trans (hHeld)
  have n0_ := am (Kd.R_below aq42 hb)
  have n1_ := am (Kd.V_lower (Kd.V_mono (ok' := fun k_ => (w.heap.size ≤ k_) ∧ some k_ ≠ (.slice (some ad105) t102.length co9 : Value).ownBlock ∧ k_ ≠ gb101) ho0 (fun k_ hk_ => ⟨(Nat.le_trans (below_size aq0) hk_), (Kd.fresh' (Kd.R_lt aq42) k_ hk_), (Kd.freshB (g := gb101) (o := .cells #[.int .i64 0, .int .i64 0, .slice none 0 0] 93 (0, 0)) aq2 k_ hk_)⟩)) (below_size aq0))
  have n2_ := am (blk_below (g := gb101) (o := .cells #[.int .i64 0, .int .i64 0, .slice none 0 0] 93 (0, 0)) aq2 hb)
  have n3_ := am (below_step aq0 hb)
  clear HO104
  clear BK101
  clear HB
  have HO104 := n0_
  have HO109 := n1_
  have BK101 := n2_
  have HB := n3_
  clear n0_ n1_ n2_ n3_
  (try clear hb)
  (try clear hb2)
  (try clear hk)
  (try clear hi)
  (try clear ho0)
  obtain ⟨Ao12, co12, eo12⟩ := Kd.V_slice HO109.out
  (first | subst eo12 | (injection eo12 with f1_ f2_ f3_; have f4_ := f1_.symm; have f5_ := f3_.symm; clear f1_ f2_ f3_; subst f4_; subst f5_))
  refine hK.out _ _ (HS0_) (fun hHeld => ?_)
  clear hK K
  refine norm_ (a' := ?_) ?_ ?_
  rotate_left
  ·show Act.put _ (some 14) _ = _
   simp only [Act.put, ac_]
   rfl
  refine pure_ (i := 9) (N := some 15) (v := ?_) (a' := ?_) (bm 11 1023) rfl rfl (any_of HT_.out (by kernel_rfl)) (fun _ _ _ h => h) (Or.inl ⟨by rfl, ?_⟩) ?_ ?_
  rotate_left
  ·intro w'
   go_simp
   with_reducible rfl
  rotate_left
  ·simp only [Act.put, ac_]
   rfl
  refine one_ (i := 10) (N := none) (bm 11 2047) rfl rfl (one_of HT_.out (by kernel_rfl)) (by decide) (fun K hK => ?_)
  have hs13 : w11.cell? ⟨gb101, 0, none⟩ = some (.int .i64 0) := (blk_cell BK101.out 0).trans rfl
  have hfs13 := blk_frozen BK101.out 0
  have hs14 : w11.cell? ⟨gb101, 1, none⟩ = some (.int .i64 0) := (blk_cell BK101.out 1).trans rfl
  have hfs14 := blk_frozen BK101.out 1
  have hs15 : w11.cell? ⟨gb101, 2, none⟩ = some (.slice none 0 0) := (blk_cell BK101.out 2).trans rfl
  have hfs15 := blk_frozen BK101.out 2
  refine skip_ (w1 := ?_) (by rfl) rfl ?_ ?_
  rotate_left
  ·go_simp
   rfl
  refine hK.out _ _ (((cell_far (p := ⟨gb101, _, none⟩) aq36 _).trans (((cell_far (p := ⟨gb101, _, none⟩) aq36 _).trans (((cell_far (p := ⟨gb101, _, none⟩) aq36 _).trans (hHeld))))))) (fun hHeld => ?_)
  clear hK K
  refine done_ (done_of HT_.out (by kernel_rfl)) ?_
  try go_wp2
  refine bodyPost_ret (results_cell_row rfl _ _ gb101 93 #[.int .i64 ((rdOf ByteArray.empty t102 0).size : Int), .int .i64 (t102.length : Int), .slice Ao12 t107.length co12] (0, 0) _ rfl (by (with_reducible repeat (first | refine blk_drewN ?_ _ | refine blk_drew ?_ | refine blk_alloc ?_ _)); refine blk_put (cs := #[.int .i64 ((rdOf ByteArray.empty t102 0).size : Int), .int .i64 (t102.length : Int), .slice none 0 0]) ?_ 2 _ rfl; (with_reducible repeat (first | refine blk_drewN ?_ _ | refine blk_drew ?_ | refine blk_alloc ?_ _)); refine blk_put (cs := #[.int .i64 ((rdOf ByteArray.empty t102 0).size : Int), .int .i64 0, .slice none 0 0]) ?_ 1 _ rfl; (with_reducible repeat (first | refine blk_drewN ?_ _ | refine blk_drew ?_ | refine blk_alloc ?_ _)); refine blk_put (cs := #[.int .i64 0, .int .i64 0, .slice none 0 0]) ?_ 0 _ rfl; (with_reducible repeat (first | refine blk_drewN ?_ _ | refine blk_drew ?_ | refine blk_alloc ?_ _)); exact BK101.out) Tryz.underlying93 rfl (by kernel_rfl)) rfl ?_
  exact ⟨_, aq8, by (with_reducible repeat (first | apply Kd.V_alloc | apply Kd.V_drewN | apply Kd.V_drew)); exact Kd.V_mono (Kd.V_far (p := ⟨gb101, 2, none⟩) (Kd.V_far (p := ⟨gb101, 1, none⟩) (Kd.V_far (p := ⟨gb101, 0, none⟩) (Kd.V_mono HO109.out (fun k_ hk => (⟨hk, hk.2.2⟩ : _ ∧ k_ ≠ gb101))) (fun _ hk => hk.2) (.int .i64 ((rdOf ByteArray.empty t102 0).size : Int))) (fun _ hk => hk.2) (.int .i64 (t102.length : Int))) (fun _ hk => hk.2) (.slice Ao12 t107.length co12)) (fun _ hk => hk.1.1), aq0⟩
 ·rw [if_neg c3] at H
  exact absurd H (by simp)
end Go.Proofs.YtdffgeoegdkiaaaGreatDoor.F

namespace Go.Proofs.YtdffgeoegdkiaaaGreatDoor.F
open Go.RowKit Go.Proofs.YtdffgeoegdkiaaaGreatDoor Go.Proofs.YtdffgeoegdkiaaaGreatDoorW.PrintWords
theorem tyGrid_some {l : List Int} {w h : Nat} {cs : List Int} (hg : tyGrid l = some (w, h, cs)) :
    (1 ≤ w ∧ w ≤ 7) ∧ (1 ≤ h ∧ h ≤ 7) ∧ cs.length = w * h ∧ w * h ≤ 36 ∧ l.length ≤ 42 ∧ cs = (rowsI 47 l).flatten ∧ w = ((rowsI 47 l).headD []).length ∧ h = (rowsI 47 l).length := by
  have hs : rowsTray l := (tyGrid_iff l).1 (by rw [hg]; rfl)
  unfold tyGrid at hg
  split at hg
  · cases hg
  rename_i h42
  cases hr : rowsI 47 l with
  | nil => exact absurd hr (rowsI_ne _ _)
  | cons r rs =>
    rw [tyGo_start l r rs hr] at hg
    unfold rowsTray at hs
    rw [hr] at hs
    by_cases hc : 0 < r.length ∧ rowsGood r.length (r :: rs)
    · rw [if_pos hc] at hg
      simp only at hg
      split at hg
      · rename_i hd
        injection hg with hg
        simp only [Prod.mk.injEq] at hg
        obtain ⟨rfl, rfl, rfl⟩ := hg
        have hf := rowsGood_flatten hc.2
        simp only [List.length_cons] at hf
        simp only [List.headD_cons, List.length_cons] at hs ⊢
        refine ⟨hs.1, hs.2.1, hf, hs.2.2.1, by omega, ?_⟩
        simp
      · cases hg
    · rw [if_neg hc] at hg
      cases hg
theorem join_nil : ∀ xs : List (List UInt8), Lib.join xs [] = xs.flatten
  | [] => rfl
  | [a] => by simp [Lib.join, List.intercalate]
  | a :: b :: l => by
    have ih := join_nil (b :: l)
    unfold Lib.join List.intercalate at ih ⊢
    rw [List.intersperse, List.flatten_cons, List.flatten_cons, ih]
    · simp
    all_goals simp
theorem impl_read_eq (s : ByteArray) {w h : Nat} {cs : List Int} (hg : tyGrid (bytesOf s) = some (w, h, cs)) : impl_read.f s = some ((w : Int), (h : Int), cs) := by
  obtain ⟨hw, hh, hl, h36, h42, hcs, hwr, hhr⟩ := tyGrid_some hg
  rw [bytesOf_length] at h42
  have hsp : strings_Split.f s (⟨#[47]⟩ : ByteArray) = some (rowsB 47 s) := if_pos ⟨by omega, rfl⟩
  have hmap : (rowsB 47 s).map bytesOf = rowsI 47 (bytesOf s) := rowsB_bytes 47 s
  have hjl : (Lib.join ((rowsB 47 s).map (·.data.toList)) []) = ((rowsB 47 s).map (·.data.toList)).flatten := join_nil _
  have hbj : bytesOf (joinB (rowsB 47 s) ⟨#[]⟩) = cs := by
    unfold joinB
    show ((Lib.join ((rowsB 47 s).map (·.data.toList)) []).map fun b : UInt8 => (b.toNat : Int)) = cs
    rw [hjl, List.map_flatten, List.map_map, hcs, ← hmap]
    rfl
  have hjs : (joinB (rowsB 47 s) ⟨#[]⟩).size = w * h := by rw [← bytesOf_length, hbj, hl]
  have hrl : (rowsB 47 s).length = h := by rw [hhr, ← hmap, List.length_map]
  have hjoin : strings_Join.f (rowsB 47 s) (⟨#[]⟩ : ByteArray) = some (joinB (rowsB 47 s) ⟨#[]⟩) := by
    refine if_pos ⟨by omega, ?_⟩
    have : (Lib.join ((rowsB 47 s).map (·.data.toList)) ([] : List UInt8)).length = w * h := by
      rw [← hjs]; rfl
    show (Lib.join ((rowsB 47 s).map (·.data.toList)) ([] : List UInt8)).length ≤ _
    omega
  have hr0 : ((rdOf ByteArray.empty (rowsB 47 s) 0).size : Int) = w := by
    rw [hwr, ← hmap]
    cases hrb : rowsB 47 s with
    | nil => rw [hrb] at hrl; simp at hrl; omega
    | cons a t =>
      show ((a.size : Nat) : Int) = _
      simp [bytesOf_length]
  rw [impl_read.f, hsp, Option.bind_some, if_pos (by omega), hjoin, Option.bind_some, conv_bytes.f, if_pos (by omega), Option.bind_some, hr0, hrl, hbj]
end Go.Proofs.YtdffgeoegdkiaaaGreatDoor.F

namespace Go.Proofs.YtdffgeoegdkiaaaGreatDoor.F
open Go.Proofs.YtdffgeoegdkiaaaGreatDoor
open Go.RowKit Go.Proofs.YtdffgeoegdkiaaaGreatDoorW.PrintWords Go.Proofs.YtdffgeoegdkiaaaGreatDoorW.PrintLast Go.Proofs.YtdffgeoegdkiaaaGreatDoorW.PrintMore
attribute [local go_sem] max2_int min2_int max_two min_two max_three min_three max_four min_four
def slices_Index_byte_byte.l0 : Nat → List Int → Int → Int → Int → Option (Int)
 | 0, _, _, _, _ => none
 | k + 1, x0, x1, x7, x8 => if x8 < x7 then (if 0 ≤ x8 then (if x8 < (x0.length : Int) then (if x1 = (rd x0 x8) then (some x8) else (slices_Index_byte_byte.l0 k x0 x1 x7 (wrap64 (x8 + 1)))) else (none)) else (none)) else (some (-1))
def slices_Index_byte_byte.f (k : Nat) (l0 : List Int) (a1 : Int) : Option (Int) := slices_Index_byte_byte.l0 k l0 a1 (l0.length : Int) 0
theorem slices_Index_byte_byte.mono_l : ∀ k, (∀ y0 y1 y2 y3, LeO (slices_Index_byte_byte.l0 k y0 y1 y2 y3) (slices_Index_byte_byte.l0 (k + 1) y0 y1 y2 y3))
 | 0 => fun _ _ _ _ r h => by simp [slices_Index_byte_byte.l0] at h
 | k + 1 => by
  have ih0 := slices_Index_byte_byte.mono_l k
  ·intro y0 y1 y2 y3
   unfold slices_Index_byte_byte.l0
   exact mo
theorem slices_Index_byte_byte.mono : ∀ a0 a1 k, LeO (slices_Index_byte_byte.f k a0 a1) (slices_Index_byte_byte.f (k + 1) a0 a1) := by
 intro a0 a1 k
 have ih0 := slices_Index_byte_byte.mono_l k
 unfold slices_Index_byte_byte.f
 exact mo
def impl_cellOf.j0 : Nat → ByteArray → ByteArray → Bool → Option (Int × Bool)
 | 0, _, _, _ => none
 | k + 1, x0, x1, x20 => if x20 = true then (some (0, false)) else ((impl_read.f x0).bind fun bt103 => (if 0 < (x1.size : Int) then ((slices_Index_byte_byte.f k bt103.2.2 (bt x1 0)).bind fun t108 => (some (t108, decide (t108 ≥ 0)))) else (none)))
theorem impl_cellOf.mono_l : ∀ k, (∀ y0 y1 y2, LeO (impl_cellOf.j0 k y0 y1 y2) (impl_cellOf.j0 (k + 1) y0 y1 y2))
 | 0 => fun _ _ _ r h => by simp [impl_cellOf.j0] at h
 | k + 1 => by
  have ih0 := impl_cellOf.mono_l k
  ·intro y0 y1 y2
   unfold impl_cellOf.j0
   have im0 := @impl_IsTray.mono; have im1 := @slices_Index_byte_byte.mono; exact mo
end Go.Proofs.YtdffgeoegdkiaaaGreatDoor.F

namespace Go.Proofs.YtdffgeoegdkiaaaGreatDoor.F
open Go.RowKit Go.Proofs.YtdffgeoegdkiaaaGreatDoor Go.Proofs.YtdffgeoegdkiaaaGreatDoorW.PrintWords
def firstAt (cs : List Int) (c : Int) : Nat := cs.findIdx (· == c)
theorem first_split {cs : List Int} {c : Int} {i : Nat} (h : ∀ j, j < i → ∀ hj : j < cs.length, cs[j] ≠ c) (hi : i < cs.length) (he : cs[i] = c) : firstAt cs c = i := by
  unfold firstAt
  rw [List.findIdx_eq hi]
  refine ⟨by rw [he]; exact beq_self_eq_true _, fun j hj => ?_⟩
  have := h j hj (by omega)
  simpa using this
theorem first_none {cs : List Int} {c : Int} (h : ∀ j, ∀ hj : j < cs.length, cs[j] ≠ c) : firstAt cs c = cs.length := by
  unfold firstAt
  rw [List.findIdx_eq_length]
  intro x hx
  obtain ⟨j, hj, rfl⟩ := List.getElem_of_mem hx
  have := h j hj
  simpa using this
end Go.Proofs.YtdffgeoegdkiaaaGreatDoor.F

namespace Go.Proofs.YtdffgeoegdkiaaaGreatDoor
open Go.RowKit Go.Proofs.YtdffgeoegdkiaaaGreatDoorW.PrintWords Go.Proofs.YtdffgeoegdkiaaaGreatDoorW.PrintLast Go.Proofs.YtdffgeoegdkiaaaGreatDoorW.PrintMore Go.Lib Go.Shelf
def inR (lo hi x : Int) : Bool := decide (lo ≤ x) && decide (x ≤ hi)
def impl_areWithin.f (l : List Int) (lo hi : Int) : Option Bool := some (l.all (inR lo hi))
end Go.Proofs.YtdffgeoegdkiaaaGreatDoor

namespace Go.Proofs.YtdffgeoegdkiaaaGreatDoor.F
open Go.Proofs.YtdffgeoegdkiaaaGreatDoor
open Go.RowKit Go.Proofs.YtdffgeoegdkiaaaGreatDoorW.PrintWords Go.Proofs.YtdffgeoegdkiaaaGreatDoorW.PrintLast Go.Proofs.YtdffgeoegdkiaaaGreatDoorW.PrintMore
attribute [local go_sem] max2_int min2_int max_two min_two max_three min_three max_four min_four
def impl_isNumber.f (k : Nat) (a0 : ByteArray) (l1 : List Int) : Option (Bool) := (impl_IsTray.f k a0).bind fun t101 => (if t101 = true then ((impl_read.f a0).bind fun bt102 => ((impl_areWithin.f l1 0 (wrap64 ((bt102.2.2.length : Int) - 1))).bind fun t107 => (some t107))) else (some false))
theorem impl_isNumber.mono : ∀ a0 a1 k, LeO (impl_isNumber.f k a0 a1) (impl_isNumber.f (k + 1) a0 a1) := by
 intro a0 a1 k
 unfold impl_isNumber.f
 have im0 := @impl_IsTray.mono; exact mo
def impl_IsPuzzle.T2 : Bool × List (List Nat × List Nat) := (true, [([], []), ([0], [0]), ([1], [1]), ([2, 1], [1, 2]), ([1], [1]), ([4, 1], [1, 4]), ([5, 1], [1, 5]), ([3, 6, 1, 1], [1, 3, 6]), ([1, 7], [1, 7]), ([8, 7], [8]), ([9], [9]), ([10, 9], [9, 10]), ([11, 9, 9], [9, 11]), ([12, 9], [9, 12]), ([9], [9]), ([14, 9], [9, 14]), ([13, 15, 9], [9, 13, 15]), ([16, 9], [9, 16]), ([17, 9], [9, 17]), ([9, 18], [9, 18]), ([19, 12, 0, 1, 2, 3, 4, 5, 6, 7, 8, 9, 10, 11, 12, 13, 14, 15, 16, 17, 18, 19], [19])])
def impl_IsPuzzle.B2 : List Nat := [0, 1, 3, 7, 3, 19, 51, 127, 255, 511, 1023, 2047, 4095, 8191, 1023, 17407, 65535, 131071, 262143, 524287, 1048575]
theorem impl_IsPuzzle.tab2 : rtab .any (opsOf Tryz.f88 2) = impl_IsPuzzle.T2 := by kernel_rfl
theorem impl_IsPuzzle.bits2 : waitsOk impl_IsPuzzle.T2.2 impl_IsPuzzle.B2 = true := by kernel_rfl
def spec_tiPlace.l0 : Nat → Int → List Int → Int → Int → Option (Int)
 | 0, _, _, _, _ => none
 | k + 1, x1, x8, x9, x10 => if x10 < x9 then (if 0 ≤ x10 then (if x10 < (x8.length : Int) then (if (rd x8 x10) = x1 then (some x10) else (spec_tiPlace.l0 k x1 x8 x9 (wrap64 (x10 + 1)))) else (none)) else (none)) else (some (-1))
def spec_tiPlace.f (k : Nat) (a0_0 : Int) (a0_1 : Int) (l0_2 : List Int) (a1 : Int) : Option (Int) := spec_tiPlace.l0 k a1 l0_2 (l0_2.length : Int) 0
theorem spec_tiPlace.mono_l : ∀ k, (∀ y0 y1 y2 y3, LeO (spec_tiPlace.l0 k y0 y1 y2 y3) (spec_tiPlace.l0 (k + 1) y0 y1 y2 y3))
 | 0 => fun _ _ _ _ r h => by simp [spec_tiPlace.l0] at h
 | k + 1 => by
  have ih0 := spec_tiPlace.mono_l k
  ·intro y0 y1 y2 y3
   unfold spec_tiPlace.l0
   exact mo
theorem spec_tiPlace.mono : ∀ a0 a1 a2 a3 k, LeO (spec_tiPlace.f k a0 a1 a2 a3) (spec_tiPlace.f (k + 1) a0 a1 a2 a3) := by
 intro a0 a1 a2 a3 k
 have ih0 := spec_tiPlace.mono_l k
 unfold spec_tiPlace.f
 exact mo

def spec_puGood.T2 : Bool × List (List Nat × List Nat) := (true, [([], []), ([0], [0]), ([1], [1]), ([2], [2]), ([3, 2], [2, 3]), ([4, 2, 2], [2, 4]), ([5, 2], [2, 5]), ([2, 6], [2, 6]), ([7, 5], [7]), ([8], [8]), ([8], [8]), ([10, 8], [8, 10]), ([11, 8], [8, 11]), ([9, 12, 8, 8], [8, 9, 12]), ([13, 8], [8, 13]), ([8, 14], [8, 14])])
def spec_puGood.B2 : List Nat := [0, 1, 3, 7, 15, 31, 63, 127, 255, 511, 511, 1535, 3583, 8191, 16383, 32767]
theorem spec_puGood.tab2 : rtab .any (opsOf Tryz.f83 2) = spec_puGood.T2 := by kernel_rfl
theorem spec_puGood.bits2 : waitsOk spec_puGood.T2.2 spec_puGood.B2 = true := by kernel_rfl
end Go.Proofs.YtdffgeoegdkiaaaGreatDoor.F

namespace Go.Proofs.YtdffgeoegdkiaaaGreatDoor.F
open Go.RowKit Go.Proofs.YtdffgeoegdkiaaaGreatDoor Go.Proofs.YtdffgeoegdkiaaaGreatDoorW.PrintWords Go.Proofs.YtdffgeoegdkiaaaGreatDoorW.PrintMore

end Go.Proofs.YtdffgeoegdkiaaaGreatDoor.F

namespace Go.Proofs.YtdffgeoegdkiaaaGreatDoor.F
open Go.Proofs.YtdffgeoegdkiaaaGreatDoor
open Go.RowKit Go.Proofs.YtdffgeoegdkiaaaGreatDoorW.PrintWords Go.Proofs.YtdffgeoegdkiaaaGreatDoorW.PrintLast Go.Proofs.YtdffgeoegdkiaaaGreatDoorW.PrintMore
attribute [local go_sem] max2_int min2_int max_two min_two max_three min_three max_four min_four
def laws_toIntS.l0 : Nat → List Int → List Int → Int → Option (List Int)
 | 0, _, _, _ => none
 | k + 1, x0, x3, x4 => if x4 < (x0.length : Int) then (if 0 ≤ x4 then (if x4 < (x3.length : Int) then (laws_toIntS.l0 k x0 (x3.set (x4 : Int).toNat (rd x0 x4)) (wrap64 (x4 + 1))) else (none)) else (none)) else (some x3)
theorem laws_toIntS.mono_l : ∀ k, (∀ y0 y1 y2, LeO (laws_toIntS.l0 k y0 y1 y2) (laws_toIntS.l0 (k + 1) y0 y1 y2))
 | 0 => fun _ _ _ r h => by simp [laws_toIntS.l0] at h
 | k + 1 => by
  have ih0 := laws_toIntS.mono_l k
  ·intro y0 y1 y2
   unfold laws_toIntS.l0
   exact mo
def laws_eqIntS.l0 : Nat → List Int → List Int → Int → Option (Bool)
 | 0, _, _, _ => none
 | k + 1, x0, x1, x5 => if x5 < (x0.length : Int) then (if 0 ≤ x5 then (if x5 < (x1.length : Int) then (if (rd x0 x5) = (rd x1 x5) then (laws_eqIntS.l0 k x0 x1 (wrap64 (x5 + 1))) else (some false)) else (none)) else (none)) else (some true)
theorem laws_eqIntS.mono_l : ∀ k, (∀ y0 y1 y2, LeO (laws_eqIntS.l0 k y0 y1 y2) (laws_eqIntS.l0 (k + 1) y0 y1 y2))
 | 0 => fun _ _ _ r h => by simp [laws_eqIntS.l0] at h
 | k + 1 => by
  have ih0 := laws_eqIntS.mono_l k
  ·intro y0 y1 y2
   unfold laws_eqIntS.l0
   exact mo
def laws_markIntS.l0 : Nat → List Int → Int → Int → Option (Int × List Int)
 | 0, _, _, _ => none
 | k + 1, x0, x1, x5 => if x5 < (x0.length : Int) then (if 0 ≤ x5 then (laws_markIntS.l0 k (x0.set (x5 : Int).toNat x1) (wrap64 (x1 + 1)) (wrap64 (x5 + 1))) else (none)) else (some (x1, x0))
theorem laws_markIntS.mono_l : ∀ k, (∀ y0 y1 y2, LeO (laws_markIntS.l0 k y0 y1 y2) (laws_markIntS.l0 (k + 1) y0 y1 y2))
 | 0 => fun _ _ _ r h => by simp [laws_markIntS.l0] at h
 | k + 1 => by
  have ih0 := laws_markIntS.mono_l k
  ·intro y0 y1 y2
   unfold laws_markIntS.l0
   exact mo
def laws_heldIntS.l0 : Nat → List Int → Int → Int → Option (Int)
 | 0, _, _, _ => none
 | k + 1, x0, x1, x5 => if x5 < (x0.length : Int) then (if 0 ≤ x5 then (if (rd x0 x5) = x1 then (laws_heldIntS.l0 k x0 (wrap64 (x1 + 1)) (wrap64 (x5 + 1))) else (some (-1))) else (none)) else (some x1)
theorem laws_heldIntS.mono_l : ∀ k, (∀ y0 y1 y2, LeO (laws_heldIntS.l0 k y0 y1 y2) (laws_heldIntS.l0 (k + 1) y0 y1 y2))
 | 0 => fun _ _ _ r h => by simp [laws_heldIntS.l0] at h
 | k + 1 => by
  have ih0 := laws_heldIntS.mono_l k
  ·intro y0 y1 y2
   unfold laws_heldIntS.l0
   exact mo
end Go.Proofs.YtdffgeoegdkiaaaGreatDoor.F

namespace Go.Proofs.YtdffgeoegdkiaaaGreatDoor.F
open Go.RowKit Go.Proofs.YtdffgeoegdkiaaaGreatDoor Go.Proofs.YtdffgeoegdkiaaaGreatDoorW.PrintWords Go.Proofs.YtdffgeoegdkiaaaGreatDoorW.PrintMore
theorem rdN (l : List Int) (i : Nat) : rd l (i : Int) = l.getD i 0 := by unfold rd; rw [Int.toNat_natCast]
end Go.Proofs.YtdffgeoegdkiaaaGreatDoor.F

namespace Go.Proofs.YtdffgeoegdkiaaaGreatDoor.F
open Go.Proofs.YtdffgeoegdkiaaaGreatDoor
open Go.RowKit Go.Proofs.YtdffgeoegdkiaaaGreatDoorW.PrintWords Go.Proofs.YtdffgeoegdkiaaaGreatDoorW.PrintLast Go.Proofs.YtdffgeoegdkiaaaGreatDoorW.PrintMore
attribute [local go_sem] max2_int min2_int max_two min_two max_three min_three max_four min_four
def slices_Index_int_int.l0 : Nat → List Int → Int → Int → Int → Option (Int)
 | 0, _, _, _, _ => none
 | k + 1, x0, x1, x7, x8 => if x8 < x7 then (if 0 ≤ x8 then (if x8 < (x0.length : Int) then (if x1 = (rd x0 x8) then (some x8) else (slices_Index_int_int.l0 k x0 x1 x7 (wrap64 (x8 + 1)))) else (none)) else (none)) else (some (-1))
def slices_Index_int_int.f (k : Nat) (l0 : List Int) (a1 : Int) : Option (Int) := slices_Index_int_int.l0 k l0 a1 (l0.length : Int) 0
theorem slices_Index_int_int.mono_l : ∀ k, (∀ y0 y1 y2 y3, LeO (slices_Index_int_int.l0 k y0 y1 y2 y3) (slices_Index_int_int.l0 (k + 1) y0 y1 y2 y3))
 | 0 => fun _ _ _ _ r h => by simp [slices_Index_int_int.l0] at h
 | k + 1 => by
  have ih0 := slices_Index_int_int.mono_l k
  ·intro y0 y1 y2 y3
   unfold slices_Index_int_int.l0
   exact mo
theorem slices_Index_int_int.mono : ∀ a0 a1 k, LeO (slices_Index_int_int.f k a0 a1) (slices_Index_int_int.f (k + 1) a0 a1) := by
 intro a0 a1 k
 have ih0 := slices_Index_int_int.mono_l k
 unfold slices_Index_int_int.f
 exact mo
set_option maxHeartbeats 8000000 in
set_option maxRecDepth 100000 in
theorem slices_Index_int_int.calls (k : Nat) (A0 : Option Addr) (c0 : Nat) (l0 : List Int) (a1 : Int) (r : Int) (w : World) (hr0 : Kd.C (Kd.int .i64) w A0 l0.length l0) (hc0 : l0.length ≤ c0) (h : slices_Index_int_int.f k l0 a1 = some r) :
  Calls Tryz.prog 110 #[.slice A0 l0.length c0, .int .i64 a1] w fun e w' => e = .returned (.int .i64 r) ∧ Drawn0 w w' := by
 have HR0 := am hr0
 have HC0 := am hc0
 clear hr0 hc0
 have H : (slices_Index_int_int.l0 k l0 a1 (l0.length : Int) 0) = some r := h
 clear h
 have H' := am H
 clear H
 go_enter Tryz.func110, Tryz.ntmps110
 go_wp2
 go_loopg [8] k (fun kq v8 w' => ∃ (x8_1 : Int), v8 = .int .i64 x8_1 ∧ Aside0 (slices_Index_int_int.l0 kq l0 a1 (l0.length : Int) x8_1 = some r) ∧ Aside0 (kq ≤ k) ∧ Drawn0 w w')
 case atStart => exact ⟨(0), aq7, H', ⟨Nat.le_refl _⟩, aq14⟩
 case round =>
  clear H'
  try clear c1
  try clear p2
  obtain ⟨x8_1, rfl, HA, HK1, ⟨m1, rfl⟩⟩ := hrel
  cases gk with
  | zero => exact absurd HA.out (by simp [slices_Index_int_int.l0])
  | succ k1 =>
   have H := HA.out
   clear HA
   simp only [slices_Index_int_int.l0] at H
   by_cases c3 : x8_1 < (l0.length : Int)
   ·rw [if_pos c3] at H
    have c3b0 := decide_eq_true c3
    clear c3
    by_cases c4 : 0 ≤ x8_1
    ·rw [if_pos c4] at H
     have c4b0 := decide_eq_true c4
     clear c4
     by_cases c5 : x8_1 < (l0.length : Int)
     ·rw [if_pos c5] at H
      have c5b0 := decide_eq_true c5
      clear c5
      by_cases c6 : a1 = (rd l0 x8_1)
      ·rw [if_pos c6] at H
       have c6b0 := beq_iff_eq.mpr c6
       have c6b1 := bne_eq_false_iff_eq.mpr c6
       clear c6
       obtain rfl := Option.some.inj H
       have p101 : 0 ≤ (x8_1 : Int) := of_decide_eq_true aq6
       have q101 : x8_1 < (l0.length : Int) := of_decide_eq_true aq6
       obtain ⟨ad101, e101, hx101_0⟩ := Kd.at_int HR0.out x8_1 p101 q101
       cases e101
       replace p101 := eq_true p101
       replace q101 := eq_true q101
       go_wp2
       go_ret
       exact ⟨aq7, aq14⟩
      ·rw [if_neg c6] at H
       have c6b0 := beq_eq_false_iff_ne.mpr c6
       have c6b1 := bne_iff_ne.mpr c6
       have H' := am H
       clear H
       have p101 : 0 ≤ (x8_1 : Int) := of_decide_eq_true aq6
       have q101 : x8_1 < (l0.length : Int) := of_decide_eq_true aq6
       obtain ⟨ad101, e101, hx101_0⟩ := Kd.at_int HR0.out x8_1 p101 q101
       cases e101
       replace p101 := eq_true p101
       replace q101 := eq_true q101
       go_wp2
       go_roundg k1
       case measure => have := HK1.out; omega
       case rel => exact ⟨(wrap64 (x8_1 + 1)), aq7, H', ⟨aq70⟩, aq14⟩
     ·rw [if_neg c5] at H
      exact absurd H (by simp)
    ·rw [if_neg c4] at H
     exact absurd H (by simp)
   ·rw [if_neg c3] at H
    have c3b0 := decide_eq_false c3
    clear c3
    obtain rfl := Option.some.inj H
    go_wp2
    go_ret
    exact ⟨aq7, aq14⟩
def slices_Contains_int_int.f (k : Nat) (l0 : List Int) (a1 : Int) : Option (Bool) := (slices_Index_int_int.f k l0 a1).bind fun t101 => (some (decide (t101 ≥ 0)))
theorem slices_Contains_int_int.mono : ∀ a0 a1 k, LeO (slices_Contains_int_int.f k a0 a1) (slices_Contains_int_int.f (k + 1) a0 a1) := by
 intro a0 a1 k
 unfold slices_Contains_int_int.f
 have im0 := @slices_Index_int_int.mono; exact mo
set_option maxHeartbeats 8000000 in
set_option maxRecDepth 100000 in
theorem slices_Contains_int_int.calls (k : Nat) (A0 : Option Addr) (c0 : Nat) (l0 : List Int) (a1 : Int) (r : Bool) (w : World) (hr0 : Kd.C (Kd.int .i64) w A0 l0.length l0) (hc0 : l0.length ≤ c0) (h : slices_Contains_int_int.f k l0 a1 = some r) :
  Calls Tryz.prog 111 #[.slice A0 l0.length c0, .int .i64 a1] w fun e w' => e = .returned (.bool r) ∧ Drawn0 w w' := by
 have HR0 := am hr0
 have HC0 := am hc0
 clear hr0 hc0
 have H : ((slices_Index_int_int.f k l0 a1).bind fun t101 => (some (decide (t101 ≥ 0)))) = some r := h
 clear h
 obtain ⟨t101, A30, H⟩ := Option.bind_eq_some_iff.mp H
 have A3 := am A30
 clear A30
 obtain rfl := Option.some.inj H
 go_enter Tryz.func111, Tryz.ntmps111
 go_wp2_with (first | ((with_reducible refine gate_callee (f := 110) rfl ?_); refine goesL_ (some 7) rfl rfl Tryz.func110 (by kernel_rfl) rfl #[.slice A0 l0.length c0, .int .i64 a1] rfl aq5 ?_; (with_reducible refine (slices_Index_int_int.calls k _ _ l0 a1 t101 _ ?side1 ?side2 A3.out).mono ?_); (case side1 => repeat (first | exact HR0.out | (with_reducible refine Kd.C_alloc ?_ _) | (with_reducible refine Kd.C_drewN ?_ _) | (with_reducible refine Kd.C_drew ?_))); (case side2 => exact HC0.out); rintro e w' ⟨rfl, ⟨nd, rfl⟩⟩; refine ⟨_, rfl, ?_⟩))
 go_ret
 exact ⟨aq7, aq14⟩
def impl_isGate_1.f (a0 : Int) : Option (Bool) := some (a0 == 46)
mutual
def impl_areCells__impl_isGate_1.j0 : Nat → ByteArray → List Int → Bool → Option (Bool)
 | 0, _, _, _ => none
 | k + 1, x0, x1, x18 => if x18 = true then (some false) else (impl_areCells__impl_isGate_1.l0 k x0 x1 x1 (x1.length : Int) 0)
def impl_areCells__impl_isGate_1.l0 : Nat → ByteArray → List Int → List Int → Int → Int → Option (Bool)
 | 0, _, _, _, _, _ => none
 | k + 1, x0, x1, x19, x20, x21 => if x21 < x20 then (if 0 ≤ x21 then (if x21 < (x19.length : Int) then (if x21 ≤ (x1.length : Int) then ((slices_Contains_int_int.f k (x1.take (x21 : Int).toNat) (rd x19 x21)).bind fun t105 => (if t105 = true then (some false) else ((impl_read.f x0).bind fun bt106 => (if 0 ≤ (rd x19 x21) then (if (rd x19 x21) < (bt106.2.2.length : Int) then ((impl_isGate_1.f (rd bt106.2.2 (rd x19 x21))).bind fun t112 => (if t112 = true then (impl_areCells__impl_isGate_1.l0 k x0 x1 x19 x20 (wrap64 (x21 + 1))) else (some false))) else (none)) else (none))))) else (none)) else (none)) else (none)) else (some true)
end
theorem impl_areCells__impl_isGate_1.mono_l : ∀ k, (∀ y0 y1 y2, LeO (impl_areCells__impl_isGate_1.j0 k y0 y1 y2) (impl_areCells__impl_isGate_1.j0 (k + 1) y0 y1 y2)) ∧ (∀ y0 y1 y2 y3 y4, LeO (impl_areCells__impl_isGate_1.l0 k y0 y1 y2 y3 y4) (impl_areCells__impl_isGate_1.l0 (k + 1) y0 y1 y2 y3 y4))
 | 0 => ⟨fun _ _ _ r h => by simp [impl_areCells__impl_isGate_1.j0] at h, fun _ _ _ _ _ r h => by simp [impl_areCells__impl_isGate_1.l0] at h⟩
 | k + 1 => by
  obtain ⟨ih0, ih1⟩ := impl_areCells__impl_isGate_1.mono_l k
  refine ⟨?_, ?_⟩
  ·intro y0 y1 y2
   unfold impl_areCells__impl_isGate_1.j0
   have im0 := @impl_isNumber.mono; have im1 := @slices_Contains_int_int.mono; exact mo
  ·intro y0 y1 y2 y3 y4
   unfold impl_areCells__impl_isGate_1.l0
   have im0 := @impl_isNumber.mono; have im1 := @slices_Contains_int_int.mono; exact mo
def impl_isOpen.f (a0 : Int) : Option (Bool) := some (a0 != 35)
mutual
def impl_areCells__impl_isOpen.j0 : Nat → ByteArray → List Int → Bool → Option (Bool)
 | 0, _, _, _ => none
 | k + 1, x0, x1, x18 => if x18 = true then (some false) else (impl_areCells__impl_isOpen.l0 k x0 x1 x1 (x1.length : Int) 0)
def impl_areCells__impl_isOpen.l0 : Nat → ByteArray → List Int → List Int → Int → Int → Option (Bool)
 | 0, _, _, _, _, _ => none
 | k + 1, x0, x1, x19, x20, x21 => if x21 < x20 then (if 0 ≤ x21 then (if x21 < (x19.length : Int) then (if x21 ≤ (x1.length : Int) then ((slices_Contains_int_int.f k (x1.take (x21 : Int).toNat) (rd x19 x21)).bind fun t105 => (if t105 = true then (some false) else ((impl_read.f x0).bind fun bt106 => (if 0 ≤ (rd x19 x21) then (if (rd x19 x21) < (bt106.2.2.length : Int) then ((impl_isOpen.f (rd bt106.2.2 (rd x19 x21))).bind fun t112 => (if t112 = true then (impl_areCells__impl_isOpen.l0 k x0 x1 x19 x20 (wrap64 (x21 + 1))) else (some false))) else (none)) else (none))))) else (none)) else (none)) else (none)) else (some true)
end
theorem impl_areCells__impl_isOpen.mono_l : ∀ k, (∀ y0 y1 y2, LeO (impl_areCells__impl_isOpen.j0 k y0 y1 y2) (impl_areCells__impl_isOpen.j0 (k + 1) y0 y1 y2)) ∧ (∀ y0 y1 y2 y3 y4, LeO (impl_areCells__impl_isOpen.l0 k y0 y1 y2 y3 y4) (impl_areCells__impl_isOpen.l0 (k + 1) y0 y1 y2 y3 y4))
 | 0 => ⟨fun _ _ _ r h => by simp [impl_areCells__impl_isOpen.j0] at h, fun _ _ _ _ _ r h => by simp [impl_areCells__impl_isOpen.l0] at h⟩
 | k + 1 => by
  obtain ⟨ih0, ih1⟩ := impl_areCells__impl_isOpen.mono_l k
  refine ⟨?_, ?_⟩
  ·intro y0 y1 y2
   unfold impl_areCells__impl_isOpen.j0
   have im0 := @impl_isNumber.mono; have im1 := @slices_Contains_int_int.mono; exact mo
  ·intro y0 y1 y2 y3 y4
   unfold impl_areCells__impl_isOpen.l0
   have im0 := @impl_isNumber.mono; have im1 := @slices_Contains_int_int.mono; exact mo

def spec_mcRead.T2 : Bool × List (List Nat × List Nat) := (true, [([], []), ([], []), ([1], [1]), ([2], [2]), ([3, 2, 2], [2, 3]), ([2, 4], [2, 4]), ([0, 4, 0], [0]), ([5, 6, 0, 1, 2, 3, 4, 5, 6], [5])])
def spec_mcRead.B2 : List Nat := [0, 0, 2, 6, 14, 30, 31, 127]
theorem spec_mcRead.tab2 : rtab .any (opsOf Tryz.f112 2) = spec_mcRead.T2 := by kernel_rfl
theorem spec_mcRead.bits2 : waitsOk spec_mcRead.T2.2 spec_mcRead.B2 = true := by kernel_rfl
def spec_l1Has.l0 : Nat → Int → List Int → Int → Int → Option (Bool)
 | 0, _, _, _, _ => none
 | k + 1, x1, x7, x8, x9 => if x9 < x8 then (if 0 ≤ x9 then (if x9 < (x7.length : Int) then (if (rd x7 x9) = x1 then (some true) else (spec_l1Has.l0 k x1 x7 x8 (wrap64 (x9 + 1)))) else (none)) else (none)) else (some false)
def spec_l1Has.f (k : Nat) (l0 : List Int) (a1 : Int) : Option (Bool) := spec_l1Has.l0 k a1 l0 (l0.length : Int) 0
theorem spec_l1Has.mono_l : ∀ k, (∀ y0 y1 y2 y3, LeO (spec_l1Has.l0 k y0 y1 y2 y3) (spec_l1Has.l0 (k + 1) y0 y1 y2 y3))
 | 0 => fun _ _ _ _ r h => by simp [spec_l1Has.l0] at h
 | k + 1 => by
  have ih0 := spec_l1Has.mono_l k
  ·intro y0 y1 y2 y3
   unfold spec_l1Has.l0
   exact mo
theorem spec_l1Has.mono : ∀ a0 a1 k, LeO (spec_l1Has.f k a0 a1) (spec_l1Has.f (k + 1) a0 a1) := by
 intro a0 a1 k
 have ih0 := spec_l1Has.mono_l k
 unfold spec_l1Has.f
 exact mo
def spec_mcCells.l0 : Nat → List Int → Int → List Int → Int → Int → Int → Int → List Int → Option (Bool)
 | 0, _, _, _, _, _, _, _, _ => none
 | k + 1, x1, x2, x13, x14, x15, x102000, x102001, x102002 => if x15 < x14 then (if 0 ≤ x15 then (if x15 < (x13.length : Int) then ((spec_l1In.f (rd x13 x15) 0 (wrap64 ((x102002.length : Int) - 1))).bind fun t104 => (if t104 = true then (if x15 ≤ (x1.length : Int) then ((spec_l1Has.f k (x1.take (x15 : Int).toNat) (rd x13 x15)).bind fun t106 => (if t106 = true then (some false) else (if 0 ≤ (rd x13 x15) then (if (rd x13 x15) < (x102002.length : Int) then (if (rd x102002 (rd x13 x15)) = 35 then (some false) else (if x2 = 0 then (spec_mcCells.l0 k x1 x2 x13 x14 (wrap64 (x15 + 1)) x102000 x102001 x102002) else (if (rd x102002 (rd x13 x15)) = x2 then (spec_mcCells.l0 k x1 x2 x13 x14 (wrap64 (x15 + 1)) x102000 x102001 x102002) else (some false)))) else (none)) else (none)))) else (none)) else (some false))) else (none)) else (none)) else (some true)
theorem spec_mcCells.mono_l : ∀ k, (∀ y0 y1 y2 y3 y4 y5 y6 y7, LeO (spec_mcCells.l0 k y0 y1 y2 y3 y4 y5 y6 y7) (spec_mcCells.l0 (k + 1) y0 y1 y2 y3 y4 y5 y6 y7))
 | 0 => fun _ _ _ _ _ _ _ _ r h => by simp [spec_mcCells.l0] at h
 | k + 1 => by
  have ih0 := spec_mcCells.mono_l k
  ·intro y0 y1 y2 y3 y4 y5 y6 y7
   unfold spec_mcCells.l0
   have im0 := @spec_l1Has.mono; exact mo
def spec_mcGate.T2 : Bool × List (List Nat × List Nat) := (true, [([], []), ([], []), ([1], [1]), ([2], [2]), ([2], [2]), ([3, 4, 2, 2], [2, 3, 4]), ([2, 5], [2, 5]), ([6, 5], [6]), ([7], [7]), ([7], [7]), ([8, 9, 7, 7], [7, 8, 9]), ([7, 10], [7, 10]), ([0, 10, 0], [0]), ([11, 12, 0, 1, 2, 3, 4, 5, 6, 7, 8, 9, 10, 11, 12], [11])])
def spec_mcGate.B2 : List Nat := [0, 0, 2, 6, 6, 30, 62, 126, 254, 254, 1022, 2046, 2047, 8191]
theorem spec_mcGate.tab2 : rtab .any (opsOf Tryz.f62 2) = spec_mcGate.T2 := by kernel_rfl
theorem spec_mcGate.bits2 : waitsOk spec_mcGate.T2.2 spec_mcGate.B2 = true := by kernel_rfl
end Go.Proofs.YtdffgeoegdkiaaaGreatDoor.F

namespace Go.Proofs.YtdffgeoegdkiaaaGreatDoor.F
open Go.RowKit Go.Proofs.YtdffgeoegdkiaaaGreatDoor Go.Proofs.YtdffgeoegdkiaaaGreatDoorW.PrintWords Go.Proofs.YtdffgeoegdkiaaaGreatDoorW.PrintMore
def cellOk (p : Int → Bool) (cs l : List Int) (j : Nat) : Prop := (0 ≤ l.getD j 0 ∧ l.getD j 0 < (cs.length : Int)) ∧ l.getD j 0 ∉ l.take j ∧ p (cs.getD (l.getD j 0).toNat 0) = true
instance (p : Int → Bool) (cs l : List Int) (j : Nat) : Decidable (cellOk p cs l j) := by unfold cellOk; exact inferInstance
theorem index_int_l0 (l : List Int) (x : Int) (hl : l.length ≤ 1000) : ∀ (n i : Nat), i + n = l.length → ∃ r, Ev (fun k => slices_Index_int_int.l0 k l x (l.length : Int) (i : Int)) r ∧ (r ≥ 0 ↔ x ∈ l.drop i)
  | 0, i, hi => ⟨-1, Ev.step (fun k => by rw [slices_Index_int_int.l0, if_neg (by omega)]) (Ev.now _), by rw [List.drop_eq_nil_of_le (by omega)]; simp⟩
  | n + 1, i, hi => by
    have hil : i < l.length := by omega
    have HW : Aside0 (wrap64 ((i : Int) + 1) = ((i + 1 : Nat) : Int)) := ⟨by rw [w64 (by omega) (by omega)]; rfl⟩
    have hrd : rd l (i : Int) = l[i]'hil := by rw [rdN, List.getD_eq_getElem?_getD, List.getElem?_eq_getElem hil]; rfl
    rw [List.drop_eq_getElem_cons hil]
    by_cases he : x = l[i]'hil
    · exact ⟨(i : Int), Ev.step (fun k => by rw [slices_Index_int_int.l0, if_pos (by omega), if_pos (by omega), if_pos (by omega), hrd, if_pos he]) (Ev.now _), ⟨fun _ => by rw [he]; exact List.mem_cons_self, fun _ => by omega⟩⟩
    · obtain ⟨r, h1, h2⟩ := index_int_l0 l x hl n (i + 1) (by omega)
      refine ⟨r, Ev.step (fun k => by rw [slices_Index_int_int.l0, if_pos (by omega), if_pos (by omega), if_pos (by omega), hrd, if_neg he, HW.out]) h1, ?_⟩
      rw [h2, List.mem_cons]
      exact ⟨Or.inr, fun q => q.resolve_left he⟩
theorem contains_ev (l : List Int) (x : Int) (hl : l.length ≤ 1000) : Ev (fun k => slices_Contains_int_int.f k l x) (decide (x ∈ l)) := by
  obtain ⟨r, h1, h2⟩ := index_int_l0 l x hl l.length 0 (by omega)
  rw [List.drop_zero] at h2
  refine Ev.bind h1 (Ev.congr (fun k => ?_) (Ev.now _))
  congr 1
  rw [Bool.eq_iff_iff, decide_eq_true_iff, decide_eq_true_iff]
  exact h2
end Go.Proofs.YtdffgeoegdkiaaaGreatDoor.F

namespace Go.Proofs.YtdffgeoegdkiaaaGreatDoor
open Go.RowKit Go.Proofs.YtdffgeoegdkiaaaGreatDoorW.PrintWords Go.Proofs.YtdffgeoegdkiaaaGreatDoorW.PrintMore
theorem idxs_length_eq {cs ds : List Int} (h : (idxs isBallC cs).length = (idxs isBallC ds).length) (hl : cs.length = ds.length) (hs : ∀ i ∈ idxs isBallC ds, ballAt cs i = true) : idxs isBallC ds = idxs isBallC cs := by
  have e : idxs isBallC ds = (idxs isBallC cs).filter (ballAt ds) := by
    unfold idxs
    rw [List.filter_filter, hl]
    refine List.filter_congr fun i hi => ?_
    rw [Bool.eq_iff_iff, Bool.and_eq_true]
    constructor
    · intro hb
      exact ⟨hb, hs i (mem_balls.2 hb)⟩
    · intro hb; exact hb.1
  have hsub : (idxs isBallC ds).Sublist (idxs isBallC cs) := by rw [e]; exact List.filter_sublist
  exact hsub.eq_of_length h.symm
def nowB (w h : Nat) (cs : List Int) (ds : List Nat) : List Nat := nowD w h cs (idxs isBallC cs) ds
theorem nowB_perm {w h : Nat} {cs : List Int} (hl : cs.length = w * h) {ds : List Nat} (hd : ∀ d ∈ ds, d < 4) : (nowB w h cs ds).Perm (idxs isBallC (runD w h cs ds)) := now_run ds hd cs hl _ (List.Perm.refl _)
def comesD (w h : Nat) (cs : List Int) (ds : List Nat) : Bool := (nowB w h cs ds).all fun k => (idxs isBallC cs).contains k
theorem comes_iff {w h : Nat} {cs : List Int} (hl : cs.length = w * h) {ds : List Nat} (hd : ∀ d ∈ ds, d < 4) : comesD w h cs ds = true ↔ ∀ i, i < w * h → ballAt cs i = ballAt (runD w h cs ds) i := by
  have hp := nowB_perm hl hd
  have hlen : (idxs isBallC cs).length = (idxs isBallC (runD w h cs ds)).length := by
    rw [← hp.length_eq]; unfold nowB; rw [nowD_length]
  constructor
  · intro hc
    have hs : ∀ i ∈ idxs isBallC (runD w h cs ds), ballAt cs i = true := fun i hi => by
      have := List.all_eq_true.1 hc i (hp.mem_iff.2 hi)
      exact mem_balls.1 (by simpa using this)
    have e := idxs_length_eq hlen (runD_length w h ds cs).symm hs
    intro i _
    rw [Bool.eq_iff_iff, ← mem_balls, ← mem_balls, e]
  · intro hb
    refine List.all_eq_true.2 fun k hk => ?_
    have h1 := mem_balls.1 (hp.mem_iff.1 hk)
    have hk' : k < w * h := by have := ballAt_lt h1; rwa [runD_length, hl] at this
    have : k ∈ idxs isBallC cs := mem_balls.2 (by rw [hb k hk']; exact h1)
    simpa using this
end Go.Proofs.YtdffgeoegdkiaaaGreatDoor

namespace Go.Proofs.YtdffgeoegdkiaaaGreatDoor
open Go.RowKit Go.Proofs.YtdffgeoegdkiaaaGreatDoorW.PrintWords Go.Proofs.YtdffgeoegdkiaaaGreatDoorW.PrintLast Go.Proofs.YtdffgeoegdkiaaaGreatDoorW.PrintMore Go.Lib Go.Maps
def slices_Clone_int.f (l : List Int) : Option (List Int) := if l.length < 65536 then some l else none
theorem slices_Clone_int.calls (A0 : Option Addr) (c0 : Nat) (l0 : List Int) (r : List Int) (w : World) (hr0 : Kd.C (Kd.int .i64) w A0 l0.length l0) (hc0 : l0.length ≤ c0) (h : slices_Clone_int.f l0 = some r) :
    Calls Tryz.prog 82 #[.slice A0 l0.length c0] w fun e w' => ∃ v_, e = .returned v_ ∧ Kd.R (Kd.int .i64) 3 w' w.heap.size (fun _ => True) v_ r ∧ Below w.heap.size w w' := by
  unfold slices_Clone_int.f at h
  split at h
  case isFalse => cases h
  rename_i hc
  injection h with h
  subst h
  by_cases h0 : l0.length = 0
  · obtain rfl := List.eq_nil_of_length_eq_zero h0
    cases A0 with
    | none =>
      refine (Tryz.slices_Clone_int_nil 0 c0 w).mono ?_
      rintro e w' ⟨rfl, rfl⟩
      exact ⟨_, rfl, Kd.R_of_own (enc := Value.int .i64) (h1 := fun _ => rfl) ⟨by simp [encs], .inl ⟨rfl, rfl⟩⟩ (fun _ _ => trivial), Below.refl _ _⟩
    | some a =>
      refine (Tryz.slices_Clone_int_zero a c0 w).mono ?_
      rintro e w' ⟨v', rfl, ho, _, hb⟩
      exact ⟨v', rfl, Kd.R_of_own (enc := Value.int .i64) (h1 := fun _ => rfl) ho (fun _ _ => trivial), hb⟩
  · obtain ⟨b, o, rfl, hbk, hcells⟩ := C_place hr0 (by omega)
    refine (Tryz.slices_Clone_int b o l0.length c0 l0 w (Nat.le_refl _) (by omega) (fun j hj => ?_)).mono ?_
    · exact hcells j _ (by rw [getD_at hj]; exact List.getElem?_eq_getElem hj)
    · rintro e w' ⟨v', rfl, ho, _, hb⟩
      rw [List.take_of_length_le (Nat.le_refl _)] at ho
      exact ⟨v', rfl, Kd.R_of_own (enc := Value.int .i64) (h1 := fun _ => rfl) ho (fun _ _ => trivial), hb⟩
def lookZ (x : Int) (m : List (Nat × Nat)) : Int := ((m.lookup x.toNat).getD 0 : Nat)
def impl_slideZ.f (a0 a1 : Int) (l : List Int) (d : Int) : Option (List (Nat × Nat)) := if gridI a0 a1 l ∧ isDirC d = true then some (mvD a0.toNat a1.toNat (dirIx d).toNat l) else none
theorem impl_slideZ.calls (a0_0 a0_1 : Int) (A0_2 : Option Addr) (c0_2 : Nat) (l0_2 : List Int) (a1 : Int) (r : List (Nat × Nat)) (w : World) (hr0_2 : Kd.C (Kd.int .u8) w A0_2 l0_2.length l0_2) (hc0_2 : l0_2.length ≤ c0_2) (h : impl_slideZ.f a0_0 a0_1 l0_2 a1 = some r) :
    Calls Tryz.prog 108 #[.agg #[.int .i64 a0_0, .int .i64 a0_1, .slice A0_2 l0_2.length c0_2], .int .u8 a1] w fun e w' => ∃ b, e = .returned (.map (some b)) ∧ MapAt w' b r ∧ (r.map Prod.fst).Nodup ∧ Below w.heap.size w w' := by
  unfold impl_slideZ.f at h
  split at h
  case isFalse => cases h
  rename_i hc
  obtain ⟨⟨hw, hh, hl⟩, hdir⟩ := hc
  injection h with h
  subst h
  obtain ⟨W, rfl⟩ : ∃ n : Nat, a0_0 = n := ⟨a0_0.toNat, by omega⟩
  obtain ⟨H, rfl⟩ : ∃ n : Nat, a0_1 = n := ⟨a0_1.toNat, by omega⟩
  obtain ⟨e1, hd', _⟩ := dirB_ix hdir
  generalize (dirIx a1).toNat = d at *
  subst e1
  simp only [Int.toNat_natCast] at hl ⊢
  refine (slide_calls (by omega) (by omega) hl hd' A0_2 c0_2 w hr0_2 hc0_2).mono ?_
  rintro e w' ⟨b, rfl, _, hm, hb⟩
  exact ⟨b, rfl, hm, mv_fst hd', hb⟩
theorem atKey_lookZ {m : List (Nat × Nat)} (hn : (m.map Prod.fst).Nodup) {x : Int} (hx : 0 ≤ x) : (mapOf m).atKey (.int .i64 x) (.lit (.int .i64 0)) = .lit (.int .i64 (lookZ x m)) := by
  obtain ⟨k, rfl⟩ : ∃ k : Nat, x = k := ⟨x.toNat, by omega⟩
  unfold lookZ
  rw [Int.toNat_natCast]
  by_cases hex : ∃ p ∈ m, p.1 = k
  · obtain ⟨p, hp, rfl⟩ := hex
    exact (atKey_mapOf hn hp _).trans (by rw [lookup_of hn (k := p.1) (j := p.2) hp]; rfl)
  · refine (atKey_none (fun p hp e => hex ⟨p, hp, e⟩) _).trans ?_
    have : m.lookup k = none := by
      rw [List.lookup_eq_none_iff]
      intro p hp
      exact bne_iff_ne.2 fun e => hex ⟨p, hp, e.symm⟩
    rw [this]; rfl
theorem lookZ_of {m : List (Nat × Nat)} (hn : (m.map Prod.fst).Nodup) {x c : Int} (hx : 0 ≤ x) (h : (mapOf m).atKey (.int .i64 x) (.lit (.int .i64 0)) = .lit (.int .i64 c)) : c = lookZ x m := by
  rw [atKey_lookZ hn hx] at h
  injection h with h
  injection h with _ h
  exact h.symm
theorem MapAt.ne {w : World} {b g : Nat} {m : List (Nat × Nat)} {cs : Array Value} {t : TypeId} {f : Nat × Nat} (h : MapAt w b m) (hg : w.heap[g]? = some (.cells cs t f)) : b ≠ g := by
  obtain ⟨n, _, es, clock, h1, _⟩ := h
  intro e
  rw [e, hg] at h1
  cases h1
end Go.Proofs.YtdffgeoegdkiaaaGreatDoor

namespace Go.Proofs.YtdffgeoegdkiaaaGreatDoor.F
open Go.Proofs.YtdffgeoegdkiaaaGreatDoor
open Go.RowKit Go.Proofs.YtdffgeoegdkiaaaGreatDoorW.PrintWords Go.Proofs.YtdffgeoegdkiaaaGreatDoorW.PrintLast Go.Proofs.YtdffgeoegdkiaaaGreatDoorW.PrintMore
attribute [local go_sem] max2_int min2_int max_two min_two max_three min_three max_four min_four
def impl_tray_indices__impl_isBall.l0 : Nat → List Int → List Int → Int → Int → Option (List Int)
 | 0, _, _, _, _ => none
 | k + 1, x5, x10, x11, x12 => if x12 < x11 then (if 0 ≤ x12 then (if x12 < (x10.length : Int) then ((impl_isBall.f (rd x10 x12)).bind fun t106 => (if t106 = true then (if x5.length < 17592186044416 then (impl_tray_indices__impl_isBall.l0 k (x5 ++ [x12]) x10 x11 (wrap64 (x12 + 1))) else (none)) else (impl_tray_indices__impl_isBall.l0 k x5 x10 x11 (wrap64 (x12 + 1))))) else (none)) else (none)) else (some x5)
def impl_tray_indices__impl_isBall.f (k : Nat) (a0_0 : Int) (a0_1 : Int) (l0_2 : List Int)  : Option (List Int) := impl_tray_indices__impl_isBall.l0 k (([] : List Int)) l0_2 (l0_2.length : Int) 0
theorem impl_tray_indices__impl_isBall.mono_l : ∀ k, (∀ y0 y1 y2 y3, LeO (impl_tray_indices__impl_isBall.l0 k y0 y1 y2 y3) (impl_tray_indices__impl_isBall.l0 (k + 1) y0 y1 y2 y3))
 | 0 => fun _ _ _ _ r h => by simp [impl_tray_indices__impl_isBall.l0] at h
 | k + 1 => by
  have ih0 := impl_tray_indices__impl_isBall.mono_l k
  ·intro y0 y1 y2 y3
   unfold impl_tray_indices__impl_isBall.l0
   exact mo
theorem impl_tray_indices__impl_isBall.mono : ∀ a0 a1 a2 k, LeO (impl_tray_indices__impl_isBall.f k a0 a1 a2) (impl_tray_indices__impl_isBall.f (k + 1) a0 a1 a2) := by
 intro a0 a1 a2 k
 have ih0 := impl_tray_indices__impl_isBall.mono_l k
 unfold impl_tray_indices__impl_isBall.f
 exact mo
set_option maxHeartbeats 8000000 in
set_option maxRecDepth 100000 in
theorem impl_tray_indices__impl_isBall.calls (k : Nat) (a0_0 : Int) (a0_1 : Int) (A0_2 : Option Addr) (c0_2 : Nat) (l0_2 : List Int)  (r : List Int) (w : World) (hr0_2 : Kd.C (Kd.int .u8) w A0_2 l0_2.length l0_2) (hc0_2 : l0_2.length ≤ c0_2) (h : impl_tray_indices__impl_isBall.f k a0_0 a0_1 l0_2 = some r) :
  Calls Tryz.prog 106 #[.agg #[.int .i64 a0_0, .int .i64 a0_1, .slice A0_2 l0_2.length c0_2], .func (.func 107) #[] #[]] w fun e w' => ∃ v0_ : Value, e = .returned (v0_) ∧ Kd.R (Kd.int .i64) 3 w' w.heap.size (fun _ => True) v0_ r ∧ Below w.heap.size w w' := by
 have hu93 := Tryz.underlying93
 have HR0_2 := am hr0_2
 have HC0_2 := am hc0_2
 clear hr0_2 hc0_2
 have HB := am (Below.refl w.heap.size w)
 have H : (impl_tray_indices__impl_isBall.l0 k (([] : List Int)) l0_2 (l0_2.length : Int) 0) = some r := h
 clear h
 obtain ⟨y102, hy_⟩ : ∃ y_ : List Int, y_ = (([] : List Int)) := ⟨_, rfl⟩
 replace H : (impl_tray_indices__impl_isBall.l0 k y102 l0_2 (l0_2.length : Int) 0) = some r := aq4
 have Ny102 := am hy_
 clear hy_
 have H' := am H
 clear H
 go_enter Tryz.func106, Tryz.ntmps106
 go_wp2_with (first | ((with_reducible refine gate_dst (N := 2) rfl ?_); refine box_event ?hg (N := 2) ?hd (cs := #[.int .i64 a0_0, .int .i64 a0_1, .slice A0_2 l0_2.length c0_2]) (t := 93) ?hr ?_; (case hd => rfl); (case hg => rfl); (case hr => exact aq15); intro gb101 hg w3 hbox hb; have n0_ := am (below_step aq1 hb); have n1_ := am (hbox); have n2_ := am ((by rw [hg]; exact (below_size aq1) : w.heap.size ≤ gb101)); have n3_ := am ((by rw [hg]; exact (below_size aq1) : w.heap.size ≤ gb101)); clear HB; have HB := n0_; have BK101 := n1_; have GW101 := n2_; have GE101 := n3_; clear n0_ n1_ n2_ n3_; clear hb hbox hg) | ((with_reducible refine gate_dst (N := 8) rfl ?_); refine Kd.R_lit (Kd.int .i64) _ 3 ?hg (N := 8) ?hd (xs := ([] : List Int)) (inner := []) (ok := fun _ => True) (okp := fun _ => True) ?hr ?hp (fun _ hk => hk) trivial (Below.refl _ _) (Nat.le_refl _) (by simp) ?_; (case hd => rfl); (case hg => rfl); (case hr => exact aq15); (case hp => exact (Reps.none _ _)); intro v103 w4 ho5 hb hg_ hnew_; clear hg_ hnew_; (first | rw [← Ny102.out] at ho5 | (simp only [Int.reduceToNat] at ho5; rw [← Ny102.out] at ho5)); have n0_ := am (Kd.R_lower ho5 (below_size aq0)); have n1_ := am (blk_below (g := gb101) (o := .cells #[.int .i64 a0_0, .int .i64 a0_1, .slice A0_2 l0_2.length c0_2] 93 (0, 0)) aq2 hb); have n2_ := am (below_step aq0 hb); clear BK101; clear HB; have HO104 := n0_; have BK101 := n1_; have HB := n2_; clear n0_ n1_ n2_; clear hb ho5; obtain ⟨hcz6_0, hcz6_1, hcz6_2, hfz6_0, hfz6_1, hfz6_2⟩ := blk3_ BK101.out))
 go_loopg [5, 12] k (fun kq v5 v12 w' => ∃ (x5_1 : List Int) (x12_1 : Int), v12 = .int .i64 x12_1 ∧ Aside0 (impl_tray_indices__impl_isBall.l0 kq x5_1 l0_2 (l0_2.length : Int) x12_1 = some r) ∧ Aside0 (kq ≤ k) ∧ Aside0 (Kd.R (Kd.int .i64) 3 w' w.heap.size (fun _ => True) v5 x5_1) ∧ Aside0 (w'.heap[gb101]? = some (.cells #[.int .i64 a0_0, .int .i64 a0_1, (.slice A0_2 l0_2.length c0_2)] 93 (0, 0))) ∧ Aside0 (Below w.heap.size w w'))
 case atStart => exact ⟨(y102), (0), aq7, H', ⟨Nat.le_refl _⟩, ⟨aq42⟩, ⟨aq2⟩, ⟨aq0⟩⟩
 case round =>
  clear H'
  try clear c1
  try clear p2
  try clear hcz6_0
  try clear hcz6_1
  try clear hcz6_2
  try clear hfz6_0
  try clear hfz6_1
  try clear hfz6_2
  obtain ⟨x5_1, x12_1, rfl, HA, HK1, HO_5, BK101, HB⟩ := hrel
  cases gk with
  | zero => exact absurd HA.out (by simp [impl_tray_indices__impl_isBall.l0])
  | succ k1 =>
   have H := HA.out
   clear HA
   simp only [impl_tray_indices__impl_isBall.l0] at H
   by_cases c7 : x12_1 < (l0_2.length : Int)
   ·rw [if_pos c7] at H
    have c7b0 := decide_eq_true c7
    clear c7
    by_cases c8 : 0 ≤ x12_1
    ·rw [if_pos c8] at H
     have c8b0 := decide_eq_true c8
     clear c8
     by_cases c9 : x12_1 < (l0_2.length : Int)
     ·rw [if_pos c9] at H
      have c9b0 := decide_eq_true c9
      clear c9
      obtain ⟨t106, A100, H⟩ := Option.bind_eq_some_iff.mp H
      have A10 := am A100
      clear A100
      by_cases c11 : t106 = true
      ·subst c11
       rw [if_pos rfl] at H
       by_cases c12 : x5_1.length < 17592186044416
       ·rw [if_pos c12] at H
        have LMc12 := am c12
        clear c12
        obtain ⟨y107, hy_⟩ : ∃ y_ : List Int, y_ = (x5_1 ++ [x12_1]) := ⟨_, rfl⟩
        replace H : (impl_tray_indices__impl_isBall.l0 k1 y107 l0_2 (l0_2.length : Int) (wrap64 (x12_1 + 1))) = some r := aq4
        have Ny107 := am hy_
        clear hy_
        have H' := am H
        clear H
        have p105 : 0 ≤ (x12_1 : Int) := of_decide_eq_true aq6
        have q105 : x12_1 < (l0_2.length : Int) := of_decide_eq_true aq6
        obtain ⟨ad105, e105, hx105_0⟩ := Kd.at_int HR0_2.out x12_1 p105 q105
        cases e105
        replace hx105_0 := (HB.out.cell (World.block_lt_of_cell? w _ hx105_0)).trans hx105_0
        replace p105 := eq_true p105
        replace q105 := eq_true q105
        go_wp2_with (first | ((with_reducible refine gate_dst (N := 19) rfl ?_); refine goesT_ (x := .tmp 17) (some 19) rfl rfl Tryz.func107 (by kernel_rfl) rfl #[.int .u8 (rd l0_2 x12_1)] rfl rfl aq5 ?_; (with_reducible refine (impl_isBall.calls (rd l0_2 x12_1) true _ A10.out).mono ?_); rintro e w' ⟨rfl, ⟨nd, rfl⟩⟩; refine ⟨_, rfl, ?_⟩) | ((with_reducible refine gate_builtin (b := .append) (xs := #[.tmp 20, .tmp 22]) rfl ?_); at_builtin; refine Kd.R_append (Kd.int .i64) (w0 := w) w.heap.size rfl (.tmp 20) (.tmp 22) 28 3 (.int .i64 0) 8 rfl Tryz.underlying28 info3 rfl (by decide) (by omega) u5 x5_1 x12_1 [.int .i64 x12_1] (fun _ => True) (fun _ => False) rfl rfl ?aP (fun _ hk => hk.elim) ?aF ?aO ?aB ?aS ?aL ?_; (case aP => exact rfl); (case aB => exact aq0); (case aF => exact aq79); (case aO => exact aq30); (case aS => exact aq71); (case aL => have := LMc12.out; omega); intro v108 w13 ho hb hg hat; rw [← Ny107.out] at ho; have n0_ := am (blk_grown (g := gb101) (o := .cells #[.int .i64 a0_0, .int .i64 a0_1, .slice (some ad105) l0_2.length c0_2] 93 (0, 0)) aq2 hg (Kd.R_ne HO_5.out BK101.out (by decide))); have n1_ := am (hb); have n2_ := am (ho); clear BK101; clear HB; clear HO_5; have BK101 := n0_; have HB := n1_; have HO109 := n2_; clear n0_ n1_ n2_; clear ho hb hg hat))
        go_roundg k1
        case measure => have := HK1.out; omega
        case rel => exact ⟨(y107), (wrap64 (x12_1 + 1)), aq7, H', ⟨aq70⟩, ⟨aq49⟩, ⟨aq2⟩, ⟨aq0⟩⟩
       ·rw [if_neg c12] at H
        exact absurd H (by simp)
      ·replace c11 := Bool.eq_false_iff.mpr c11
       subst c11
       rw [if_neg Bool.false_ne_true] at H
       have H' := am H
       clear H
       have p105 : 0 ≤ (x12_1 : Int) := of_decide_eq_true aq6
       have q105 : x12_1 < (l0_2.length : Int) := of_decide_eq_true aq6
       obtain ⟨ad105, e105, hx105_0⟩ := Kd.at_int HR0_2.out x12_1 p105 q105
       cases e105
       replace hx105_0 := (HB.out.cell (World.block_lt_of_cell? w _ hx105_0)).trans hx105_0
       replace p105 := eq_true p105
       replace q105 := eq_true q105
       go_wp2_with (first | ((with_reducible refine gate_dst (N := 19) rfl ?_); refine goesT_ (x := .tmp 17) (some 19) rfl rfl Tryz.func107 (by kernel_rfl) rfl #[.int .u8 (rd l0_2 x12_1)] rfl rfl aq5 ?_; (with_reducible refine (impl_isBall.calls (rd l0_2 x12_1) false _ A10.out).mono ?_); rintro e w' ⟨rfl, ⟨nd, rfl⟩⟩; refine ⟨_, rfl, ?_⟩))
       go_roundg k1
       case measure => have := HK1.out; omega
       case rel => exact ⟨(x5_1), (wrap64 (x12_1 + 1)), aq7, H', ⟨aq70⟩, ⟨aq30⟩, ⟨aq2⟩, ⟨aq0⟩⟩
     ·rw [if_neg c9] at H
      exact absurd H (by simp)
    ·rw [if_neg c8] at H
     exact absurd H (by simp)
   ·rw [if_neg c7] at H
    have c7b0 := decide_eq_false c7
    clear c7
    obtain rfl := Option.some.inj H
    go_wp2
    go_ret
    exact ⟨_, aq8, aq30, aq0⟩
end Go.Proofs.YtdffgeoegdkiaaaGreatDoor.F
