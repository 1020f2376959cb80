/- The proof that the law's row holds, part 3: the kit's words, the printed walks and the plain law. No conditions beyond the card's own. -/
import Derived.StillTailTactics
import Derived.Deep.RegionHeld3
import Derived.Lib.SlBytesConst
import Derived.Laws.BitsLemmas
import Derived.Laws.Bits64
import Derived.Lib.SlicesCompact
import Derived.Test.YtdffgeoegdkiaaaGreatDoorM0
import Derived.Test.YtdffgeoegdkiaaaGreatDoorM1
import Derived.Test.YtdffgeoegdkiaaaGreatDoorM2
set_option linter.unusedVariables false
set_option linter.unusedSimpArgs false
namespace Go.Proofs.YtdffgeoegdkiaaaGreatDoor.F
open Go.Proofs.YtdffgeoegdkiaaaGreatDoor
open Go.RowKit Go.Proofs.YtdffgeoegdkiaaaGreatDoorW.PrintWords Go.Proofs.YtdffgeoegdkiaaaGreatDoorW.PrintLast Go.Proofs.YtdffgeoegdkiaaaGreatDoorW.PrintMore
attribute [local go_sem] max2_int min2_int max_two min_two max_three min_three max_four min_four
mutual
def impl_tray_lines.j0 : Nat → Int → List (List Int) → Int → Int → Bool → Int → Int → List Int → Option ((List (List Int)))
 | 0, _, _, _, _, _, _, _, _ => none
 | k + 1, x1, x5, x6, x7, x21, x102000, x102001, x102002 => if x21 = true then (impl_tray_lines.j1 k x1 x5 x102000 x102001 x102000 x102001 x102002) else (impl_tray_lines.j1 k x1 x5 x6 x7 x102000 x102001 x102002)
def impl_tray_lines.j1 : Nat → Int → List (List Int) → Int → Int → Int → Int → List Int → Option ((List (List Int)))
 | 0, _, _, _, _, _, _, _ => none
 | k + 1, x1, x5, x6, x7, x102000, x102001, x102002 => impl_tray_lines.l0 k x1 x5 x7 x6 0 x102000 x102001 x102002
def impl_tray_lines.l0 : Nat → Int → List (List Int) → Int → Int → Int → Int → Int → List Int → Option ((List (List Int)))
 | 0, _, _, _, _, _, _, _, _ => none
 | k + 1, x1, x5, x7, x26, x27, x102000, x102001, x102002 => if x27 < x26 then (impl_tray_lines.l1 k x1 x5 x7 x27 (([] : List Int)) x26 x27 x7 0 x102000 x102001 x102002) else (some x5)
def impl_tray_lines.l1 : Nat → Int → List (List Int) → Int → Int → List Int → Int → Int → Int → Int → Int → Int → List Int → Option ((List (List Int)))
 | 0, _, _, _, _, _, _, _, _, _, _, _, _ => none
 | k + 1, x1, x5, x7, x8, x9, x26, x27, x31, x32, x102000, x102001, x102002 => if x32 < x31 then (if x1 = 117 then (impl_tray_lines.j4 k x1 x5 x7 x8 x9 x32 x26 x27 x31 x32 true x102000 x102001 x102002) else (impl_tray_lines.j4 k x1 x5 x7 x8 x9 x32 x26 x27 x31 x32 (x1 == 100) x102000 x102001 x102002)) else (if x1 = 114 then ((slices_Reverse_int_int.f k x9).bind fun t108 => (if x5.length < 5864062014805 then (impl_tray_lines.l0 k x1 (x5 ++ [t108]) x7 x26 (wrap64 (x27 + 1)) x102000 x102001 x102002) else (none))) else (if x1 = 100 then ((slices_Reverse_int_int.f k x9).bind fun t112 => (if x5.length < 5864062014805 then (impl_tray_lines.l0 k x1 (x5 ++ [t112]) x7 x26 (wrap64 (x27 + 1)) x102000 x102001 x102002) else (none))) else (if x5.length < 5864062014805 then (impl_tray_lines.l0 k x1 (x5 ++ [x9]) x7 x26 (wrap64 (x27 + 1)) x102000 x102001 x102002) else (none))))
def impl_tray_lines.j4 : Nat → Int → List (List Int) → Int → Int → List Int → Int → Int → Int → Int → Int → Bool → Int → Int → List Int → Option ((List (List Int)))
 | 0, _, _, _, _, _, _, _, _, _, _, _, _, _, _ => none
 | k + 1, x1, x5, x7, x8, x9, x10, x26, x27, x31, x32, x40, x102000, x102001, x102002 => if x40 = true then ((impl_tray_number.f x102000 x102001 x102002 x8 x10).bind fun t119 => (if x9.length < 17592186044416 then (impl_tray_lines.l1 k x1 x5 x7 x8 (x9 ++ [t119]) x26 x27 x31 (wrap64 (x32 + 1)) x102000 x102001 x102002) else (none))) else ((impl_tray_number.f x102000 x102001 x102002 x10 x8).bind fun t123 => (if x9.length < 17592186044416 then (impl_tray_lines.l1 k x1 x5 x7 x8 (x9 ++ [t123]) x26 x27 x31 (wrap64 (x32 + 1)) x102000 x102001 x102002) else (none)))
end
def impl_tray_lines.f (k : Nat) (a0_0 : Int) (a0_1 : Int) (l0_2 : List Int) (a1 : Int) : Option ((List (List Int))) := (some (([] : List (List Int)) : List (List Int))).bind fun y102 => (if a1 = 117 then (impl_tray_lines.j0 k a1 y102 a0_1 a0_0 true a0_0 a0_1 l0_2) else (impl_tray_lines.j0 k a1 y102 a0_1 a0_0 (a1 == 100) a0_0 a0_1 l0_2))
theorem impl_tray_lines.mono_l : ∀ k, (∀ y0 y1 y2 y3 y4 y5 y6 y7, LeO (impl_tray_lines.j0 k y0 y1 y2 y3 y4 y5 y6 y7) (impl_tray_lines.j0 (k + 1) y0 y1 y2 y3 y4 y5 y6 y7)) ∧ (∀ y0 y1 y2 y3 y4 y5 y6, LeO (impl_tray_lines.j1 k y0 y1 y2 y3 y4 y5 y6) (impl_tray_lines.j1 (k + 1) y0 y1 y2 y3 y4 y5 y6)) ∧ (∀ y0 y1 y2 y3 y4 y5 y6 y7, LeO (impl_tray_lines.l0 k y0 y1 y2 y3 y4 y5 y6 y7) (impl_tray_lines.l0 (k + 1) y0 y1 y2 y3 y4 y5 y6 y7)) ∧ (∀ y0 y1 y2 y3 y4 y5 y6 y7 y8 y9 y10 y11, LeO (impl_tray_lines.l1 k y0 y1 y2 y3 y4 y5 y6 y7 y8 y9 y10 y11) (impl_tray_lines.l1 (k + 1) y0 y1 y2 y3 y4 y5 y6 y7 y8 y9 y10 y11)) ∧ (∀ y0 y1 y2 y3 y4 y5 y6 y7 y8 y9 y10 y11 y12 y13, LeO (impl_tray_lines.j4 k y0 y1 y2 y3 y4 y5 y6 y7 y8 y9 y10 y11 y12 y13) (impl_tray_lines.j4 (k + 1) y0 y1 y2 y3 y4 y5 y6 y7 y8 y9 y10 y11 y12 y13))
 | 0 => ⟨fun _ _ _ _ _ _ _ _ r h => by simp [impl_tray_lines.j0] at h, fun _ _ _ _ _ _ _ r h => by simp [impl_tray_lines.j1] at h, fun _ _ _ _ _ _ _ _ r h => by simp [impl_tray_lines.l0] at h, fun _ _ _ _ _ _ _ _ _ _ _ _ r h => by simp [impl_tray_lines.l1] at h, fun _ _ _ _ _ _ _ _ _ _ _ _ _ _ r h => by simp [impl_tray_lines.j4] at h⟩
 | k + 1 => by
  obtain ⟨ih0, ih1, ih2, ih3, ih4⟩ := impl_tray_lines.mono_l k
  refine ⟨?_, ?_, ?_, ?_, ?_⟩
  ·intro y0 y1 y2 y3 y4 y5 y6 y7
   unfold impl_tray_lines.j0
   have im0 := @slices_Reverse_int_int.mono; exact mo
  ·intro y0 y1 y2 y3 y4 y5 y6
   unfold impl_tray_lines.j1
   have im0 := @slices_Reverse_int_int.mono; exact mo
  ·intro y0 y1 y2 y3 y4 y5 y6 y7
   unfold impl_tray_lines.l0
   have im0 := @slices_Reverse_int_int.mono; exact mo
  ·intro y0 y1 y2 y3 y4 y5 y6 y7 y8 y9 y10 y11
   unfold impl_tray_lines.l1
   have im0 := @slices_Reverse_int_int.mono; exact mo
  ·intro y0 y1 y2 y3 y4 y5 y6 y7 y8 y9 y10 y11 y12 y13
   unfold impl_tray_lines.j4
   have im0 := @slices_Reverse_int_int.mono; exact mo
theorem impl_tray_lines.mono : ∀ a0 a1 a2 a3 k, LeO (impl_tray_lines.f k a0 a1 a2 a3) (impl_tray_lines.f (k + 1) a0 a1 a2 a3) := by
 intro a0 a1 a2 a3 k
 obtain ⟨ih0, ih1, ih2, ih3, ih4⟩ := impl_tray_lines.mono_l k
 unfold impl_tray_lines.f
 have im0 := @slices_Reverse_int_int.mono; exact mo
set_option maxHeartbeats 8000000 in
set_option maxRecDepth 100000 in
theorem impl_tray_lines.calls (k : Nat) (a0_0 : Int) (a0_1 : Int) (A0_2 : Option Addr) (c0_2 : Nat) (l0_2 : List Int) (a1 : Int) (r : List (List Int)) (w : World) (hr0_2 : Kd.C (Kd.int .u8) w A0_2 l0_2.length l0_2) (hc0_2 : l0_2.length ≤ c0_2) (h : impl_tray_lines.f k a0_0 a0_1 l0_2 a1 = some r) :
  Calls Tryz.prog 181 #[.agg #[.int .i64 a0_0, .int .i64 a0_1, .slice A0_2 l0_2.length c0_2], .int .u8 a1] w fun e w' => ∃ v0_ : Value, e = .returned (v0_) ∧ Kd.S (Kd.slice 3 (Kd.int .i64)) 28 w' w.heap.size (fun _ => True) v0_ r ∧ Below w.heap.size w w' := by
 have hu93 := Tryz.underlying93
 have HR0_2 := am hr0_2
 have HC0_2 := am hc0_2
 clear hr0_2 hc0_2
 have HB := am (Below.refl w.heap.size w)
 have H : ((some (([] : List (List Int)) : List (List Int))).bind fun y102 => (if a1 = 117 then (impl_tray_lines.j0 k a1 y102 a0_1 a0_0 true a0_0 a0_1 l0_2) else (impl_tray_lines.j0 k a1 y102 a0_1 a0_0 (a1 == 100) a0_0 a0_1 l0_2))) = some r := h
 clear h
 obtain ⟨y102, hy_⟩ : ∃ y_ : List (List Int), y_ = (([] : List (List Int))) := ⟨_, rfl⟩
 replace H : (if a1 = 117 then (impl_tray_lines.j0 k a1 y102 a0_1 a0_0 true a0_0 a0_1 l0_2) else (impl_tray_lines.j0 k a1 y102 a0_1 a0_0 (a1 == 100) a0_0 a0_1 l0_2)) = some r := aq3
 have Ny102 := am hy_
 clear hy_
 have HC3 := am H
 clear H
 go_enter Tryz.func181, Tryz.ntmps181
 go_upto_region 3 with (first | ((with_reducible refine gate_dst (N := 2) rfl ?_); refine box_event ?hg (N := 2) ?hd (cs := #[.int .i64 a0_0, .int .i64 a0_1, .slice A0_2 l0_2.length c0_2]) (t := 93) ?hr ?_; (case hd => rfl); (case hg => rfl); (case hr => exact aq19); intro gb101 hg w4 hbox hb; have n0_ := am (below_step aq1 hb); have n1_ := am (hbox); have n2_ := am ((by rw [hg]; exact (below_size aq1) : w.heap.size ≤ gb101)); have n3_ := am ((by rw [hg]; exact (below_size aq1) : w.heap.size ≤ gb101)); clear HB; have HB := n0_; have BK101 := n1_; have GW101 := n2_; have GE101 := n3_; clear n0_ n1_ n2_ n3_; clear hb hbox hg) | ((with_reducible refine gate_dst (N := 11) rfl ?_); refine Kd.S_lit (Kd.slice 3 (Kd.int .i64)) _ 28 ?hg (N := 11) ?hd (xs := ([] : List (List Int))) (inner := []) (ok := fun _ => True) (okp := fun _ => True) ?hr ?hp (fun _ hk => hk) trivial (Below.refl _ _) (Nat.le_refl _) (by simp) ?_; (case hd => rfl); (case hg => rfl); (case hr => exact aq19); (case hp => exact aq102); intro v103 w5 ho6 hb hg_ hnew_; clear hg_ hnew_; (first | rw [← Ny102.out] at ho6 | (simp only [Int.reduceToNat] at ho6; rw [← Ny102.out] at ho6)); have n0_ := am (Kd.S_lower ho6 (below_size aq0)); have n1_ := am (blk_below (g := gb101) (o := .cells #[.int .i64 a0_0, .int .i64 a0_1, .slice A0_2 l0_2.length c0_2] 93 (0, 0)) aq2 hb); have n2_ := am (below_step aq0 hb); clear BK101; clear HB; have HO104 := n0_; have BK101 := n1_; have HB := n2_; clear n0_ n1_ n2_; clear hb ho6; obtain ⟨hcz7_0, hcz7_1, hcz7_2, hfz7_0, hfz7_1, hfz7_2⟩ := blk3_ BK101.out))
 repeat (go_quiet (first | ((with_reducible refine gate_dst (N := 2) rfl ?_); refine box_event ?hg (N := 2) ?hd (cs := #[.int .i64 a0_0, .int .i64 a0_1, .slice A0_2 l0_2.length c0_2]) (t := 93) ?hr ?_; (case hd => rfl); (case hg => rfl); (case hr => exact aq19); intro gb101 hg w4 hbox hb; have n0_ := am (below_step aq1 hb); have n1_ := am (hbox); have n2_ := am ((by rw [hg]; exact (below_size aq1) : w.heap.size ≤ gb101)); have n3_ := am ((by rw [hg]; exact (below_size aq1) : w.heap.size ≤ gb101)); clear HB; have HB := n0_; have BK101 := n1_; have GW101 := n2_; have GE101 := n3_; clear n0_ n1_ n2_ n3_; clear hb hbox hg) | ((with_reducible refine gate_dst (N := 11) rfl ?_); refine Kd.S_lit (Kd.slice 3 (Kd.int .i64)) _ 28 ?hg (N := 11) ?hd (xs := ([] : List (List Int))) (inner := []) (ok := fun _ => True) (okp := fun _ => True) ?hr ?hp (fun _ hk => hk) trivial (Below.refl _ _) (Nat.le_refl _) (by simp) ?_; (case hd => rfl); (case hg => rfl); (case hr => exact aq19); (case hp => exact aq102); intro v103 w5 ho6 hb hg_ hnew_; clear hg_ hnew_; (first | rw [← Ny102.out] at ho6 | (simp only [Int.reduceToNat] at ho6; rw [← Ny102.out] at ho6)); have n0_ := am (Kd.S_lower ho6 (below_size aq0)); have n1_ := am (blk_below (g := gb101) (o := .cells #[.int .i64 a0_0, .int .i64 a0_1, .slice A0_2 l0_2.length c0_2] 93 (0, 0)) aq2 hb); have n2_ := am (below_step aq0 hb); clear BK101; clear HB; have HO104 := n0_; have BK101 := n1_; have HB := n2_; clear n0_ n1_ n2_; clear hb ho6; obtain ⟨hcz7_0, hcz7_1, hcz7_2, hfz7_0, hfz7_1, hfz7_2⟩ := blk3_ BK101.out)); go_upto_region 3 with (first | ((with_reducible refine gate_dst (N := 2) rfl ?_); refine box_event ?hg (N := 2) ?hd (cs := #[.int .i64 a0_0, .int .i64 a0_1, .slice A0_2 l0_2.length c0_2]) (t := 93) ?hr ?_; (case hd => rfl); (case hg => rfl); (case hr => exact aq19); intro gb101 hg w4 hbox hb; have n0_ := am (below_step aq1 hb); have n1_ := am (hbox); have n2_ := am ((by rw [hg]; exact (below_size aq1) : w.heap.size ≤ gb101)); have n3_ := am ((by rw [hg]; exact (below_size aq1) : w.heap.size ≤ gb101)); clear HB; have HB := n0_; have BK101 := n1_; have GW101 := n2_; have GE101 := n3_; clear n0_ n1_ n2_ n3_; clear hb hbox hg) | ((with_reducible refine gate_dst (N := 11) rfl ?_); refine Kd.S_lit (Kd.slice 3 (Kd.int .i64)) _ 28 ?hg (N := 11) ?hd (xs := ([] : List (List Int))) (inner := []) (ok := fun _ => True) (okp := fun _ => True) ?hr ?hp (fun _ hk => hk) trivial (Below.refl _ _) (Nat.le_refl _) (by simp) ?_; (case hd => rfl); (case hg => rfl); (case hr => exact aq19); (case hp => exact aq102); intro v103 w5 ho6 hb hg_ hnew_; clear hg_ hnew_; (first | rw [← Ny102.out] at ho6 | (simp only [Int.reduceToNat] at ho6; rw [← Ny102.out] at ho6)); have n0_ := am (Kd.S_lower ho6 (below_size aq0)); have n1_ := am (blk_below (g := gb101) (o := .cells #[.int .i64 a0_0, .int .i64 a0_1, .slice A0_2 l0_2.length c0_2] 93 (0, 0)) aq2 hb); have n2_ := am (below_step aq0 hb); clear BK101; clear HB; have HO104 := n0_; have BK101 := n1_; have HB := n2_; clear n0_ n1_ n2_; clear hb ho6; obtain ⟨hcz7_0, hcz7_1, hcz7_2, hfz7_0, hfz7_1, hfz7_2⟩ := blk3_ BK101.out)))
 (try simp only [Act.put, List.setIfInBounds_toArray, List.set_cons_zero, List.set_cons_succ])
 go_cut [21] (fun v21 wc => ∃ (kq : Nat) (x21_2 : Bool), v21 = .bool x21_2 ∧ Aside0 (impl_tray_lines.j0 kq a1 y102 a0_1 a0_0 x21_2 a0_0 a0_1 l0_2 = some r) ∧ Aside0 (kq ≤ k) ∧ Aside0 (Kd.S (Kd.slice 3 (Kd.int .i64)) 28 wc w.heap.size (fun _ => True) v103 y102) ∧ Aside0 (wc.heap[gb101]? = some (.cells #[.int .i64 a0_0, .int .i64 a0_1, (.slice A0_2 l0_2.length c0_2)] 93 (0, 0))) ∧ Aside0 (Below w.heap.size w wc))
 case first =>
  have H := HC3.out
  clear HC3
  by_cases c8 : a1 = 117
  ·rw [if_pos c8] at H
   have c8b0 := beq_iff_eq.mpr c8
   have c8b1 := bne_eq_false_iff_eq.mpr c8
   clear c8
   (first | rw [c8b0] | (simp only [i64_w, i32_w]; rw [c8b0]) | skip)
   have H' := am H
   clear H
   go_wp2
   repeat (go_quiet (fail); try go_wp2)
   go_meet
   case rel => exact ⟨_, (true), aq6, H', ⟨aq103⟩, ⟨aq70⟩, ⟨aq2⟩, ⟨aq0⟩⟩
  ·rw [if_neg c8] at H
   have c8b0 := beq_eq_false_iff_ne.mpr c8
   have c8b1 := bne_iff_ne.mpr c8
   (first | rw [c8b0] | (simp only [i64_w, i32_w]; rw [c8b0]) | skip)
   have H' := am H
   clear H
   go_wp2
   repeat (go_quiet (fail); try go_wp2)
   go_meet
   case rel => exact ⟨_, ((a1 == 100)), aq6, H', ⟨aq103⟩, ⟨aq70⟩, ⟨aq2⟩, ⟨aq0⟩⟩
 case rest =>
  clear HC3
  try clear c1
  try clear p2
  try clear c8
  try clear c8b0
  try clear c8b1
  try clear hcz7_0
  try clear hcz7_1
  try clear hcz7_2
  try clear hfz7_0
  try clear hfz7_1
  try clear hfz7_2
  obtain ⟨kq, x21_2, rfl, HA, HJ2, HO_5, BK101, HB⟩ := hcut
  cases kq with
  | zero => exact absurd HA.out (by simp [impl_tray_lines.j0])
  | succ kj2 =>
   have H := HA.out
   clear HA
   simp only [impl_tray_lines.j0] at H
   have HC9 := am H
   clear H
   go_upto_if 21 with (fail)
   repeat (go_quiet (fail); go_upto_if 21 with (fail))
   go_cut [6, 7] (fun v6 v7 wc => ∃ (kq : Nat) (x6_8 : Int) (x7_8 : Int), v6 = .int .i64 x6_8 ∧ v7 = .int .i64 x7_8 ∧ Aside0 (impl_tray_lines.j1 kq a1 y102 x6_8 x7_8 a0_0 a0_1 l0_2 = some r) ∧ Aside0 (kq ≤ kj2) ∧ Aside0 (Kd.S (Kd.slice 3 (Kd.int .i64)) 28 wc w.heap.size (fun _ => True) v103 y102) ∧ Aside0 (wc.heap[gb101]? = some (.cells #[.int .i64 a0_0, .int .i64 a0_1, (.slice A0_2 l0_2.length c0_2)] 93 (0, 0))) ∧ Aside0 (Below w.heap.size w wc))
   case first =>
    have H := HC9.out
    clear HC9
    by_cases c10 : x21_2 = true
    ·subst c10
     rw [if_pos rfl] at H
     have H' := am H
     clear H
     obtain ⟨hcz11_0, hcz11_1, hcz11_2, hfz11_0, hfz11_1, hfz11_2⟩ := blk3_ BK101.out
     go_wp2
     repeat (go_quiet (fail); try go_wp2)
     go_meet
     case rel => exact ⟨_, (a0_0), (a0_1), aq6, aq6, H', ⟨by have := HJ2.out; first | omega | exact Nat.le_refl _⟩, ⟨aq25⟩, ⟨aq2⟩, ⟨aq0⟩⟩
    ·replace c10 := Bool.eq_false_iff.mpr c10
     subst c10
     rw [if_neg Bool.false_ne_true] at H
     have H' := am H
     clear H
     go_wp2
     repeat (go_quiet (fail); try go_wp2)
     go_meet
     case rel => exact ⟨_, (a0_1), (a0_0), aq6, aq6, H', ⟨by have := HJ2.out; first | omega | exact Nat.le_refl _⟩, ⟨aq25⟩, ⟨aq2⟩, ⟨aq0⟩⟩
   case rest =>
    clear HC9
    try clear c1
    try clear p2
    try clear c8
    try clear c8b0
    try clear c8b1
    try clear c10
    try clear hcz11_0
    try clear hcz11_1
    try clear hcz11_2
    try clear hcz7_0
    try clear hcz7_1
    try clear hcz7_2
    try clear hfz11_0
    try clear hfz11_1
    try clear hfz11_2
    try clear hfz7_0
    try clear hfz7_1
    try clear hfz7_2
    try clear p2
    obtain ⟨kq, x6_8, x7_8, rfl, rfl, HA, HJ8, HO_5, BK101, HB⟩ := hcut
    cases kq with
    | zero => exact absurd HA.out (by simp [impl_tray_lines.j1])
    | succ kj8 =>
     have H := HA.out
     clear HA
     simp only [impl_tray_lines.j1] at H
     have H' := am H
     clear H
     go_wp2
     repeat (go_quiet (fail); try go_wp2)
     go_loopg [5, 27] kj8 (fun kq v5 v27 w' => ∃ (x5_3 : List (List Int)) (x27_3 : Int), v27 = .int .i64 x27_3 ∧ Aside0 (impl_tray_lines.l0 kq a1 x5_3 x7_8 x6_8 x27_3 a0_0 a0_1 l0_2 = some r) ∧ Aside0 (kq ≤ kj8) ∧ Aside0 (Kd.S (Kd.slice 3 (Kd.int .i64)) 28 w' w.heap.size (fun _ => True) v5 x5_3) ∧ Aside0 (w'.heap[gb101]? = some (.cells #[.int .i64 a0_0, .int .i64 a0_1, (.slice A0_2 l0_2.length c0_2)] 93 (0, 0))) ∧ Aside0 (Below w.heap.size w w'))
     case atStart => exact ⟨(y102), (0), aq6, H', ⟨Nat.le_refl _⟩, ⟨aq25⟩, ⟨aq2⟩, ⟨aq0⟩⟩
     case round =>
      clear H'
      try clear c1
      try clear p2
      try clear c8
      try clear c8b0
      try clear c8b1
      try clear c10
      try clear hcz11_0
      try clear hcz11_1
      try clear hcz11_2
      try clear hcz7_0
      try clear hcz7_1
      try clear hcz7_2
      try clear hfz11_0
      try clear hfz11_1
      try clear hfz11_2
      try clear hfz7_0
      try clear hfz7_1
      try clear hfz7_2
      try clear p2
      obtain ⟨x5_3, x27_3, rfl, HA, HK3, HO_5, BK101, HB⟩ := hrel
      cases gk with
      | zero => exact absurd HA.out (by simp [impl_tray_lines.l0])
      | succ k3 =>
       have H := HA.out
       clear HA
       simp only [impl_tray_lines.l0] at H
       by_cases c12 : x27_3 < x6_8
       ·rw [if_pos c12] at H
        have c12b0 := decide_eq_true c12
        clear c12
        obtain ⟨y105, hy_⟩ : ∃ y_ : List Int, y_ = (([] : List Int)) := ⟨_, rfl⟩
        replace H : (impl_tray_lines.l1 k3 a1 x5_3 x7_8 x27_3 y105 x6_8 x27_3 x7_8 0 a0_0 a0_1 l0_2) = some r := aq3
        have Ny105 := am hy_
        clear hy_
        have H' := am H
        clear H
        go_wp2_with (first | ((with_reducible refine gate_dst (N := 30) rfl ?_); refine Kd.R_lit (Kd.int .i64) _ 3 ?hg (N := 30) ?hd (xs := ([] : List Int)) (inner := []) (ok := fun _ => True) (okp := fun _ => True) ?hr ?hp (fun _ hk => hk) trivial (Below.refl _ _) (Nat.le_refl _) (by simp) ?_; (case hd => rfl); (case hg => rfl); (case hr => exact aq19); (case hp => exact aq102); intro v106 w13 ho14 hb hg_ hnew_; clear hg_ hnew_; (first | rw [← Ny105.out] at ho14 | (simp only [Int.reduceToNat] at ho14; rw [← Ny105.out] at ho14)); have n0_ := am (Kd.S_elder' aq25 (Kd.R_base ho14) hb); have n1_ := am (Kd.R_lower ho14 (below_size aq0)); have n2_ := am (blk_below (g := gb101) (o := .cells #[.int .i64 a0_0, .int .i64 a0_1, .slice A0_2 l0_2.length c0_2] 93 (0, 0)) aq2 hb); have n3_ := am (below_step aq0 hb); clear HO_5; clear BK101; clear HB; have HO_5 := n0_; have HO107 := n1_; have BK101 := n2_; have HB := n3_; clear n0_ n1_ n2_ n3_; clear hb ho14))
        repeat (go_quiet (fail); try go_wp2_with (first | ((with_reducible refine gate_dst (N := 30) rfl ?_); refine Kd.R_lit (Kd.int .i64) _ 3 ?hg (N := 30) ?hd (xs := ([] : List Int)) (inner := []) (ok := fun _ => True) (okp := fun _ => True) ?hr ?hp (fun _ hk => hk) trivial (Below.refl _ _) (Nat.le_refl _) (by simp) ?_; (case hd => rfl); (case hg => rfl); (case hr => exact aq19); (case hp => exact aq102); intro v106 w13 ho14 hb hg_ hnew_; clear hg_ hnew_; (first | rw [← Ny105.out] at ho14 | (simp only [Int.reduceToNat] at ho14; rw [← Ny105.out] at ho14)); have n0_ := am (Kd.S_elder' aq25 (Kd.R_base ho14) hb); have n1_ := am (Kd.R_lower ho14 (below_size aq0)); have n2_ := am (blk_below (g := gb101) (o := .cells #[.int .i64 a0_0, .int .i64 a0_1, .slice A0_2 l0_2.length c0_2] 93 (0, 0)) aq2 hb); have n3_ := am (below_step aq0 hb); clear HO_5; clear BK101; clear HB; have HO_5 := n0_; have HO107 := n1_; have BK101 := n2_; have HB := n3_; clear n0_ n1_ n2_ n3_; clear hb ho14)))
        go_loopg [9, 32] k3 (fun kq v9 v32 w' => ∃ (x9_4 : List Int) (x32_4 : Int), v32 = .int .i64 x32_4 ∧ Aside0 (impl_tray_lines.l1 kq a1 x5_3 x7_8 x27_3 x9_4 x6_8 x27_3 x7_8 x32_4 a0_0 a0_1 l0_2 = some r) ∧ Aside0 (kq ≤ k3) ∧ Aside0 (Kd.S (Kd.slice 3 (Kd.int .i64)) 28 w' w.heap.size (fun k_ => some k_ ≠ (v9 : Value).ownBlock) u5 x5_3) ∧ Aside0 (Kd.R (Kd.int .i64) 3 w' w.heap.size (fun _ => True) v9 x9_4) ∧ Aside0 (w'.heap[gb101]? = some (.cells #[.int .i64 a0_0, .int .i64 a0_1, (.slice A0_2 l0_2.length c0_2)] 93 (0, 0))) ∧ Aside0 (Below w.heap.size w w'))
        case atStart => exact ⟨(y105), (0), aq6, H', ⟨Nat.le_refl _⟩, ⟨aq57⟩, ⟨by (with_reducible repeat (first | apply Kd.R_alloc | apply Kd.R_drewN | apply Kd.R_drew)); exact HO107.out⟩, ⟨aq2⟩, ⟨aq0⟩⟩
        case round =>
         clear H'
         try clear c1
         try clear p2
         try clear c8
         try clear c8b0
         try clear c8b1
         try clear c10
         try clear c12
         try clear c12b0
         try clear hcz11_0
         try clear hcz11_1
         try clear hcz11_2
         try clear hcz7_0
         try clear hcz7_1
         try clear hcz7_2
         try clear hfz11_0
         try clear hfz11_1
         try clear hfz11_2
         try clear hfz7_0
         try clear hfz7_1
         try clear hfz7_2
         try clear p2
         obtain ⟨x9_4, x32_4, rfl, HA, HK4, HO_5, HO_9, BK101, HB⟩ := hrel
         cases gk with
         | zero => exact absurd HA.out (by simp [impl_tray_lines.l1])
         | succ k4 =>
          have H := HA.out
          clear HA
          simp only [impl_tray_lines.l1] at H
          by_cases c15 : x32_4 < x7_8
          ·rw [if_pos c15] at H
           have c15b0 := decide_eq_true c15
           clear c15
           have HC16 := am H
           clear H
           go_upto_region 12 with (fail)
           repeat (go_quiet (fail); go_upto_region 12 with (fail))
           go_cut [40] (fun v40 wc => ∃ (kq : Nat) (x40_15 : Bool), v40 = .bool x40_15 ∧ Aside0 (impl_tray_lines.j4 kq a1 x5_3 x7_8 x27_3 x9_4 x32_4 x6_8 x27_3 x7_8 x32_4 x40_15 a0_0 a0_1 l0_2 = some r) ∧ Aside0 (kq ≤ k4) ∧ Aside0 (Kd.S (Kd.slice 3 (Kd.int .i64)) 28 wc w.heap.size (fun k_ => some k_ ≠ (u9 : Value).ownBlock) u5 x5_3) ∧ Aside0 (Kd.R (Kd.int .i64) 3 wc w.heap.size (fun _ => True) u9 x9_4) ∧ Aside0 (wc.heap[gb101]? = some (.cells #[.int .i64 a0_0, .int .i64 a0_1, (.slice A0_2 l0_2.length c0_2)] 93 (0, 0))) ∧ Aside0 (Below w.heap.size w wc))
           case first =>
            have H := HC16.out
            clear HC16
            by_cases c17 : a1 = 117
            ·rw [if_pos c17] at H
             have c17b0 := beq_iff_eq.mpr c17
             have c17b1 := bne_eq_false_iff_eq.mpr c17
             clear c17
             (first | rw [c17b0] | (simp only [i64_w, i32_w]; rw [c17b0]) | skip)
             have H' := am H
             clear H
             go_wp2
             repeat (go_quiet (fail); try go_wp2)
             go_meet
             case rel => exact ⟨_, (true), aq6, H', ⟨by have := HJ2.out; have := HJ8.out; have := HK3.out; have := HK4.out; first | omega | exact Nat.le_refl _⟩, ⟨aq25⟩, ⟨aq30⟩, ⟨aq2⟩, ⟨aq0⟩⟩
            ·rw [if_neg c17] at H
             have c17b0 := beq_eq_false_iff_ne.mpr c17
             have c17b1 := bne_iff_ne.mpr c17
             (first | rw [c17b0] | (simp only [i64_w, i32_w]; rw [c17b0]) | skip)
             have H' := am H
             clear H
             go_wp2
             repeat (go_quiet (fail); try go_wp2)
             go_meet
             case rel => exact ⟨_, ((a1 == 100)), aq6, H', ⟨by have := HJ2.out; have := HJ8.out; have := HK3.out; have := HK4.out; first | omega | exact Nat.le_refl _⟩, ⟨aq25⟩, ⟨aq30⟩, ⟨aq2⟩, ⟨aq0⟩⟩
           case rest =>
            clear HC16
            try clear c1
            try clear p2
            try clear c8
            try clear c8b0
            try clear c8b1
            try clear c10
            try clear c12
            try clear c12b0
            try clear c15
            try clear c15b0
            try clear c17
            try clear c17b0
            try clear c17b1
            try clear hcz11_0
            try clear hcz11_1
            try clear hcz11_2
            try clear hcz7_0
            try clear hcz7_1
            try clear hcz7_2
            try clear hfz11_0
            try clear hfz11_1
            try clear hfz11_2
            try clear hfz7_0
            try clear hfz7_1
            try clear hfz7_2
            try clear p2
            obtain ⟨kq, x40_15, rfl, HA, HJ15, HO_5, HO_9, BK101, HB⟩ := hcut
            cases kq with
            | zero => exact absurd HA.out (by simp [impl_tray_lines.j4])
            | succ kj15 =>
             have H := HA.out
             clear HA
             simp only [impl_tray_lines.j4] at H
             by_cases c18 : x40_15 = true
             ·subst c18
              rw [if_pos rfl] at H
              obtain ⟨t119, A190, H⟩ := Option.bind_eq_some_iff.mp H
              have A19 := am A190
              clear A190
              by_cases c20 : x9_4.length < 17592186044416
              ·rw [if_pos c20] at H
               have LMc20 := am c20
               clear c20
               obtain ⟨y120, hy_⟩ : ∃ y_ : List Int, y_ = (x9_4 ++ [t119]) := ⟨_, rfl⟩
               replace H : (impl_tray_lines.l1 kj15 a1 x5_3 x7_8 x27_3 y120 x6_8 x27_3 x7_8 (wrap64 (x32_4 + 1)) a0_0 a0_1 l0_2) = some r := aq3
               have Ny120 := am hy_
               clear hy_
               have H' := am H
               clear H
               obtain ⟨hcz21_0, hcz21_1, hcz21_2, hfz21_0, hfz21_1, hfz21_2⟩ := blk3_ BK101.out
               go_wp2_with (first | (go_at_call 214; (with_reducible refine (impl_tray_number.calls a0_0 a0_1 _ _ l0_2 x27_3 x32_4 t119 _ ?side1 ?side2 A19.out).mono ?_); (case side1 => exact aq10); (case side2 => exact HC0_2.out); rintro e w22 ⟨rfl, hb⟩; have n0_ := am (Kd.S_below aq25 hb); have n1_ := am (Kd.R_below aq30 hb); have n2_ := am (blk_below (g := gb101) (o := .cells #[.int .i64 a0_0, .int .i64 a0_1, .slice A0_2 l0_2.length c0_2] 93 (0, 0)) aq2 hb); have n3_ := am (below_step aq0 hb); clear HO_5; clear HO_9; clear BK101; clear HB; have HO_5 := n0_; have HO_9 := n1_; have BK101 := n2_; have HB := n3_; clear n0_ n1_ n2_ n3_; (try clear hb); (try clear hb2); (try clear hk); (try clear hi)) | ((with_reducible refine gate_builtin (b := .append) (xs := #[.tmp 41, .tmp 46]) rfl ?_); at_builtin; refine Kd.R_append (Kd.int .i64) (w0 := w) w.heap.size rfl (.tmp 41) (.tmp 46) 28 3 (.int .i64 0) 8 rfl Tryz.underlying28 info3 rfl (by decide) (by omega) u9 x9_4 t119 [.int .i64 t119] (fun _ => True) (fun _ => False) rfl rfl ?aP (fun _ hk => hk.elim) ?aF ?aO ?aB ?aS ?aL ?_; (case aP => exact rfl); (case aB => exact aq0); (case aF => exact aq75); (case aO => exact aq30); (case aS => exact aq74); (case aL => have := LMc20.out; omega); intro v121 w23 ho hb hg hat; rw [← Ny120.out] at ho; have n0_ := am (Kd.S_after (ok := (fun _ => True)) aq54 hg hat); have n1_ := am (blk_grown (g := gb101) (o := .cells #[.int .i64 a0_0, .int .i64 a0_1, .slice A0_2 l0_2.length c0_2] 93 (0, 0)) aq2 hg (Kd.R_ne HO_9.out BK101.out (by decide))); have n2_ := am (hb); have n3_ := am (ho); clear HO_5; clear BK101; clear HB; clear HO_9; have HO_5 := n0_; have BK101 := n1_; have HB := n2_; have HO122 := n3_; clear n0_ n1_ n2_ n3_; clear ho hb hg hat))
               repeat (go_quiet (fail); try go_wp2_with (first | (go_at_call 214; (with_reducible refine (impl_tray_number.calls a0_0 a0_1 _ _ l0_2 x27_3 x32_4 t119 _ ?side1 ?side2 A19.out).mono ?_); (case side1 => exact aq10); (case side2 => exact HC0_2.out); rintro e w22 ⟨rfl, hb⟩; have n0_ := am (Kd.S_below aq25 hb); have n1_ := am (Kd.R_below aq30 hb); have n2_ := am (blk_below (g := gb101) (o := .cells #[.int .i64 a0_0, .int .i64 a0_1, .slice A0_2 l0_2.length c0_2] 93 (0, 0)) aq2 hb); have n3_ := am (below_step aq0 hb); clear HO_5; clear HO_9; clear BK101; clear HB; have HO_5 := n0_; have HO_9 := n1_; have BK101 := n2_; have HB := n3_; clear n0_ n1_ n2_ n3_; (try clear hb); (try clear hb2); (try clear hk); (try clear hi)) | ((with_reducible refine gate_builtin (b := .append) (xs := #[.tmp 41, .tmp 46]) rfl ?_); at_builtin; refine Kd.R_append (Kd.int .i64) (w0 := w) w.heap.size rfl (.tmp 41) (.tmp 46) 28 3 (.int .i64 0) 8 rfl Tryz.underlying28 info3 rfl (by decide) (by omega) u9 x9_4 t119 [.int .i64 t119] (fun _ => True) (fun _ => False) rfl rfl ?aP (fun _ hk => hk.elim) ?aF ?aO ?aB ?aS ?aL ?_; (case aP => exact rfl); (case aB => exact aq0); (case aF => exact aq75); (case aO => exact aq30); (case aS => exact aq74); (case aL => have := LMc20.out; omega); intro v121 w23 ho hb hg hat; rw [← Ny120.out] at ho; have n0_ := am (Kd.S_after (ok := (fun _ => True)) aq54 hg hat); have n1_ := am (blk_grown (g := gb101) (o := .cells #[.int .i64 a0_0, .int .i64 a0_1, .slice A0_2 l0_2.length c0_2] 93 (0, 0)) aq2 hg (Kd.R_ne HO_9.out BK101.out (by decide))); have n2_ := am (hb); have n3_ := am (ho); clear HO_5; clear BK101; clear HB; clear HO_9; have HO_5 := n0_; have BK101 := n1_; have HB := n2_; have HO122 := n3_; clear n0_ n1_ n2_ n3_; clear ho hb hg hat)))
               go_roundg kj15
               case measure => have := HJ2.out; have := HJ8.out; have := HK3.out; have := HK4.out; have := HJ15.out; omega
               case rel => exact ⟨(y120), (wrap64 (x32_4 + 1)), aq6, H', ⟨by have := HJ2.out; have := HJ8.out; have := HK3.out; have := HK4.out; have := HJ15.out; omega⟩, ⟨aq57⟩, ⟨by (with_reducible repeat (first | apply Kd.R_alloc | apply Kd.R_drewN | apply Kd.R_drew)); exact HO122.out⟩, ⟨aq2⟩, ⟨aq0⟩⟩
              ·rw [if_neg c20] at H
               exact absurd H (by simp)
             ·replace c18 := Bool.eq_false_iff.mpr c18
              subst c18
              rw [if_neg Bool.false_ne_true] at H
              obtain ⟨t123, A240, H⟩ := Option.bind_eq_some_iff.mp H
              have A24 := am A240
              clear A240
              by_cases c25 : x9_4.length < 17592186044416
              ·rw [if_pos c25] at H
               have LMc25 := am c25
               clear c25
               obtain ⟨y124, hy_⟩ : ∃ y_ : List Int, y_ = (x9_4 ++ [t123]) := ⟨_, rfl⟩
               replace H : (impl_tray_lines.l1 kj15 a1 x5_3 x7_8 x27_3 y124 x6_8 x27_3 x7_8 (wrap64 (x32_4 + 1)) a0_0 a0_1 l0_2) = some r := aq3
               have Ny124 := am hy_
               clear hy_
               have H' := am H
               clear H
               obtain ⟨hcz26_0, hcz26_1, hcz26_2, hfz26_0, hfz26_1, hfz26_2⟩ := blk3_ BK101.out
               go_wp2_with (first | (go_at_call 214; (with_reducible refine (impl_tray_number.calls a0_0 a0_1 _ _ l0_2 x32_4 x27_3 t123 _ ?side1 ?side2 A24.out).mono ?_); (case side1 => exact aq10); (case side2 => exact HC0_2.out); rintro e w27 ⟨rfl, hb⟩; have n0_ := am (Kd.S_below aq25 hb); have n1_ := am (Kd.R_below aq30 hb); have n2_ := am (blk_below (g := gb101) (o := .cells #[.int .i64 a0_0, .int .i64 a0_1, .slice A0_2 l0_2.length c0_2] 93 (0, 0)) aq2 hb); have n3_ := am (below_step aq0 hb); clear HO_5; clear HO_9; clear BK101; clear HB; have HO_5 := n0_; have HO_9 := n1_; have BK101 := n2_; have HB := n3_; clear n0_ n1_ n2_ n3_; (try clear hb); (try clear hb2); (try clear hk); (try clear hi)) | ((with_reducible refine gate_builtin (b := .append) (xs := #[.tmp 48, .tmp 53]) rfl ?_); at_builtin; refine Kd.R_append (Kd.int .i64) (w0 := w) w.heap.size rfl (.tmp 48) (.tmp 53) 28 3 (.int .i64 0) 8 rfl Tryz.underlying28 info3 rfl (by decide) (by omega) u9 x9_4 t123 [.int .i64 t123] (fun _ => True) (fun _ => False) rfl rfl ?aP (fun _ hk => hk.elim) ?aF ?aO ?aB ?aS ?aL ?_; (case aP => exact rfl); (case aB => exact aq0); (case aF => exact aq75); (case aO => exact aq30); (case aS => exact aq74); (case aL => have := LMc25.out; omega); intro v125 w28 ho hb hg hat; rw [← Ny124.out] at ho; have n0_ := am (Kd.S_after (ok := (fun _ => True)) aq54 hg hat); have n1_ := am (blk_grown (g := gb101) (o := .cells #[.int .i64 a0_0, .int .i64 a0_1, .slice A0_2 l0_2.length c0_2] 93 (0, 0)) aq2 hg (Kd.R_ne HO_9.out BK101.out (by decide))); have n2_ := am (hb); have n3_ := am (ho); clear HO_5; clear BK101; clear HB; clear HO_9; have HO_5 := n0_; have BK101 := n1_; have HB := n2_; have HO126 := n3_; clear n0_ n1_ n2_ n3_; clear ho hb hg hat))
               repeat (go_quiet (fail); try go_wp2_with (first | (go_at_call 214; (with_reducible refine (impl_tray_number.calls a0_0 a0_1 _ _ l0_2 x32_4 x27_3 t123 _ ?side1 ?side2 A24.out).mono ?_); (case side1 => exact aq10); (case side2 => exact HC0_2.out); rintro e w27 ⟨rfl, hb⟩; have n0_ := am (Kd.S_below aq25 hb); have n1_ := am (Kd.R_below aq30 hb); have n2_ := am (blk_below (g := gb101) (o := .cells #[.int .i64 a0_0, .int .i64 a0_1, .slice A0_2 l0_2.length c0_2] 93 (0, 0)) aq2 hb); have n3_ := am (below_step aq0 hb); clear HO_5; clear HO_9; clear BK101; clear HB; have HO_5 := n0_; have HO_9 := n1_; have BK101 := n2_; have HB := n3_; clear n0_ n1_ n2_ n3_; (try clear hb); (try clear hb2); (try clear hk); (try clear hi)) | ((with_reducible refine gate_builtin (b := .append) (xs := #[.tmp 48, .tmp 53]) rfl ?_); at_builtin; refine Kd.R_append (Kd.int .i64) (w0 := w) w.heap.size rfl (.tmp 48) (.tmp 53) 28 3 (.int .i64 0) 8 rfl Tryz.underlying28 info3 rfl (by decide) (by omega) u9 x9_4 t123 [.int .i64 t123] (fun _ => True) (fun _ => False) rfl rfl ?aP (fun _ hk => hk.elim) ?aF ?aO ?aB ?aS ?aL ?_; (case aP => exact rfl); (case aB => exact aq0); (case aF => exact aq75); (case aO => exact aq30); (case aS => exact aq74); (case aL => have := LMc25.out; omega); intro v125 w28 ho hb hg hat; rw [← Ny124.out] at ho; have n0_ := am (Kd.S_after (ok := (fun _ => True)) aq54 hg hat); have n1_ := am (blk_grown (g := gb101) (o := .cells #[.int .i64 a0_0, .int .i64 a0_1, .slice A0_2 l0_2.length c0_2] 93 (0, 0)) aq2 hg (Kd.R_ne HO_9.out BK101.out (by decide))); have n2_ := am (hb); have n3_ := am (ho); clear HO_5; clear BK101; clear HB; clear HO_9; have HO_5 := n0_; have BK101 := n1_; have HB := n2_; have HO126 := n3_; clear n0_ n1_ n2_ n3_; clear ho hb hg hat)))
               go_roundg kj15
               case measure => have := HJ2.out; have := HJ8.out; have := HK3.out; have := HK4.out; have := HJ15.out; omega
               case rel => exact ⟨(y124), (wrap64 (x32_4 + 1)), aq6, H', ⟨by have := HJ2.out; have := HJ8.out; have := HK3.out; have := HK4.out; have := HJ15.out; omega⟩, ⟨aq57⟩, ⟨aq78⟩, ⟨aq2⟩, ⟨aq0⟩⟩
              ·rw [if_neg c25] at H
               exact absurd H (by simp)
          ·rw [if_neg c15] at H
           have c15b0 := decide_eq_false c15
           clear c15
           by_cases c29 : a1 = 114
           ·rw [if_pos c29] at H
            have c29b0 := beq_iff_eq.mpr c29
            have c29b1 := bne_eq_false_iff_eq.mpr c29
            clear c29
            obtain ⟨t108, A300, H⟩ := Option.bind_eq_some_iff.mp H
            have A30 := am A300
            clear A300
            by_cases c31 : x5_3.length < 5864062014805
            ·rw [if_pos c31] at H
             have LMc31 := am c31
             clear c31
             obtain ⟨y109, hy_⟩ : ∃ y_ : List (List Int), y_ = (x5_3 ++ [t108]) := ⟨_, rfl⟩
             replace H : (impl_tray_lines.l0 k4 a1 y109 x7_8 x6_8 (wrap64 (x27_3 + 1)) a0_0 a0_1 l0_2) = some r := aq3
             have Ny109 := am hy_
             clear hy_
             have H' := am H
             clear H
             obtain ⟨Ao32, co32, eo32⟩ := Kd.R_slice HO_9.out
             subst eo32
             go_wp2_with (first | (go_at_call 215; (with_reducible refine (slices_Reverse_int_int.calls k4 (fun k_ => some k_ = (.slice Ao32 x9_4.length co32 : Value).ownBlock) (.slice Ao32 x9_4.length co32) x9_4 t108 w _ ?side1 ?side2 A30.out).mono ?_); (case side1 => exact aq0); (case side2 => exact Kd.R_tight rfl HO_9.out); rintro e w33 ⟨rfl, hy0, hb, hkp⟩; have n0_ := am (Kd.S_mono (ok' := fun k_ => some k_ ≠ (.slice Ao32 x9_4.length co32 : Value).ownBlock) (Kd.S_keptB (HO_5.out) hkp (fun k_ hk_ hs_ => (hk_) hs_)) (fun k_ hk_ => hk_.1)); have n1_ := am (Kd.R_reok rfl hy0 (fun k_ e_ => HO_9.out.1 k_ e_)); have n2_ := am (blk_kept aq2 hkp (fun hs_ => (fun e_ => (Kd.R_ne HO_9.out BK101.out (by decide)) e_) hs_)); have n3_ := am (hb); clear HO_5; clear HO_9; clear BK101; clear HB; have HO_5 := n0_; have HO_9 := n1_; have BK101 := n2_; have HB := n3_; clear n0_ n1_ n2_ n3_; (try clear hb); (try clear hkp); (try clear hy0)) | ((with_reducible refine gate_builtin (b := .append) (xs := #[.tmp 64, .tmp 66]) rfl ?_); at_builtin; refine Kd.S_append (Kd.slice 3 (Kd.int .i64)) (w0 := w) w.heap.size rfl (.tmp 64) (.tmp 66) 40 28 (.slice none 0 0) 24 rfl Tryz.underlying40 info28 rfl (by decide) (by omega) u5 x5_3 t108 [.slice Ao32 x9_4.length co32] (fun _ => True) (fun k_ => some k_ = (.slice Ao32 x9_4.length co32 : Value).ownBlock) rfl rfl ?aP (fun k_ hk_ => ((Kd.R_mono (ok' := fun k_ => ((fun _ => True)) k_ ∧ some k_ ≠ (u5 : Value).ownBlock) (Kd.R_apart' (HO_9.out) (Kd.S_typed HO_5.out) (by decide)) (fun k_ hk => ⟨trivial, hk.2⟩))).1 k_ hk_.symm) ?aF ?aO ?aB ?aS ?aL ?_; (case aP => exact aq27); (case aB => exact aq0); (case aF => exact aq75); (case aO => exact aq38); (case aS => exact aq74); (case aL => have := LMc31.out; omega); intro v110 w34 ho hb hg hat; rw [← Ny109.out] at ho; have n0_ := am (blk_grown (g := gb101) (o := .cells #[.int .i64 a0_0, .int .i64 a0_1, .slice A0_2 l0_2.length c0_2] 93 (0, 0)) aq2 hg (Kd.S_ne HO_5.out BK101.out (by decide))); have n1_ := am (hb); have n2_ := am (ho); clear BK101; clear HB; clear HO_5; clear HO_9; have BK101 := n0_; have HB := n1_; have HO111 := n2_; clear n0_ n1_ n2_; clear ho hb hg hat))
             repeat (go_quiet (fail); try go_wp2_with (first | (go_at_call 215; (with_reducible refine (slices_Reverse_int_int.calls k4 (fun k_ => some k_ = (.slice Ao32 x9_4.length co32 : Value).ownBlock) (.slice Ao32 x9_4.length co32) x9_4 t108 w _ ?side1 ?side2 A30.out).mono ?_); (case side1 => exact aq0); (case side2 => exact Kd.R_tight rfl HO_9.out); rintro e w33 ⟨rfl, hy0, hb, hkp⟩; have n0_ := am (Kd.S_mono (ok' := fun k_ => some k_ ≠ (.slice Ao32 x9_4.length co32 : Value).ownBlock) (Kd.S_keptB (HO_5.out) hkp (fun k_ hk_ hs_ => (hk_) hs_)) (fun k_ hk_ => hk_.1)); have n1_ := am (Kd.R_reok rfl hy0 (fun k_ e_ => HO_9.out.1 k_ e_)); have n2_ := am (blk_kept aq2 hkp (fun hs_ => (fun e_ => (Kd.R_ne HO_9.out BK101.out (by decide)) e_) hs_)); have n3_ := am (hb); clear HO_5; clear HO_9; clear BK101; clear HB; have HO_5 := n0_; have HO_9 := n1_; have BK101 := n2_; have HB := n3_; clear n0_ n1_ n2_ n3_; (try clear hb); (try clear hkp); (try clear hy0)) | ((with_reducible refine gate_builtin (b := .append) (xs := #[.tmp 64, .tmp 66]) rfl ?_); at_builtin; refine Kd.S_append (Kd.slice 3 (Kd.int .i64)) (w0 := w) w.heap.size rfl (.tmp 64) (.tmp 66) 40 28 (.slice none 0 0) 24 rfl Tryz.underlying40 info28 rfl (by decide) (by omega) u5 x5_3 t108 [.slice Ao32 x9_4.length co32] (fun _ => True) (fun k_ => some k_ = (.slice Ao32 x9_4.length co32 : Value).ownBlock) rfl rfl ?aP (fun k_ hk_ => ((Kd.R_mono (ok' := fun k_ => ((fun _ => True)) k_ ∧ some k_ ≠ (u5 : Value).ownBlock) (Kd.R_apart' (HO_9.out) (Kd.S_typed HO_5.out) (by decide)) (fun k_ hk => ⟨trivial, hk.2⟩))).1 k_ hk_.symm) ?aF ?aO ?aB ?aS ?aL ?_; (case aP => exact aq27); (case aB => exact aq0); (case aF => exact aq75); (case aO => exact aq38); (case aS => exact aq74); (case aL => have := LMc31.out; omega); intro v110 w34 ho hb hg hat; rw [← Ny109.out] at ho; have n0_ := am (blk_grown (g := gb101) (o := .cells #[.int .i64 a0_0, .int .i64 a0_1, .slice A0_2 l0_2.length c0_2] 93 (0, 0)) aq2 hg (Kd.S_ne HO_5.out BK101.out (by decide))); have n1_ := am (hb); have n2_ := am (ho); clear BK101; clear HB; clear HO_5; clear HO_9; have BK101 := n0_; have HB := n1_; have HO111 := n2_; clear n0_ n1_ n2_; clear ho hb hg hat)))
             go_roundg k4
             case measure => have := HJ2.out; have := HJ8.out; have := HK3.out; have := HK4.out; omega
             case rel => exact ⟨(y109), (wrap64 (x27_3 + 1)), aq6, H', ⟨aq94⟩, ⟨by (with_reducible repeat (first | apply Kd.S_alloc | apply Kd.S_drewN | apply Kd.S_drew)); exact HO111.out⟩, ⟨aq2⟩, ⟨aq0⟩⟩
            ·rw [if_neg c31] at H
             exact absurd H (by simp)
           ·rw [if_neg c29] at H
            have c29b0 := beq_eq_false_iff_ne.mpr c29
            have c29b1 := bne_iff_ne.mpr c29
            by_cases c35 : a1 = 100
            ·rw [if_pos c35] at H
             have c35b0 := beq_iff_eq.mpr c35
             have c35b1 := bne_eq_false_iff_eq.mpr c35
             clear c35
             obtain ⟨t112, A360, H⟩ := Option.bind_eq_some_iff.mp H
             have A36 := am A360
             clear A360
             by_cases c37 : x5_3.length < 5864062014805
             ·rw [if_pos c37] at H
              have LMc37 := am c37
              clear c37
              obtain ⟨y113, hy_⟩ : ∃ y_ : List (List Int), y_ = (x5_3 ++ [t112]) := ⟨_, rfl⟩
              replace H : (impl_tray_lines.l0 k4 a1 y113 x7_8 x6_8 (wrap64 (x27_3 + 1)) a0_0 a0_1 l0_2) = some r := aq3
              have Ny113 := am hy_
              clear hy_
              have H' := am H
              clear H
              obtain ⟨Ao38, co38, eo38⟩ := Kd.R_slice HO_9.out
              subst eo38
              go_wp2_with (first | (go_at_call 215; (with_reducible refine (slices_Reverse_int_int.calls k4 (fun k_ => some k_ = (.slice Ao38 x9_4.length co38 : Value).ownBlock) (.slice Ao38 x9_4.length co38) x9_4 t112 w _ ?side1 ?side2 A36.out).mono ?_); (case side1 => exact aq0); (case side2 => exact Kd.R_tight rfl HO_9.out); rintro e w39 ⟨rfl, hy0, hb, hkp⟩; have n0_ := am (Kd.S_mono (ok' := fun k_ => some k_ ≠ (.slice Ao38 x9_4.length co38 : Value).ownBlock) (Kd.S_keptB (HO_5.out) hkp (fun k_ hk_ hs_ => (hk_) hs_)) (fun k_ hk_ => hk_.1)); have n1_ := am (Kd.R_reok rfl hy0 (fun k_ e_ => HO_9.out.1 k_ e_)); have n2_ := am (blk_kept aq2 hkp (fun hs_ => (fun e_ => (Kd.R_ne HO_9.out BK101.out (by decide)) e_) hs_)); have n3_ := am (hb); clear HO_5; clear HO_9; clear BK101; clear HB; have HO_5 := n0_; have HO_9 := n1_; have BK101 := n2_; have HB := n3_; clear n0_ n1_ n2_ n3_; (try clear hb); (try clear hkp); (try clear hy0)) | ((with_reducible refine gate_builtin (b := .append) (xs := #[.tmp 64, .tmp 66]) rfl ?_); at_builtin; refine Kd.S_append (Kd.slice 3 (Kd.int .i64)) (w0 := w) w.heap.size rfl (.tmp 64) (.tmp 66) 40 28 (.slice none 0 0) 24 rfl Tryz.underlying40 info28 rfl (by decide) (by omega) u5 x5_3 t112 [.slice Ao38 x9_4.length co38] (fun _ => True) (fun k_ => some k_ = (.slice Ao38 x9_4.length co38 : Value).ownBlock) rfl rfl ?aP (fun k_ hk_ => ((Kd.R_mono (ok' := fun k_ => ((fun _ => True)) k_ ∧ some k_ ≠ (u5 : Value).ownBlock) (Kd.R_apart' (HO_9.out) (Kd.S_typed HO_5.out) (by decide)) (fun k_ hk => ⟨trivial, hk.2⟩))).1 k_ hk_.symm) ?aF ?aO ?aB ?aS ?aL ?_; (case aP => exact aq27); (case aB => exact aq0); (case aF => exact aq75); (case aO => exact aq38); (case aS => exact aq74); (case aL => have := LMc37.out; omega); intro v114 w40 ho hb hg hat; rw [← Ny113.out] at ho; have n0_ := am (blk_grown (g := gb101) (o := .cells #[.int .i64 a0_0, .int .i64 a0_1, .slice A0_2 l0_2.length c0_2] 93 (0, 0)) aq2 hg (Kd.S_ne HO_5.out BK101.out (by decide))); have n1_ := am (hb); have n2_ := am (ho); clear BK101; clear HB; clear HO_5; clear HO_9; have BK101 := n0_; have HB := n1_; have HO115 := n2_; clear n0_ n1_ n2_; clear ho hb hg hat))
              repeat (go_quiet (fail); try go_wp2_with (first | (go_at_call 215; (with_reducible refine (slices_Reverse_int_int.calls k4 (fun k_ => some k_ = (.slice Ao38 x9_4.length co38 : Value).ownBlock) (.slice Ao38 x9_4.length co38) x9_4 t112 w _ ?side1 ?side2 A36.out).mono ?_); (case side1 => exact aq0); (case side2 => exact Kd.R_tight rfl HO_9.out); rintro e w39 ⟨rfl, hy0, hb, hkp⟩; have n0_ := am (Kd.S_mono (ok' := fun k_ => some k_ ≠ (.slice Ao38 x9_4.length co38 : Value).ownBlock) (Kd.S_keptB (HO_5.out) hkp (fun k_ hk_ hs_ => (hk_) hs_)) (fun k_ hk_ => hk_.1)); have n1_ := am (Kd.R_reok rfl hy0 (fun k_ e_ => HO_9.out.1 k_ e_)); have n2_ := am (blk_kept aq2 hkp (fun hs_ => (fun e_ => (Kd.R_ne HO_9.out BK101.out (by decide)) e_) hs_)); have n3_ := am (hb); clear HO_5; clear HO_9; clear BK101; clear HB; have HO_5 := n0_; have HO_9 := n1_; have BK101 := n2_; have HB := n3_; clear n0_ n1_ n2_ n3_; (try clear hb); (try clear hkp); (try clear hy0)) | ((with_reducible refine gate_builtin (b := .append) (xs := #[.tmp 64, .tmp 66]) rfl ?_); at_builtin; refine Kd.S_append (Kd.slice 3 (Kd.int .i64)) (w0 := w) w.heap.size rfl (.tmp 64) (.tmp 66) 40 28 (.slice none 0 0) 24 rfl Tryz.underlying40 info28 rfl (by decide) (by omega) u5 x5_3 t112 [.slice Ao38 x9_4.length co38] (fun _ => True) (fun k_ => some k_ = (.slice Ao38 x9_4.length co38 : Value).ownBlock) rfl rfl ?aP (fun k_ hk_ => ((Kd.R_mono (ok' := fun k_ => ((fun _ => True)) k_ ∧ some k_ ≠ (u5 : Value).ownBlock) (Kd.R_apart' (HO_9.out) (Kd.S_typed HO_5.out) (by decide)) (fun k_ hk => ⟨trivial, hk.2⟩))).1 k_ hk_.symm) ?aF ?aO ?aB ?aS ?aL ?_; (case aP => exact aq27); (case aB => exact aq0); (case aF => exact aq75); (case aO => exact aq38); (case aS => exact aq74); (case aL => have := LMc37.out; omega); intro v114 w40 ho hb hg hat; rw [← Ny113.out] at ho; have n0_ := am (blk_grown (g := gb101) (o := .cells #[.int .i64 a0_0, .int .i64 a0_1, .slice A0_2 l0_2.length c0_2] 93 (0, 0)) aq2 hg (Kd.S_ne HO_5.out BK101.out (by decide))); have n1_ := am (hb); have n2_ := am (ho); clear BK101; clear HB; clear HO_5; clear HO_9; have BK101 := n0_; have HB := n1_; have HO115 := n2_; clear n0_ n1_ n2_; clear ho hb hg hat)))
              go_roundg k4
              case measure => have := HJ2.out; have := HJ8.out; have := HK3.out; have := HK4.out; omega
              case rel => exact ⟨(y113), (wrap64 (x27_3 + 1)), aq6, H', ⟨aq94⟩, ⟨by (with_reducible repeat (first | apply Kd.S_alloc | apply Kd.S_drewN | apply Kd.S_drew)); exact HO115.out⟩, ⟨aq2⟩, ⟨aq0⟩⟩
             ·rw [if_neg c37] at H
              exact absurd H (by simp)
            ·rw [if_neg c35] at H
             have c35b0 := beq_eq_false_iff_ne.mpr c35
             have c35b1 := bne_iff_ne.mpr c35
             by_cases c41 : x5_3.length < 5864062014805
             ·rw [if_pos c41] at H
              have LMc41 := am c41
              clear c41
              obtain ⟨y116, hy_⟩ : ∃ y_ : List (List Int), y_ = (x5_3 ++ [x9_4]) := ⟨_, rfl⟩
              replace H : (impl_tray_lines.l0 k4 a1 y116 x7_8 x6_8 (wrap64 (x27_3 + 1)) a0_0 a0_1 l0_2) = some r := aq3
              have Ny116 := am hy_
              clear hy_
              have H' := am H
              clear H
              obtain ⟨Ao43, co43, eo43⟩ := Kd.R_slice HO_9.out
              subst eo43
              go_wp2_with (first | ((with_reducible refine gate_builtin (b := .append) (xs := #[.tmp 64, .tmp 66]) rfl ?_); at_builtin; refine Kd.S_append (Kd.slice 3 (Kd.int .i64)) (w0 := w) w.heap.size rfl (.tmp 64) (.tmp 66) 40 28 (.slice none 0 0) 24 rfl Tryz.underlying40 info28 rfl (by decide) (by omega) u5 x5_3 x9_4 [.slice Ao43 x9_4.length co43] (fun _ => True) (fun k_ => some k_ = (.slice Ao43 x9_4.length co43 : Value).ownBlock) rfl rfl ?aP (fun k_ hk_ => ((Kd.R_mono (ok' := fun k_ => ((fun _ => True)) k_ ∧ some k_ ≠ (u5 : Value).ownBlock) (Kd.R_apart' (HO_9.out) (Kd.S_typed HO_5.out) (by decide)) (fun k_ hk => ⟨trivial, hk.2⟩))).1 k_ hk_.symm) ?aF ?aO ?aB ?aS ?aL ?_; (case aP => exact aq27); (case aB => exact aq0); (case aF => exact aq75); (case aO => exact aq38); (case aS => exact aq74); (case aL => have := LMc41.out; omega); intro v117 w42 ho hb hg hat; rw [← Ny116.out] at ho; have n0_ := am (blk_grown (g := gb101) (o := .cells #[.int .i64 a0_0, .int .i64 a0_1, .slice A0_2 l0_2.length c0_2] 93 (0, 0)) aq2 hg (Kd.S_ne HO_5.out BK101.out (by decide))); have n1_ := am (hb); have n2_ := am (ho); clear BK101; clear HB; clear HO_5; clear HO_9; have BK101 := n0_; have HB := n1_; have HO118 := n2_; clear n0_ n1_ n2_; clear ho hb hg hat))
              repeat (go_quiet (fail); try go_wp2_with (first | ((with_reducible refine gate_builtin (b := .append) (xs := #[.tmp 64, .tmp 66]) rfl ?_); at_builtin; refine Kd.S_append (Kd.slice 3 (Kd.int .i64)) (w0 := w) w.heap.size rfl (.tmp 64) (.tmp 66) 40 28 (.slice none 0 0) 24 rfl Tryz.underlying40 info28 rfl (by decide) (by omega) u5 x5_3 x9_4 [.slice Ao43 x9_4.length co43] (fun _ => True) (fun k_ => some k_ = (.slice Ao43 x9_4.length co43 : Value).ownBlock) rfl rfl ?aP (fun k_ hk_ => ((Kd.R_mono (ok' := fun k_ => ((fun _ => True)) k_ ∧ some k_ ≠ (u5 : Value).ownBlock) (Kd.R_apart' (HO_9.out) (Kd.S_typed HO_5.out) (by decide)) (fun k_ hk => ⟨trivial, hk.2⟩))).1 k_ hk_.symm) ?aF ?aO ?aB ?aS ?aL ?_; (case aP => exact aq27); (case aB => exact aq0); (case aF => exact aq75); (case aO => exact aq38); (case aS => exact aq74); (case aL => have := LMc41.out; omega); intro v117 w42 ho hb hg hat; rw [← Ny116.out] at ho; have n0_ := am (blk_grown (g := gb101) (o := .cells #[.int .i64 a0_0, .int .i64 a0_1, .slice A0_2 l0_2.length c0_2] 93 (0, 0)) aq2 hg (Kd.S_ne HO_5.out BK101.out (by decide))); have n1_ := am (hb); have n2_ := am (ho); clear BK101; clear HB; clear HO_5; clear HO_9; have BK101 := n0_; have HB := n1_; have HO118 := n2_; clear n0_ n1_ n2_; clear ho hb hg hat)))
              go_roundg k4
              case measure => have := HJ2.out; have := HJ8.out; have := HK3.out; have := HK4.out; omega
              case rel => exact ⟨(y116), (wrap64 (x27_3 + 1)), aq6, H', ⟨aq94⟩, ⟨by (with_reducible repeat (first | apply Kd.S_alloc | apply Kd.S_drewN | apply Kd.S_drew)); exact HO118.out⟩, ⟨aq2⟩, ⟨aq0⟩⟩
             ·rw [if_neg c41] at H
              exact absurd H (by simp)
       ·rw [if_neg c12] at H
        have c12b0 := decide_eq_false c12
        clear c12
        obtain rfl := Option.some.inj H
        go_wp2
        repeat (go_quiet (fail); try go_wp2)
        go_ret
        exact ⟨_, aq8, aq25, aq0⟩
end Go.Proofs.YtdffgeoegdkiaaaGreatDoor.F

namespace Go.Proofs.YtdffgeoegdkiaaaGreatDoor
open Go.RowKit Go.Proofs.YtdffgeoegdkiaaaGreatDoorW.PrintWords Go.Proofs.YtdffgeoegdkiaaaGreatDoorW.PrintLast Go.Proofs.YtdffgeoegdkiaaaGreatDoorW.PrintMore Go.Lib Go.Shelf Go.Sort Go.Proofs.YtdffgeoegdkiaaaGreatDoor.F
attribute [local go_sem] max2_int min2_int
theorem putRow_heapE {α : Type} [Inhabited α] (enc : α → Value) (W : World) (n g off k : Nat) (d : Array α) : (putRow enc (Sort.ahead W n) g off d).heap[k]? = if g = k then (W.heap[k]?).map (onCells (putCells enc off d)) else W.heap[k]? := by
  unfold putRow mapBlock
  simp only [Array.getElem?_modify, heap_ahead]
theorem sortWorld_heap {α : Type} [Inhabited α] (enc : α → Value) (W : World) (g m k : Nat) (d : Array α) (os : Array Obj) (hk : k < W.heap.size) : (sortWorld enc W g 0 m d os).heap[k]? = if g = k then (W.heap[k]?).map (onCells (putCells enc 0 d)) else W.heap[k]? := by
  unfold sortWorld
  rw [heap_grow_old _ _ (by simpa [putRow, mapBlock] using hk), putRow_heapE]
theorem sortWorld_size {α : Type} [Inhabited α] (enc : α → Value) (W : World) (g m : Nat) (d : Array α) (os : Array Obj) : W.heap.size ≤ (sortWorld enc W g 0 m d os).heap.size := by
  unfold sortWorld Sort.grow putRow mapBlock
  simp
theorem sortWorld_below {α : Type} [Inhabited α] (enc : α → Value) {w W : World} (g m : Nat) (d : Array α) (os : Array Obj) (hW : Go.RowKit.Below w.heap.size w W) (hg : w.heap.size ≤ g) : Go.RowKit.Below w.heap.size w (sortWorld enc W g 0 m d os) := by
  have h : Go.RowKit.Below w.heap.size W (sortWorld enc W g 0 m d os) := ⟨rfl, rfl, rfl, sortWorld_size enc W g m d os, fun k hk => by
    rw [sortWorld_heap enc W g m k d os (Nat.lt_of_lt_of_le hk hW.size), if_neg (by omega)]⟩
  exact hW.trans h
theorem min_calls {A : Option Addr} {c : Nat} {l : List Int} {w : World} (h : Kd.C (Kd.int .i64) w A l.length l) (hne : l ≠ []) :
    Calls Tryz.prog 184 #[.slice A l.length c] w fun e w' => e = .returned (.int .i64 (Lib.minOf l)) ∧ w' = w := by
  have hpos : 0 < l.length := List.length_pos_iff.2 hne
  obtain ⟨b, o, rfl, hb, hc⟩ := C_place h hpos
  have := Tryz.slices_Min_int b o l.length c l w hpos (Nat.le_refl _) h.2.1 (fun j hj => by rw [hc j _ (List.getElem?_eq_getElem hj), getD_at hj])
  rwa [List.take_length] at this
theorem cmp_calls {A B : Option Addr} {c d : Nat} {l m : List Int} {w : World} (hl : Kd.C (Kd.int .i64) w A l.length l) (hm : Kd.C (Kd.int .i64) w B m.length m) (hle : l ≠ []) (hme : m ≠ []) (h1 : 0 ≤ Lib.minOf l ∧ Lib.minOf l < 65536) (h2 : 0 ≤ Lib.minOf m ∧ Lib.minOf m < 65536) :
    Calls Tryz.prog 183 #[.slice A l.length c, .slice B m.length d] w fun e w' => e = .returned (.int .i64 (Lib.minOf l - Lib.minOf m)) ∧ w' = w := by
  have c1 := min_calls (c := c) hl hle
  have c2 := min_calls (c := d) hm hme
  generalize Lib.minOf l = a at *
  generalize Lib.minOf m = b at *
  have hw : IntKind.i64.wrap (a - b) = a - b := by rw [IntKind.wrap_i64]; omega
  go_enter Tryz.func183, Tryz.ntmps183
  go_wp2_with (first
    | (go_at_call 184; refine c1.mono ?_; rintro e w' ⟨rfl, rfl⟩; clear c1)
    | (go_at_call 184; refine c2.mono ?_; rintro e w' ⟨rfl, rfl⟩))
  go_ret
  exact ⟨by first | rfl | rw [hw] | simp [hw], rfl⟩
theorem ext_all {α : Type} (a : Array α) {n : Nat} (h : a.size = n) : a.extract 0 n = a := by subst h; simp
theorem swo_key {n : Nat} (key : Fin n → Int) : SWO (ltOf fun i j : Fin n => key i - key j) :=
  ⟨fun x => by unfold ltOf; simp, fun x y z h1 h2 => by unfold ltOf at *; simp at *; omega, fun x y z h1 h2 => by unfold ltOf at *; simp at *; omega⟩
set_option maxHeartbeats 1000000 in
theorem sortfunc_calls {W : World} {base : Nat} {v : Value} {xs : List (List Int)} (h : Kd.R (Kd.slice 3 (Kd.int .i64)) 28 W base (fun _ => True) v xs) (hne : ∀ x ∈ xs, x ≠ []) (hlen : xs.length < 65536) (hv : ∀ x ∈ xs, 0 ≤ Lib.minOf x ∧ Lib.minOf x < 65536) :
    Calls Tryz.prog 182 #[v, .func (.func 183) #[] #[]] W fun e w' => e = .returned (.tuple #[]) ∧ ∃ ys, ys.Perm xs ∧ ys.Pairwise (fun a b => Lib.minOf a ≤ Lib.minOf b) ∧ Kd.R (Kd.slice 3 (Kd.int .i64)) 28 w' base (fun _ => True) v ys ∧ (∀ w : World, Go.RowKit.Below w.heap.size w W → w.heap.size ≤ base → Go.RowKit.Below w.heap.size w w') ∧ ∀ k, k < W.heap.size → some k ≠ v.ownBlock → w'.heap[k]? = W.heap[k]? := by
  rcases Nat.eq_zero_or_pos xs.length with hz | hpos
  · obtain rfl : xs = [] := List.eq_nil_of_length_eq_zero hz
    obtain ⟨A, c, hs⟩ := Kd.R_slice h
    subst hs
    refine (Tryz.slices_SortFunc_none (α := Nat) A c _ W).mono ?_
    rintro e w' ⟨rfl, rfl⟩
    exact ⟨rfl, [], List.Perm.refl _, List.Pairwise.nil, h, fun w hw _ => hw, fun k _ _ => rfl⟩
  · obtain ⟨h0, inner, ho, hr⟩ := h
    have hil : inner.length = xs.length := by have := hr.1; rw [show (Kd.slice 3 (Kd.int .i64)).sz = 1 from rfl, Nat.mul_one] at this; exact this
    obtain ⟨_, ⟨rfl, hx⟩ | ⟨g, cap, cur, rfl, hg, hrow, hcl, hcm, hsz, htk⟩⟩ := ho
    · rw [hx] at hil; simp at hil; omega
    · haveI : Inhabited (Fin xs.length) := ⟨⟨0, hpos⟩⟩
      obtain ⟨enc, henc⟩ : ∃ enc : Fin xs.length → Value, ∀ i, enc i = inner[i.1]'(by have := i.2; omega) := ⟨fun i => inner[i.1]'(by have := i.2; omega), fun _ => rfl⟩
      obtain ⟨key, hkey⟩ : ∃ key : Fin xs.length → Int, ∀ i, key i = Lib.minOf xs[i.1] := ⟨fun i => Lib.minOf xs[i.1], fun _ => rfl⟩
      obtain ⟨d0, hd0⟩ : ∃ d0 : Array (Fin xs.length), d0 = Array.ofFn id := ⟨_, rfl⟩
      have hds : d0.size = xs.length := by rw [hd0]; simp
      have hel : ∀ i : Fin xs.length, Kd.R (Kd.int .i64) 3 W base (fun k => True ∧ some k ≠ some g) (enc i) xs[i.1] := fun i => by
        obtain ⟨u, hu, hR⟩ := hr.2 i.1 _ (List.getElem?_eq_getElem i.2)
        have : enc i = u := by
          rw [henc]
          have e : (inner.drop (i.1 * 1)).take 1 = [inner[i.1]'(by have := i.2; omega)] := by
            rw [Nat.mul_one, List.drop_eq_getElem_cons (by have := i.2; omega), List.take_succ_cons]; rfl
          have hu' : (inner.drop (i.1 * 1)).take 1 = [u] := hu
          rw [e] at hu'
          injection hu'
        rw [this]; exact hR
      have hH : Holds enc W g 0 d0 := by
        intro j hj
        have hj' : j < xs.length := by omega
        have e1 : d0[j]! = ⟨j, hj'⟩ := by rw [getElem!_pos d0 j hj]; simp [hd0]
        rw [e1, henc]
        refine ⟨(blk_cell hrow (0 + j)).trans ?_, blk_frozen hrow _⟩
        rw [Nat.zero_add, ← Array.getElem?_toList]
        have : inner[j]? = cur.toList[j]? := by
          rw [← htk, show (Kd.slice 3 (Kd.int .i64)).sz = 1 from rfl, Nat.mul_one, List.getElem?_take, if_pos hj']
        rw [← this]
        exact List.getElem?_eq_getElem _
      have hcmp : CmpLays1 Tryz.prog 183 #[] enc (fun i j => key i - key j) g 0 d0.size W := by
        intro m os dk hs x y
        have at_ : ∀ i : Fin xs.length, ∃ A c, enc i = .slice A xs[i.1].length c ∧ Kd.C (Kd.int .i64) (sortWorld enc W g 0 m dk os) A xs[i.1].length xs[i.1] := fun i => by
          obtain ⟨A, c, e, _, hC⟩ := Kd.R_reads (Kd.R_step (hel i) (w1 := sortWorld enc W g 0 m dk os) (fun k hk hlt => by rw [sortWorld_heap enc W g m k dk os hlt, if_neg (fun e => hk.2 (by rw [e]))]))
          exact ⟨A, c, e, hC⟩
        obtain ⟨A, c, e1, C1⟩ := at_ x
        obtain ⟨B, d, e2, C2⟩ := at_ y
        have m1 := List.getElem_mem x.2
        have m2 := List.getElem_mem y.2
        show Calls _ _ (#[enc x, enc y] ++ #[]) _ _
        rw [e1, e2]
        refine (cmp_calls C1 C2 (hne _ m1) (hne _ m2) (hv _ m1) (hv _ m2)).mono ?_
        rintro e w' ⟨rfl, rfl⟩
        exact ⟨by show _ = Ending.returned (Value.int .i64 (key x - key y)); rw [hkey, hkey], 0, #[], by rw [grow_empty]; rfl⟩
      have eg : ∀ args w, (callFunc 183 args).run Tryz.prog w = .ok (.enter 183 args) w := enters_of Tryz.func183 (by kernel_rfl) rfl
      have h1 : OneCell enc := fun i => by
        obtain ⟨A, c, e⟩ := Kd.R_slice (hel i)
        rw [e]; rfl
      have main := Tryz.slices_SortFunc enc h1 (fun i j => key i - key j) (swo_key key) 183 #[] g 0 cap d0 W eg hcmp hH (blk_lt hrow) (by omega)
      rw [hds] at main
      refine main.mono ?_
      rintro e w' ⟨he, d', n', os, hp, hs, rfl⟩
      have hd' : d'.size = xs.length := by rw [hp.1, hds]
      refine ⟨he, d'.toList.map fun i => xs[i.1], ?_, ?_, ?_, fun w hw hb => sortWorld_below enc g n' d' os hw (Nat.le_trans hb hg), fun k hk hne => by rw [sortWorld_heap enc W g n' k d' os hk, if_neg (fun e => hne (by rw [e]; rfl))]⟩
      · have h2 := hp.2.2
        rw [ext_all d' hd', ext_all d0 hds] at h2
        refine (h2.map _).trans (List.Perm.of_eq ?_)
        subst hd0
        apply List.ext_getElem
        · simp
        · intro i h1 h2; simp
      · rw [List.pairwise_map, List.pairwise_iff_getElem]
        intro i j hi hj hij
        have := hs i j (Nat.zero_le _) hij (by simpa [hd'] using hj)
        rw [getElem!_pos d' i (by simpa using hi), getElem!_pos d' j (by simpa using hj)] at this
        unfold ltOf at this
        simp only [decide_eq_false_iff_not, hkey] at this
        simp only [Array.getElem_toList]
        omega
      · have hyl : (d'.toList.map fun i : Fin xs.length => xs[i.1]).length = xs.length := by rw [List.length_map, Array.length_toList, hd']
        refine ⟨fun _ _ => trivial, d'.toList.map enc, ?_, ?_, ?_⟩
        · rw [hyl]
          refine ⟨by rw [List.length_map, Array.length_toList, hd', show (Kd.slice 3 (Kd.int .i64)).sz = 1 from rfl, Nat.mul_one], .inr ⟨g, cap, putCells enc 0 d' cur, rfl, hg, ?_, hcl, hcm, ?_, ?_⟩⟩
          · rw [sortWorld_heap enc W g n' g d' os (blk_lt hrow), if_pos rfl, hrow]; rfl
          · rw [← hsz]; unfold putCells; simp
          · rw [show (Kd.slice 3 (Kd.int .i64)).sz = 1 from rfl, Nat.mul_one] at hsz ⊢
            unfold putCells
            apply List.ext_getElem
            · simp [hd']; omega
            · intro i h1 h2
              have hi : i < d'.size := by simpa using h2
              simp [hi]
        · rw [List.length_map, List.length_map, show (Kd.slice 3 (Kd.int .i64)).sz = 1 from rfl, Nat.mul_one]
        · intro j p hj
          rw [List.getElem?_map, Option.map_eq_some_iff] at hj
          obtain ⟨i, hi, rfl⟩ := hj
          obtain ⟨hjl, hji⟩ := List.getElem?_eq_some_iff.1 hi
          refine ⟨enc i, ?_, Kd.R_step (hel i) (fun k hk hlt => by rw [sortWorld_heap enc W g n' k d' os hlt, if_neg (fun e => hk.2 (by rw [← e]; rfl))])⟩
          rw [show (Kd.slice 3 (Kd.int .i64)).sz = 1 from rfl, Nat.mul_one, List.drop_eq_getElem_cons (by simpa using hjl), List.take_succ_cons, List.take_zero, List.getElem_map, hji]
end Go.Proofs.YtdffgeoegdkiaaaGreatDoor

namespace Go.Proofs.YtdffgeoegdkiaaaGreatDoor.F
open Go.Proofs.YtdffgeoegdkiaaaGreatDoor
open Go.RowKit Go.Proofs.YtdffgeoegdkiaaaGreatDoorW.PrintWords Go.Proofs.YtdffgeoegdkiaaaGreatDoorW.PrintLast Go.Proofs.YtdffgeoegdkiaaaGreatDoorW.PrintMore
attribute [local go_sem] max2_int min2_int max_two min_two max_three min_three max_four min_four
mutual
def impl_tray_strI.l0 : Nat → List (List Int) → List (List Int) → Int → Int → Int → Int → List Int → Option ((List (List Int)))
 | 0, _, _, _, _, _, _, _ => none
 | k + 1, x5, x14, x15, x16, x102000, x102001, x102002 => if x16 < x15 then (if 0 ≤ x16 then (if x16 < (x14.length : Int) then (impl_tray_strI.l1 k x5 (([] : List Int)) x14 x15 x16 (rd_L3 x14 x16) ((rd_L3 x14 x16).length : Int) 0 x102000 x102001 x102002) else (none)) else (none)) else (some x5)
def impl_tray_strI.l1 : Nat → List (List Int) → List Int → List (List Int) → Int → Int → List Int → Int → Int → Int → Int → List Int → Option ((List (List Int)))
 | 0, _, _, _, _, _, _, _, _, _, _, _ => none
 | k + 1, x5, x8, x14, x15, x16, x21, x22, x23, x102000, x102001, x102002 => if x23 < x22 then (if 0 ≤ x23 then (if x23 < (x21.length : Int) then (if 0 ≤ (rd x21 x23) then (if (rd x21 x23) < (x102002.length : Int) then (if (rd x102002 (rd x21 x23)) = 35 then (if (x8.length : Int) > 0 then (if x5.length < 5864062014805 then (impl_tray_strI.l1 k (x5 ++ [x8]) ([] : List Int) x14 x15 x16 x21 x22 (wrap64 (x23 + 1)) x102000 x102001 x102002) else (none)) else (impl_tray_strI.l1 k x5 x8 x14 x15 x16 x21 x22 (wrap64 (x23 + 1)) x102000 x102001 x102002)) else (if x8.length < 17592186044416 then (impl_tray_strI.l1 k x5 (x8 ++ [rd x21 x23]) x14 x15 x16 x21 x22 (wrap64 (x23 + 1)) x102000 x102001 x102002) else (none))) else (none)) else (none)) else (none)) else (none)) else (if (x8.length : Int) > 0 then (if x5.length < 5864062014805 then (impl_tray_strI.l0 k (x5 ++ [x8]) x14 x15 (wrap64 (x16 + 1)) x102000 x102001 x102002) else (none)) else (impl_tray_strI.l0 k x5 x14 x15 (wrap64 (x16 + 1)) x102000 x102001 x102002))
end
def impl_tray_strI.f (k : Nat) (a0_0 : Int) (a0_1 : Int) (l0_2 : List Int) (a1 : Int) : Option ((List (List Int))) := (impl_tray_lines.f k a0_0 a0_1 l0_2 a1).bind fun t105 => (impl_tray_strI.l0 k (([] : List (List Int))) t105 (t105.length : Int) 0 a0_0 a0_1 l0_2)
theorem impl_tray_strI.mono_l : ∀ k, (∀ y0 y1 y2 y3 y4 y5 y6, LeO (impl_tray_strI.l0 k y0 y1 y2 y3 y4 y5 y6) (impl_tray_strI.l0 (k + 1) y0 y1 y2 y3 y4 y5 y6)) ∧ (∀ y0 y1 y2 y3 y4 y5 y6 y7 y8 y9 y10, LeO (impl_tray_strI.l1 k y0 y1 y2 y3 y4 y5 y6 y7 y8 y9 y10) (impl_tray_strI.l1 (k + 1) y0 y1 y2 y3 y4 y5 y6 y7 y8 y9 y10))
 | 0 => ⟨fun _ _ _ _ _ _ _ r h => by simp [impl_tray_strI.l0] at h, fun _ _ _ _ _ _ _ _ _ _ _ r h => by simp [impl_tray_strI.l1] at h⟩
 | k + 1 => by
  obtain ⟨ih0, ih1⟩ := impl_tray_strI.mono_l k
  refine ⟨?_, ?_⟩
  ·intro y0 y1 y2 y3 y4 y5 y6
   unfold impl_tray_strI.l0
   have im0 := @impl_tray_lines.mono; exact mo
  ·intro y0 y1 y2 y3 y4 y5 y6 y7 y8 y9 y10
   unfold impl_tray_strI.l1
   have im0 := @impl_tray_lines.mono; exact mo
set_option maxHeartbeats 8000000 in
set_option maxRecDepth 100000 in
theorem impl_tray_strI.calls (k : Nat) (a0_0 : Int) (a0_1 : Int) (A0_2 : Option Addr) (c0_2 : Nat) (l0_2 : List Int) (a1 : Int) (r : List (List Int)) (w : World) (hr0_2 : Kd.C (Kd.int .u8) w A0_2 l0_2.length l0_2) (hc0_2 : l0_2.length ≤ c0_2) (hne_ : ∀ x ∈ r, x ≠ []) (hlen_ : r.length < 65536) (hv_ : ∀ x ∈ r, 0 ≤ Go.Lib.minOf x ∧ Go.Lib.minOf x < 65536) (h : impl_tray_strI.f k a0_0 a0_1 l0_2 a1 = some r) :
  Calls Tryz.prog 151 #[.agg #[.int .i64 a0_0, .int .i64 a0_1, .slice A0_2 l0_2.length c0_2], .int .u8 a1] w fun e w' => ∃ v0_ : Value, e = .returned (v0_) ∧ (∃ ys, ys.Perm r ∧ ys.Pairwise (fun a b => Go.Lib.minOf a ≤ Go.Lib.minOf b) ∧ Kd.R (Kd.slice 3 (Kd.int .i64)) 28 w' w.heap.size (fun _ => True) v0_ ys) ∧ Below w.heap.size w w' := by
 have HP_ := am (And.intro hne_ (And.intro hlen_ hv_))
 clear hne_ hlen_ hv_
 have hu93 := Tryz.underlying93
 have HR0_2 := am hr0_2
 have HC0_2 := am hc0_2
 clear hr0_2 hc0_2
 have HB := am (Below.refl w.heap.size w)
 have H : ((impl_tray_lines.f k a0_0 a0_1 l0_2 a1).bind fun t105 => (impl_tray_strI.l0 k (([] : List (List Int))) t105 (t105.length : Int) 0 a0_0 a0_1 l0_2)) = some r := h
 clear h
 obtain ⟨y102, hy_⟩ : ∃ y_ : List (List Int), y_ = (([] : List (List Int))) := ⟨_, rfl⟩
 replace H : ((impl_tray_lines.f k a0_0 a0_1 l0_2 a1).bind fun t105 => (impl_tray_strI.l0 k y102 t105 (t105.length : Int) 0 a0_0 a0_1 l0_2)) = some r := aq3
 have Ny102 := am hy_
 clear hy_
 obtain ⟨t105, A30, H⟩ := Option.bind_eq_some_iff.mp H
 have A3 := am A30
 clear A30
 have H' := am H
 clear H
 go_enter Tryz.func151, Tryz.ntmps151
 go_wp2_with (first | ((with_reducible refine gate_dst (N := 2) rfl ?_); refine box_event ?hg (N := 2) ?hd (cs := #[.int .i64 a0_0, .int .i64 a0_1, .slice A0_2 l0_2.length c0_2]) (t := 93) ?hr ?_; (case hd => rfl); (case hg => rfl); (case hr => exact aq19); intro gb101 hg w4 hbox hb; have n0_ := am (below_step aq1 hb); have n1_ := am (hbox); have n2_ := am ((by rw [hg]; exact (below_size aq1) : w.heap.size ≤ gb101)); have n3_ := am ((by rw [hg]; exact (below_size aq1) : w.heap.size ≤ gb101)); clear HB; have HB := n0_; have BK101 := n1_; have GW101 := n2_; have GE101 := n3_; clear n0_ n1_ n2_ n3_; clear hb hbox hg) | ((with_reducible refine gate_dst (N := 11) rfl ?_); refine Kd.S_lit (Kd.slice 3 (Kd.int .i64)) _ 28 ?hg (N := 11) ?hd (xs := ([] : List (List Int))) (inner := []) (ok := fun _ => True) (okp := fun _ => True) ?hr ?hp (fun _ hk => hk) trivial (Below.refl _ _) (Nat.le_refl _) (by simp) ?_; (case hd => rfl); (case hg => rfl); (case hr => exact aq19); (case hp => exact aq102); intro v103 w5 ho6 hb hg_ hnew_; clear hg_ hnew_; (first | rw [← Ny102.out] at ho6 | (simp only [Int.reduceToNat] at ho6; rw [← Ny102.out] at ho6)); have n0_ := am (Kd.S_lower ho6 (below_size aq0)); have n1_ := am (blk_below (g := gb101) (o := .cells #[.int .i64 a0_0, .int .i64 a0_1, .slice A0_2 l0_2.length c0_2] 93 (0, 0)) aq2 hb); have n2_ := am (below_step aq0 hb); clear BK101; clear HB; have HO104 := n0_; have BK101 := n1_; have HB := n2_; clear n0_ n1_ n2_; clear hb ho6; obtain ⟨hcz7_0, hcz7_1, hcz7_2, hfz7_0, hfz7_1, hfz7_2⟩ := blk3_ BK101.out) | ((with_reducible refine gate_callee (f := 181) rfl ?_); refine goesL_ (some 14) rfl rfl Tryz.func181 (by kernel_rfl) rfl #[.agg #[.int .i64 a0_0, .int .i64 a0_1, .slice A0_2 l0_2.length c0_2], .int .u8 a1] rfl aq4 ?_; (with_reducible refine (impl_tray_lines.calls k a0_0 a0_1 _ _ l0_2 a1 t105 _ ?side1 ?side2 A3.out).mono ?_); (case side1 => exact aq10); (case side2 => exact HC0_2.out); rintro e w8 ⟨v106, rfl, ho0, hb⟩; refine ⟨_, rfl, ?_⟩; have n0_ := am (Kd.S_elder' aq70 (Kd.S_base ho0) hb); have n1_ := am (Kd.S_lower (Kd.S_new' ho0 (Kd.S_lt aq70)) (below_size aq0)); have n2_ := am (blk_below (g := gb101) (o := .cells #[.int .i64 a0_0, .int .i64 a0_1, .slice A0_2 l0_2.length c0_2] 93 (0, 0)) aq2 hb); have n3_ := am (below_step aq0 hb); clear HO104; clear BK101; clear HB; have HO104 := n0_; have HO107 := n1_; have BK101 := n2_; have HB := n3_; clear n0_ n1_ n2_ n3_; (try clear hb); (try clear hb2); (try clear hk); (try clear hi); (try clear ho0); obtain ⟨Ao9, co9, eo9⟩ := Kd.S_slice HO107.out; subst eo9))
 go_loopg [5, 16] k (fun kq v5 v16 w' => ∃ (x5_1 : List (List Int)) (x16_1 : Int), v16 = .int .i64 x16_1 ∧ Aside0 (impl_tray_strI.l0 kq x5_1 t105 (t105.length : Int) x16_1 a0_0 a0_1 l0_2 = some r) ∧ Aside0 (kq ≤ k) ∧ Aside0 (Kd.S (Kd.slice 3 (Kd.int .i64)) 28 w' w.heap.size (fun k_ => some k_ ≠ ((.slice Ao9 t105.length co9) : Value).ownBlock) v5 x5_1) ∧ Aside0 (Kd.S (Kd.slice 3 (Kd.int .i64)) 28 w' w.heap.size (fun k_ => some k_ ≠ (v5 : Value).ownBlock) (.slice Ao9 t105.length co9) t105) ∧ Aside0 (w'.heap[gb101]? = some (.cells #[.int .i64 a0_0, .int .i64 a0_1, (.slice A0_2 l0_2.length c0_2)] 93 (0, 0))) ∧ Aside0 (Below w.heap.size w w'))
 case atStart => exact ⟨(y102), (0), aq6, H', ⟨Nat.le_refl _⟩, ⟨by (with_reducible repeat (first | apply Kd.S_alloc | apply Kd.S_drewN | apply Kd.S_drew)); exact Kd.S_mono HO104.out (fun _ hk => hk.2)⟩, ⟨by (with_reducible repeat (first | apply Kd.S_alloc | apply Kd.S_drewN | apply Kd.S_drew)); exact Kd.S_mono HO107.out (fun _ hk => hk.2)⟩, ⟨aq2⟩, ⟨aq0⟩⟩
 case round =>
  clear H'
  try clear c1
  try clear p2
  try clear hcz7_0
  try clear hcz7_1
  try clear hcz7_2
  try clear hfz7_0
  try clear hfz7_1
  try clear hfz7_2
  obtain ⟨x5_1, x16_1, rfl, HA, HK1, HO_5, HO_14, BK101, HB⟩ := hrel
  cases gk with
  | zero => exact absurd HA.out (by simp [impl_tray_strI.l0])
  | succ k1 =>
   have H := HA.out
   clear HA
   simp only [impl_tray_strI.l0] at H
   by_cases c10 : x16_1 < (t105.length : Int)
   ·rw [if_pos c10] at H
    have c10b0 := decide_eq_true c10
    clear c10
    by_cases c11 : 0 ≤ x16_1
    ·rw [if_pos c11] at H
     have c11b0 := decide_eq_true c11
     clear c11
     by_cases c12 : x16_1 < (t105.length : Int)
     ·rw [if_pos c12] at H
      have c12b0 := decide_eq_true c12
      clear c12
      obtain ⟨y109, hy_⟩ : ∃ y_ : List Int, y_ = (([] : List Int)) := ⟨_, rfl⟩
      replace H : (impl_tray_strI.l1 k1 x5_1 y109 t105 (t105.length : Int) x16_1 (rd_L3 t105 x16_1) ((rd_L3 t105 x16_1).length : Int) 0 a0_0 a0_1 l0_2) = some r := aq3
      have Ny109 := am hy_
      clear hy_
      have H' := am H
      clear H
      have p108 : 0 ≤ (x16_1 : Int) := of_decide_eq_true aq5
      have q108 : x16_1 < (t105.length : Int) := of_decide_eq_true aq5
      obtain ⟨ad108, A108_0, c108_0, e108, hx108_0, hl108_0, hi108_0⟩ := at_L3 (Kd.S_reads' HO_14.out).2.2 x16_1 p108 q108
      cases e108
      obtain ⟨ce108, hce108, hMe108, hcc108⟩ := Kd.S_get HO_14.out [] x16_1 p108 (by first | exact q108 | exact of_decide_eq_true aq5 | (have e_ := (Kd.S_reads' HO_14.out).1; omega))
      obtain ⟨ve108_0, rfl, ge108_0⟩ := hMe108
      have hv108_0 := hcc108 0 _ rfl
      rw [Nat.add_zero, show ((Kd.slice 3 (Kd.int .i64))).sz = 1 from rfl, Nat.mul_one] at hv108_0
      replace hv108_0 := Option.some.inj (hv108_0.symm.trans hx108_0)
      rw [hv108_0] at ge108_0
      have HL108_0 := am (show Kd.R (Kd.int .i64) 3 _ _ _ _ (rd_L3 t105 x16_1) from ge108_0)
      clear hv108_0 ge108_0
      clear hcc108 hce108
      have HR108_0 := am hi108_0
      have HC108_0 := am hl108_0
      clear hi108_0 hl108_0
      replace p108 := eq_true p108
      replace q108 := eq_true q108
      go_wp2_with (first | ((with_reducible refine gate_dst (N := 20) rfl ?_); refine Kd.R_lit (Kd.int .i64) _ 3 ?hg (N := 20) ?hd (xs := ([] : List Int)) (inner := []) (ok := fun _ => True) (okp := fun _ => True) ?hr ?hp (fun _ hk => hk) trivial (Below.refl _ _) (Nat.le_refl _) (by simp) ?_; (case hd => rfl); (case hg => rfl); (case hr => exact aq19); (case hp => exact aq102); intro v110 w13 ho14 hb hg_ hnew_; clear hg_ hnew_; (first | rw [← Ny109.out] at ho14 | (simp only [Int.reduceToNat] at ho14; rw [← Ny109.out] at ho14)); have n0_ := am (Kd.S_elder' aq25 (Kd.R_base ho14) hb); have n1_ := am (Kd.S_elder' aq46 (Kd.R_base ho14) hb); have n2_ := am (Kd.R_elder' (by (with_reducible repeat (first | apply Kd.R_alloc | apply Kd.R_drewN | apply Kd.R_drew)); exact HL108_0.out) (Kd.R_base ho14) hb); have n3_ := am (Kd.R_lower (Kd.R_new' ho14 (Kd.R_lt (by (with_reducible repeat (first | apply Kd.R_alloc | apply Kd.R_drewN | apply Kd.R_drew)); exact HL108_0.out))) (below_size aq0)); have n4_ := am (blk_below (g := gb101) (o := .cells #[.int .i64 a0_0, .int .i64 a0_1, .slice A0_2 l0_2.length c0_2] 93 (0, 0)) aq2 hb); have n5_ := am (Kd.C_below (by repeat (first | (with_reducible exact HR108_0.out) | (with_reducible refine Kd.C_alloc ?_ _) | (with_reducible refine Kd.C_drewN ?_ _) | (with_reducible refine Kd.C_drew ?_) | exact HR108_0.out)) hb); have n6_ := am (below_step aq0 hb); clear HO_5; clear HO_14; clear HL108_0; clear BK101; clear HR108_0; clear HB; have HO_5 := n0_; have HO_14 := n1_; have HL108_0 := n2_; have HO111 := n3_; have BK101 := n4_; have HR108_0 := n5_; have HB := n6_; clear n0_ n1_ n2_ n3_ n4_ n5_ n6_; clear hb ho14))
      go_loopg [5, 8, 23] k1 (fun kq v5 v8 v23 w' => ∃ (x5_2 : List (List Int)) (x8_2 : List Int) (x23_2 : Int), v23 = .int .i64 x23_2 ∧ Aside0 (impl_tray_strI.l1 kq x5_2 x8_2 t105 (t105.length : Int) x16_1 (rd_L3 t105 x16_1) ((rd_L3 t105 x16_1).length : Int) x23_2 a0_0 a0_1 l0_2 = some r) ∧ Aside0 (kq ≤ k1) ∧ Aside0 (Kd.S (Kd.slice 3 (Kd.int .i64)) 28 w' w.heap.size (fun k_ => some k_ ≠ (v8 : Value).ownBlock ∧ some k_ ≠ ((.slice (some ad108) t105.length co9) : Value).ownBlock) v5 x5_2) ∧ Aside0 (Kd.R (Kd.int .i64) 3 w' w.heap.size (fun _ => True) v8 x8_2) ∧ Aside0 (Kd.S (Kd.slice 3 (Kd.int .i64)) 28 w' w.heap.size (fun k_ => some k_ ≠ (v5 : Value).ownBlock ∧ some k_ ≠ (v8 : Value).ownBlock) (.slice (some ad108) t105.length co9) t105) ∧ Aside0 (w'.heap[gb101]? = some (.cells #[.int .i64 a0_0, .int .i64 a0_1, (.slice A0_2 l0_2.length c0_2)] 93 (0, 0))) ∧ Aside0 (Below w.heap.size w w') ∧ Aside0 (Kd.R (Kd.int .i64) 3 w' w.heap.size (fun k_ => some k_ ≠ (v5 : Value).ownBlock ∧ some k_ ≠ (v8 : Value).ownBlock) (.slice A108_0 (rd_L3 t105 x16_1).length c108_0) (rd_L3 t105 x16_1)))
      case atStart => exact ⟨(x5_1), (y109), (0), aq6, H', ⟨Nat.le_refl _⟩, ⟨aq73⟩, ⟨by (with_reducible repeat (first | apply Kd.R_alloc | apply Kd.R_drewN | apply Kd.R_drew)); exact Kd.R_mono HO111.out (fun _ hk => trivial)⟩, ⟨aq46⟩, ⟨aq2⟩, ⟨aq0⟩, ⟨by first | exact Kd.R_mono HL108_0.out (fun _ hk => ⟨hk.1.1, hk.2⟩) | exact Kd.R_mono HL108_0.out (fun _ hk => ⟨hk.1.1.1, hk.2⟩)⟩⟩
      case round =>
       clear H'
       try clear c1
       try clear p1
       try clear q1
       try clear hx1
       try clear p2
       try clear c10
       try clear c10b0
       try clear p10
       try clear q10
       try clear hx10
       try clear c11
       try clear c11b0
       try clear c12
       try clear c12b0
       try clear hcz7_0
       try clear hcz7_1
       try clear hcz7_2
       try clear hfz7_0
       try clear hfz7_1
       try clear hfz7_2
       try clear hx108_0
       try clear p108
       try clear p2
       try clear q108
       obtain ⟨x5_2, x8_2, x23_2, rfl, HA, HK2, HO_5, HO_8, HO_14, BK101, HB, HLq⟩ := hrel
       cases gk with
       | zero => exact absurd HA.out (by simp [impl_tray_strI.l1])
       | succ k2 =>
        have H := HA.out
        clear HA
        simp only [impl_tray_strI.l1] at H
        by_cases c15 : x23_2 < ((rd_L3 t105 x16_1).length : Int)
        ·rw [if_pos c15] at H
         have c15b0 := decide_eq_true c15
         clear c15
         by_cases c16 : 0 ≤ x23_2
         ·rw [if_pos c16] at H
          have c16b0 := decide_eq_true c16
          clear c16
          by_cases c17 : x23_2 < ((rd_L3 t105 x16_1).length : Int)
          ·rw [if_pos c17] at H
           have c17b0 := decide_eq_true c17
           clear c17
           by_cases c18 : 0 ≤ (rd (rd_L3 t105 x16_1) x23_2)
           ·rw [if_pos c18] at H
            have c18b0 := decide_eq_true c18
            clear c18
            by_cases c19 : (rd (rd_L3 t105 x16_1) x23_2) < (l0_2.length : Int)
            ·rw [if_pos c19] at H
             have c19b0 := decide_eq_true c19
             clear c19
             by_cases c20 : (rd l0_2 (rd (rd_L3 t105 x16_1) x23_2)) = 35
             ·rw [if_pos c20] at H
              have c20b0 := beq_iff_eq.mpr c20
              have c20b1 := bne_eq_false_iff_eq.mpr c20
              clear c20
              by_cases c21 : (x8_2.length : Int) > 0
              ·rw [if_pos c21] at H
               have c21b0 := decide_eq_true c21
               have c21b1 : decide (0 < x8_2.length) = true := decide_eq_true (by omega)
               clear c21
               by_cases c22 : x5_2.length < 5864062014805
               ·rw [if_pos c22] at H
                have LMc22 := am c22
                clear c22
                obtain ⟨y117, hy_⟩ : ∃ y_ : List (List Int), y_ = (x5_2 ++ [x8_2]) := ⟨_, rfl⟩
                replace H : (impl_tray_strI.l1 k2 y117 ([] : List Int) t105 (t105.length : Int) x16_1 (rd_L3 t105 x16_1) ((rd_L3 t105 x16_1).length : Int) (wrap64 (x23_2 + 1)) a0_0 a0_1 l0_2) = some r := aq3
                have Ny117 := am hy_
                clear hy_
                have H' := am H
                clear H
                have p115 : 0 ≤ (x23_2 : Int) := of_decide_eq_true aq5
                have q115 : x23_2 < ((rd_L3 t105 x16_1).length : Int) := of_decide_eq_true aq5
                obtain ⟨ad115, e115, hx115_0⟩ := Kd.at_int (Kd.R_reads' HLq.out).2.2 x23_2 p115 q115
                cases e115
                try replace hx115_0 := (HB.out.cell (World.block_lt_of_cell? w _ hx115_0)).trans hx115_0
                replace p115 := eq_true p115
                replace q115 := eq_true q115
                obtain ⟨hcz23_0, hcz23_1, hcz23_2, hfz23_0, hfz23_1, hfz23_2⟩ := blk3_ BK101.out
                have p116 : 0 ≤ ((rd (rd_L3 t105 x16_1) x23_2) : Int) := of_decide_eq_true aq5
                have q116 : (rd (rd_L3 t105 x16_1) x23_2) < (l0_2.length : Int) := of_decide_eq_true aq5
                obtain ⟨ad116, e116, hx116_0⟩ := Kd.at_int HR0_2.out (rd (rd_L3 t105 x16_1) x23_2) p116 q116
                cases e116
                try replace hx116_0 := (HB.out.cell (World.block_lt_of_cell? w _ hx116_0)).trans hx116_0
                replace p116 := eq_true p116
                replace q116 := eq_true q116
                obtain ⟨Ao24, co24, eo24⟩ := Kd.R_slice HO_8.out
                subst eo24
                go_wp2_with (first | ((with_reducible refine gate_builtin (b := .append) (xs := #[.tmp 40, .tmp 42]) rfl ?_); at_builtin; refine Kd.S_append (Kd.slice 3 (Kd.int .i64)) (w0 := w) w.heap.size rfl (.tmp 40) (.tmp 42) 40 28 (.slice none 0 0) 24 rfl Tryz.underlying40 info28 rfl (by decide) (by omega) u5 x5_2 x8_2 [.slice Ao24 x8_2.length co24] (fun k_ => some k_ ≠ (.slice (some ad108) t105.length co9 : Value).ownBlock) (fun k_ => some k_ = (.slice Ao24 x8_2.length co24 : Value).ownBlock) rfl rfl ?aP (fun k_ hk_ => ((Kd.R_mono (ok' := fun k_ => ((fun k_ => some k_ ≠ (.slice (some ad108) t105.length co9 : Value).ownBlock)) k_ ∧ some k_ ≠ (u5 : Value).ownBlock) (Kd.R_apart' (Kd.R_apart' (HO_8.out) (Kd.S_typed HO_14.out) (by decide)) (Kd.S_typed HO_5.out) (by decide)) (fun k_ hk => ⟨hk.1.2, hk.2⟩))).1 k_ hk_.symm) ?aF ?aO ?aB ?aS ?aL ?_; (case aP => exact aq69); (case aB => exact aq0); (case aF => exact (fun k_ hk => Kd.fresh' (Kd.S_lt aq46) k_ hk)); (case aO => exact aq90); (case aS => exact aq74); (case aL => have := LMc22.out; omega); intro v118 w25 ho hb hg hat; rw [← Ny117.out] at ho; have n0_ := am (Kd.S_after (ok := (fun k_ => some k_ ≠ (.slice Ao24 x8_2.length co24 : Value).ownBlock)) aq96 hg hat); have n1_ := am (blk_grown (g := gb101) (o := .cells #[.int .i64 a0_0, .int .i64 a0_1, .slice (some ad116) l0_2.length c0_2] 93 (0, 0)) aq2 hg (Kd.S_ne HO_5.out BK101.out (by decide))); have n2_ := am (hb); have n3_ := am (ho); have nq_ := am (Kd.R_after (ok := (fun k_ => some k_ ≠ (.slice Ao24 x8_2.length co24 : Value).ownBlock)) (Kd.R_mono HLq.out (fun _ hk => ⟨hk.2, hk.1⟩)) hg hat); clear HLq; have HLq := nq_; clear nq_; clear HO_14; clear BK101; clear HB; clear HO_5; clear HO_8; have HO_14 := n0_; have BK101 := n1_; have HB := n2_; have HO119 := n3_; clear n0_ n1_ n2_ n3_; clear ho hb hg hat))
                go_roundg k2
                case measure => have := HK1.out; have := HK2.out; omega
                case rel => exact ⟨(y117), (([] : List Int)), (wrap64 (x23_2 + 1)), aq6, H', ⟨aq64⟩, ⟨by (with_reducible repeat (first | apply Kd.S_alloc | apply Kd.S_drewN | apply Kd.S_drew)); exact Kd.S_mono HO119.out (fun _ hk => ⟨(by simp [Value.ownBlock]), hk⟩)⟩, ⟨aq17⟩, ⟨by (with_reducible repeat (first | apply Kd.S_alloc | apply Kd.S_drewN | apply Kd.S_drew)); exact Kd.S_mono HO_14.out (fun _ hk => ⟨hk.2, (by simp [Value.ownBlock])⟩)⟩, ⟨aq2⟩, ⟨aq0⟩, ⟨aq72⟩⟩
               ·rw [if_neg c22] at H
                exact absurd H (by simp)
              ·rw [if_neg c21] at H
               have c21b0 := decide_eq_false c21
               have c21b1 : decide (0 < x8_2.length) = false := decide_eq_false (by omega)
               clear c21
               have H' := am H
               clear H
               have p115 : 0 ≤ (x23_2 : Int) := of_decide_eq_true aq5
               have q115 : x23_2 < ((rd_L3 t105 x16_1).length : Int) := of_decide_eq_true aq5
               obtain ⟨ad115, e115, hx115_0⟩ := Kd.at_int (Kd.R_reads' HLq.out).2.2 x23_2 p115 q115
               cases e115
               try replace hx115_0 := (HB.out.cell (World.block_lt_of_cell? w _ hx115_0)).trans hx115_0
               replace p115 := eq_true p115
               replace q115 := eq_true q115
               obtain ⟨hcz26_0, hcz26_1, hcz26_2, hfz26_0, hfz26_1, hfz26_2⟩ := blk3_ BK101.out
               have p116 : 0 ≤ ((rd (rd_L3 t105 x16_1) x23_2) : Int) := of_decide_eq_true aq5
               have q116 : (rd (rd_L3 t105 x16_1) x23_2) < (l0_2.length : Int) := of_decide_eq_true aq5
               obtain ⟨ad116, e116, hx116_0⟩ := Kd.at_int HR0_2.out (rd (rd_L3 t105 x16_1) x23_2) p116 q116
               cases e116
               try replace hx116_0 := (HB.out.cell (World.block_lt_of_cell? w _ hx116_0)).trans hx116_0
               replace p116 := eq_true p116
               replace q116 := eq_true q116
               obtain ⟨Ao27, co27, eo27⟩ := Kd.R_slice HO_8.out
               subst eo27
               go_wp2
               go_roundg k2
               case measure => have := HK1.out; have := HK2.out; omega
               case rel => exact ⟨(x5_2), (x8_2), (wrap64 (x23_2 + 1)), aq6, H', ⟨aq64⟩, ⟨aq25⟩, ⟨aq26⟩, ⟨aq46⟩, ⟨aq2⟩, ⟨aq0⟩, ⟨aq72⟩⟩
             ·rw [if_neg c20] at H
              have c20b0 := beq_eq_false_iff_ne.mpr c20
              have c20b1 := bne_iff_ne.mpr c20
              by_cases c28 : x8_2.length < 17592186044416
              ·rw [if_pos c28] at H
               have LMc28 := am c28
               clear c28
               obtain ⟨y120, hy_⟩ : ∃ y_ : List Int, y_ = (x8_2 ++ [rd (rd_L3 t105 x16_1) x23_2]) := ⟨_, rfl⟩
               replace H : (impl_tray_strI.l1 k2 x5_2 y120 t105 (t105.length : Int) x16_1 (rd_L3 t105 x16_1) ((rd_L3 t105 x16_1).length : Int) (wrap64 (x23_2 + 1)) a0_0 a0_1 l0_2) = some r := aq3
               have Ny120 := am hy_
               clear hy_
               have H' := am H
               clear H
               have p115 : 0 ≤ (x23_2 : Int) := of_decide_eq_true aq5
               have q115 : x23_2 < ((rd_L3 t105 x16_1).length : Int) := of_decide_eq_true aq5
               obtain ⟨ad115, e115, hx115_0⟩ := Kd.at_int (Kd.R_reads' HLq.out).2.2 x23_2 p115 q115
               cases e115
               try replace hx115_0 := (HB.out.cell (World.block_lt_of_cell? w _ hx115_0)).trans hx115_0
               replace p115 := eq_true p115
               replace q115 := eq_true q115
               obtain ⟨hcz29_0, hcz29_1, hcz29_2, hfz29_0, hfz29_1, hfz29_2⟩ := blk3_ BK101.out
               have p116 : 0 ≤ ((rd (rd_L3 t105 x16_1) x23_2) : Int) := of_decide_eq_true aq5
               have q116 : (rd (rd_L3 t105 x16_1) x23_2) < (l0_2.length : Int) := of_decide_eq_true aq5
               obtain ⟨ad116, e116, hx116_0⟩ := Kd.at_int HR0_2.out (rd (rd_L3 t105 x16_1) x23_2) p116 q116
               cases e116
               try replace hx116_0 := (HB.out.cell (World.block_lt_of_cell? w _ hx116_0)).trans hx116_0
               replace p116 := eq_true p116
               replace q116 := eq_true q116
               go_wp2_with (first | ((with_reducible refine gate_builtin (b := .append) (xs := #[.tmp 33, .tmp 35]) rfl ?_); at_builtin; refine Kd.R_append (Kd.int .i64) (w0 := w) w.heap.size rfl (.tmp 33) (.tmp 35) 28 3 (.int .i64 0) 8 rfl Tryz.underlying28 info3 rfl (by decide) (by omega) u8 x8_2 (rd (rd_L3 t105 x16_1) x23_2) [.int .i64 (rd (rd_L3 t105 x16_1) x23_2)] (fun _ => True) (fun _ => False) rfl rfl ?aP (fun _ hk => hk.elim) ?aF ?aO ?aB ?aS ?aL ?_; (case aP => exact rfl); (case aB => exact aq0); (case aF => exact aq75); (case aO => exact aq26); (case aS => exact aq74); (case aL => have := LMc28.out; omega); intro v121 w30 ho hb hg hat; rw [← Ny120.out] at ho; have n0_ := am (Kd.S_after (ok := (fun k_ => some k_ ≠ (.slice (some ad108) t105.length co9 : Value).ownBlock)) aq73 hg hat); have n1_ := am (Kd.S_after (ok := (fun k_ => some k_ ≠ (u5 : Value).ownBlock)) aq46 hg hat); have n2_ := am (blk_grown (g := gb101) (o := .cells #[.int .i64 a0_0, .int .i64 a0_1, .slice (some ad116) l0_2.length c0_2] 93 (0, 0)) aq2 hg (Kd.R_ne HO_8.out BK101.out (by decide))); have n3_ := am (hb); have n4_ := am (ho); clear HO_5; have nq_ := am (Kd.R_after (ok := (fun k_ => some k_ ≠ (u5 : Value).ownBlock)) HLq.out hg hat); clear HLq; have HLq := nq_; clear nq_; clear HO_14; clear BK101; clear HB; clear HO_8; have HO_5 := n0_; have HO_14 := n1_; have BK101 := n2_; have HB := n3_; have HO122 := n4_; clear n0_ n1_ n2_ n3_ n4_; clear ho hb hg hat))
               go_roundg k2
               case measure => have := HK1.out; have := HK2.out; omega
               case rel => exact ⟨(x5_2), (y120), (wrap64 (x23_2 + 1)), aq6, H', ⟨aq64⟩, ⟨aq73⟩, ⟨by (with_reducible repeat (first | apply Kd.R_alloc | apply Kd.R_drewN | apply Kd.R_drew)); exact HO122.out⟩, ⟨aq46⟩, ⟨aq2⟩, ⟨aq0⟩, ⟨aq72⟩⟩
              ·rw [if_neg c28] at H
               exact absurd H (by simp)
            ·rw [if_neg c19] at H
             exact absurd H (by simp)
           ·rw [if_neg c18] at H
            exact absurd H (by simp)
          ·rw [if_neg c17] at H
           exact absurd H (by simp)
         ·rw [if_neg c16] at H
          exact absurd H (by simp)
        ·rw [if_neg c15] at H
         have c15b0 := decide_eq_false c15
         clear c15
         by_cases c31 : (x8_2.length : Int) > 0
         ·rw [if_pos c31] at H
          have c31b0 := decide_eq_true c31
          have c31b1 : decide (0 < x8_2.length) = true := decide_eq_true (by omega)
          clear c31
          by_cases c32 : x5_2.length < 5864062014805
          ·rw [if_pos c32] at H
           have LMc32 := am c32
           clear c32
           obtain ⟨y112, hy_⟩ : ∃ y_ : List (List Int), y_ = (x5_2 ++ [x8_2]) := ⟨_, rfl⟩
           replace H : (impl_tray_strI.l0 k2 y112 t105 (t105.length : Int) (wrap64 (x16_1 + 1)) a0_0 a0_1 l0_2) = some r := aq3
           have Ny112 := am hy_
           clear hy_
           have H' := am H
           clear H
           obtain ⟨Ao33, co33, eo33⟩ := Kd.R_slice HO_8.out
           subst eo33
           go_wp2_with (first | ((with_reducible refine gate_builtin (b := .append) (xs := #[.tmp 48, .tmp 50]) rfl ?_); at_builtin; refine Kd.S_append (Kd.slice 3 (Kd.int .i64)) (w0 := w) w.heap.size rfl (.tmp 48) (.tmp 50) 40 28 (.slice none 0 0) 24 rfl Tryz.underlying40 info28 rfl (by decide) (by omega) u5 x5_2 x8_2 [.slice Ao33 x8_2.length co33] (fun k_ => some k_ ≠ (.slice (some ad108) t105.length co9 : Value).ownBlock) (fun k_ => some k_ = (.slice Ao33 x8_2.length co33 : Value).ownBlock) rfl rfl ?aP (fun k_ hk_ => ((Kd.R_mono (ok' := fun k_ => ((fun k_ => some k_ ≠ (.slice (some ad108) t105.length co9 : Value).ownBlock)) k_ ∧ some k_ ≠ (u5 : Value).ownBlock) (Kd.R_apart' (Kd.R_apart' (HO_8.out) (Kd.S_typed HO_14.out) (by decide)) (Kd.S_typed HO_5.out) (by decide)) (fun k_ hk => ⟨hk.1.2, hk.2⟩))).1 k_ hk_.symm) ?aF ?aO ?aB ?aS ?aL ?_; (case aP => exact aq69); (case aB => exact aq0); (case aF => exact (fun k_ hk => Kd.fresh' (Kd.S_lt aq46) k_ hk)); (case aO => exact aq90); (case aS => exact aq74); (case aL => have := LMc32.out; omega); intro v113 w34 ho hb hg hat; rw [← Ny112.out] at ho; have n0_ := am (Kd.S_after (ok := (fun k_ => some k_ ≠ (.slice Ao33 x8_2.length co33 : Value).ownBlock)) aq96 hg hat); have n1_ := am (blk_grown (g := gb101) (o := .cells #[.int .i64 a0_0, .int .i64 a0_1, .slice A0_2 l0_2.length c0_2] 93 (0, 0)) aq2 hg (Kd.S_ne HO_5.out BK101.out (by decide))); have n2_ := am (hb); have n3_ := am (ho); clear HO_14; clear BK101; clear HB; clear HO_5; clear HO_8; have HO_14 := n0_; have BK101 := n1_; have HB := n2_; have HO114 := n3_; clear n0_ n1_ n2_ n3_; clear ho hb hg hat))
           go_roundg k2
           case measure => have := HK1.out; have := HK2.out; omega
           case rel => exact ⟨(y112), (wrap64 (x16_1 + 1)), aq6, H', ⟨aq64⟩, ⟨by (with_reducible repeat (first | apply Kd.S_alloc | apply Kd.S_drewN | apply Kd.S_drew)); exact HO114.out⟩, ⟨by (with_reducible repeat (first | apply Kd.S_alloc | apply Kd.S_drewN | apply Kd.S_drew)); exact Kd.S_mono HO_14.out (fun _ hk => hk.2)⟩, ⟨aq2⟩, ⟨aq0⟩⟩
          ·rw [if_neg c32] at H
           exact absurd H (by simp)
         ·rw [if_neg c31] at H
          have c31b0 := decide_eq_false c31
          have c31b1 : decide (0 < x8_2.length) = false := decide_eq_false (by omega)
          clear c31
          have H' := am H
          clear H
          obtain ⟨Ao35, co35, eo35⟩ := Kd.R_slice HO_8.out
          subst eo35
          go_wp2
          go_roundg k2
          case measure => have := HK1.out; have := HK2.out; omega
          case rel => exact ⟨(x5_2), (wrap64 (x16_1 + 1)), aq6, H', ⟨aq64⟩, ⟨aq57⟩, ⟨by (with_reducible repeat (first | apply Kd.S_alloc | apply Kd.S_drewN | apply Kd.S_drew)); exact Kd.S_mono HO_14.out (fun _ hk => hk.1)⟩, ⟨aq2⟩, ⟨aq0⟩⟩
     ·rw [if_neg c12] at H
      exact absurd H (by simp)
    ·rw [if_neg c11] at H
     exact absurd H (by simp)
   ·rw [if_neg c10] at H
    have c10b0 := decide_eq_false c10
    clear c10
    obtain rfl := Option.some.inj H
    go_wp2_with (first | (go_at_call 182; refine (sortfunc_calls (Kd.S_R (Kd.S_mono HO_5.out (fun _ _ => trivial))) HP_.out.1 HP_.out.2.1 HP_.out.2.2).mono ?_; rintro e_ w9_ ⟨rfl, ys_, hp_, hs_, hR_, hB_, _⟩))
    go_ret
    exact ⟨_, rfl, ⟨ys_, hp_, hs_, hR_⟩, hB_ _ HB.out (Nat.le_refl _)⟩
end Go.Proofs.YtdffgeoegdkiaaaGreatDoor.F

namespace Go.Proofs.YtdffgeoegdkiaaaGreatDoor
open Go.RowKit Go.Proofs.YtdffgeoegdkiaaaGreatDoorW.PrintWords Go.Proofs.YtdffgeoegdkiaaaGreatDoorW.PrintLast Go.Proofs.YtdffgeoegdkiaaaGreatDoorW.PrintMore Go.Lib Go.Shelf Go.Proofs.YtdffgeoegdkiaaaGreatDoor.F Go.Maps
attribute [local go_sem] max2_int min2_int

end Go.Proofs.YtdffgeoegdkiaaaGreatDoor

namespace Go.Proofs.YtdffgeoegdkiaaaGreatDoor
open Go.RowKit Go.Proofs.YtdffgeoegdkiaaaGreatDoorW.PrintWords Go.Proofs.YtdffgeoegdkiaaaGreatDoorW.PrintLast Go.Proofs.YtdffgeoegdkiaaaGreatDoorW.PrintMore Go.Lib Go.Proofs.YtdffgeoegdkiaaaGreatDoor.F
def gridI (a0 a1 : Int) (l : List Int) : Prop := (1 ≤ a0 ∧ a0 ≤ 7) ∧ (1 ≤ a1 ∧ a1 ≤ 7) ∧ l.length = a0.toNat * a1.toNat
instance (a0 a1 : Int) (l : List Int) : Decidable (gridI a0 a1 l) := by unfold gridI; exact inferInstance
theorem gridI_nat {w h : Nat} {cs : List Int} (hw : 1 ≤ w ∧ w ≤ 7) (hh : 1 ≤ h ∧ h ≤ 7) (hl : cs.length = w * h) : gridI w h cs := ⟨by omega, by omega, by rw [Int.toNat_natCast, Int.toNat_natCast]; exact hl⟩
theorem strD_facts {w h d : Nat} {cs : List Int} (hw : 1 ≤ w ∧ w ≤ 7) (hh : 1 ≤ h ∧ h ≤ 7) (hl : cs.length = w * h) (hd : d < 4) :
    (0 < cs.length ∧ cs.length < 65536) ∧ (∀ st ∈ strD w h d cs, ∀ i ∈ st, i < cs.length) ∧ (strD w h d cs).flatten.length < 65536 ∧ (strD w h d cs).length < 65536 ∧ (∀ st ∈ strD w h d cs, st.length < 65536) := by
  have h49 : w * h ≤ 7 * 7 := Nat.mul_le_mul hw.2 hh.2
  have h1 : 0 < w * h := Nat.mul_pos (by omega) (by omega)
  have hf : (strD w h d cs).flatten.length ≤ w * h := by
    rw [(strD_cells hd cs).length_eq]
    exact Nat.le_trans (List.length_filter_le _ _) (by rw [List.length_range]; exact Nat.le_refl _)
  have hne := strD_ne hd (w := w) (h := h) (cs := cs)
  have len : ∀ S : List (List Nat), (∀ st ∈ S, st ≠ []) → S.length ≤ S.flatten.length ∧ ∀ st ∈ S, st.length ≤ S.flatten.length := fun S => by
    induction S with
    | nil => intro _; exact ⟨Nat.le_refl _, fun st h => by cases h⟩
    | cons a S ih =>
      intro hs
      obtain ⟨i1, i2⟩ := ih (fun st h => hs st (List.mem_cons_of_mem _ h))
      have ha : 0 < a.length := List.length_pos_iff.2 (hs a List.mem_cons_self)
      rw [List.flatten_cons, List.length_append, List.length_cons]
      refine ⟨by omega, fun st h => ?_⟩
      rcases List.mem_cons.1 h with rfl | h
      · omega
      · have := i2 st h; omega
  obtain ⟨l1, l2⟩ := len _ hne
  refine ⟨⟨by rw [hl]; exact h1, by rw [hl]; omega⟩, fun st hs i hi => by rw [hl]; exact (strD_Str hd cs).lt st hs i hi, by omega, by omega, fun st hs => ?_⟩
  have := l2 st hs
  omega
def spec_tiTilt.f (a0 a1 : Int) (l : List Int) (d : Int) : Option (Int × Int × List Int) := if gridI a0 a1 l ∧ 0 ≤ d ∧ d < 4 then some (a0, a1, tiltD a0.toNat a1.toNat d.toNat l) else none
theorem rev_ev (l : List Int) (hl : l.length ≤ 7) : Ev (fun k => slices_Reverse_int_int.f k l) l.reverse := by
  refine Ev.of (fun k => slices_Reverse_int_int.mono _ _) (k := 6) ?_
  match l, hl with
  | [], _ => simp [slices_Reverse_int_int.f, slices_Reverse_int_int.l0, wrap64, rd]
  | [a], _ => simp [slices_Reverse_int_int.f, slices_Reverse_int_int.l0, wrap64, rd]
  | [a, b], _ => simp [slices_Reverse_int_int.f, slices_Reverse_int_int.l0, wrap64, rd]
  | [a, b, c], _ => simp [slices_Reverse_int_int.f, slices_Reverse_int_int.l0, wrap64, rd]
  | [a, b, c, d], _ => simp [slices_Reverse_int_int.f, slices_Reverse_int_int.l0, wrap64, rd]
  | [a, b, c, d, e], _ => simp [slices_Reverse_int_int.f, slices_Reverse_int_int.l0, wrap64, rd]
  | [a, b, c, d, e, f], _ => simp [slices_Reverse_int_int.f, slices_Reverse_int_int.l0, wrap64, rd]
  | [a, b, c, d, e, f, g], _ => simp [slices_Reverse_int_int.f, slices_Reverse_int_int.l0, wrap64, rd]
  | _ :: _ :: _ :: _ :: _ :: _ :: _ :: _ :: _, h => exact absurd h (by simp)
theorem casts_rev (l : List Nat) : (castsI l).reverse = castsI l.reverse := by unfold castsI; rw [List.map_reverse]
theorem range_rev {α : Type} (f : Nat → α) (n : Nat) : (List.range n).map (fun b => f (n - 1 - b)) = ((List.range n).map f).reverse := by
  apply List.ext_getElem
  · simp
  · intro i h1 h2
    simp [List.getElem_reverse]
theorem w100 (n : Nat) (h : n < 100) : wrap64 (n : Int) = n := w64 (by omega) (by omega)
def rawP (w d a b : Nat) : Nat := if d = 0 ∨ d = 2 then b * w + a else a * w + b
def rawL (w d a n : Nat) : List Nat := (List.range n).map (rawP w d a)
theorem rawL_succ (w d a n : Nat) : rawL w d a (n + 1) = rawL w d a n ++ [rawP w d a n] := by unfold rawL; rw [List.range_succ, List.map_append]; rfl
theorem rawL_length (w d a n : Nat) : (rawL w d a n).length = n := by simp [rawL]
theorem raw_line {w h d a : Nat} (hd : d < 4) : lineD w h d a = if d = 1 ∨ d = 2 then (rawL w d a (lnK w h d)).reverse else rawL w d a (lnK w h d) := by
  rcases dir4 hd with rfl | rfl | rfl | rfl
  · rfl
  · rw [if_pos (Or.inl rfl)]; exact range_rev (rawP w 1 a) w
  · rw [if_pos (Or.inr rfl)]; exact range_rev (rawP w 2 a) h
  · rfl
section
variable {w h d : Nat} {cs : List Int} (hw : 1 ≤ w ∧ w ≤ 7) (hh : 1 ≤ h ∧ h ≤ 7) (hd : d < 4)
include hw hh hd
omit hd in
theorem number_raw {a b : Nat} (ha : a < lnM w h d) (hb : b < lnK w h d) : (if decide (d = 0 ∨ d = 2) = true then impl_tray_number.f w h cs a b else impl_tray_number.f w h cs b a) = some ((rawP w d a b : Nat) : Int) := by
  have key : ∀ x y : Nat, x < 8 → y < 8 → impl_tray_number.f w h cs x y = some ((y * w + x : Nat) : Int) := fun x y hx hy => by
    have h49 : y * w ≤ 7 * 7 := Nat.mul_le_mul (by omega) hw.2
    have e1 : (y : Int) * (w : Int) = ((y * w : Nat) : Int) := by rw [Int.natCast_mul]
    have hb : y * w + x < 100 := by omega
    unfold impl_tray_number.f
    rw [e1, w100 (y * w) (by omega), ← Int.natCast_add, w100 _ hb]
  have hK := lnK_le (d := d) hw.2 hh.2
  have hM : lnM w h d ≤ 7 := by unfold lnM; split <;> omega
  unfold rawP
  by_cases hv : d = 0 ∨ d = 2
  · rw [if_pos (decide_eq_true hv), if_pos hv, key a b (by omega) (by omega)]
  · rw [if_neg (by simp only [decide_eq_true_eq]; exact hv), if_neg hv, key b a (by omega) (by omega)]
theorem lines_l1 (x5 : List (List Int)) (hx : x5.length < 1000) (r : List (List Int)) {a : Nat} (ha : a < lnM w h d) : ∀ (n j : Nat), j + n = lnK w h d →
    Ev (fun k => impl_tray_lines.l0 k (dirB d) (x5 ++ [castsI (lineD w h d a)]) (lnK w h d : Int) (lnM w h d : Int) ((a + 1 : Nat) : Int) w h cs) r →
    Ev (fun k => impl_tray_lines.l1 k (dirB d) x5 (lnK w h d : Int) (a : Int) (castsI (rawL w d a j)) (lnM w h d : Int) (a : Int) (lnK w h d : Int) (j : Int) w h cs) r
  | 0, j, hj, hr => by
    have hK := lnK_le (d := d) hw.2 hh.2
    have hM : lnM w h d ≤ 7 := by unfold lnM; split <;> omega
    obtain rfl : j = lnK w h d := by omega
    have hrl := raw_line (w := w) (h := h) (a := a) hd
    have hrev : Ev (fun k => slices_Reverse_int_int.f k (castsI (rawL w d a (lnK w h d)))) (castsI (rawL w d a (lnK w h d)).reverse) := by
      have := rev_ev (castsI (rawL w d a (lnK w h d))) (by rw [castsI_length, rawL_length]; exact hK)
      rwa [casts_rev] at this
    have HW : Aside0 (wrap64 ((a : Int) + 1) = ((a + 1 : Nat) : Int)) := ⟨by rw [w64 (by omega) (by omega)]; rfl⟩
    have hlen : x5.length < 5864062014805 := by omega
    rcases dir4 hd with rfl | rfl | rfl | rfl
    · rw [if_neg (by decide)] at hrl
      rw [hrl] at hr
      refine Ev.step (fun k => ?_) hr
      rw [impl_tray_lines.l1, if_neg (by omega), if_neg (by decide), if_neg (by decide), if_pos hlen, HW.out]
    · rw [if_pos (by decide)] at hrl
      rw [hrl] at hr
      refine Ev.step (fun k => ?_) (Ev.bind hrev (f := fun k t => impl_tray_lines.l0 k (dirB 1) (x5 ++ [t]) (lnK w h 1 : Int) (lnM w h 1 : Int) ((a + 1 : Nat) : Int) w h cs) hr)
      rw [impl_tray_lines.l1, if_neg (by omega), if_pos (by rfl), HW.out]
      simp only [if_pos hlen]
    · rw [if_pos (by decide)] at hrl
      rw [hrl] at hr
      refine Ev.step (fun k => ?_) (Ev.bind hrev (f := fun k t => impl_tray_lines.l0 k (dirB 2) (x5 ++ [t]) (lnK w h 2 : Int) (lnM w h 2 : Int) ((a + 1 : Nat) : Int) w h cs) hr)
      rw [impl_tray_lines.l1, if_neg (by omega), if_neg (by decide), if_pos (by rfl), HW.out]
      simp only [if_pos hlen]
    · rw [if_neg (by decide)] at hrl
      rw [hrl] at hr
      refine Ev.step (fun k => ?_) hr
      rw [impl_tray_lines.l1, if_neg (by omega), if_neg (by decide), if_neg (by decide), if_pos hlen, HW.out]
  | n + 1, j, hj, hr => by
    have hK := lnK_le (d := d) hw.2 hh.2
    have hjK : j < lnK w h d := by omega
    have ih := lines_l1 x5 hx r ha n (j + 1) (by omega) hr
    have hnum := number_raw (cs := cs) hw hh ha hjK
    have HW : Aside0 (wrap64 ((j : Int) + 1) = ((j + 1 : Nat) : Int)) := ⟨by rw [w64 (by omega) (by omega)]; rfl⟩
    have hlen : (castsI (rawL w d a j)).length < 17592186044416 := by rw [castsI_length, rawL_length]; omega
    have h1 : ∀ k, impl_tray_lines.l1 (k + 1) (dirB d) x5 (lnK w h d : Int) (a : Int) (castsI (rawL w d a j)) (lnM w h d : Int) (a : Int) (lnK w h d : Int) (j : Int) w h cs = impl_tray_lines.j4 k (dirB d) x5 (lnK w h d : Int) (a : Int) (castsI (rawL w d a j)) (j : Int) (lnM w h d : Int) (a : Int) (lnK w h d : Int) (j : Int) (decide (d = 0 ∨ d = 2)) w h cs := fun k => by
      rw [impl_tray_lines.l1, if_pos (by omega)]
      rcases dir4 hd with rfl | rfl | rfl | rfl
      · rw [if_pos (by rfl)]; rfl
      · rw [if_neg (by decide)]; rfl
      · rw [if_neg (by decide)]; rfl
      · rw [if_neg (by decide)]; rfl
    refine Ev.step h1 (Ev.step (fun k => ?_) ih)
    rw [rawL_succ, casts_app, casts_one, impl_tray_lines.j4]
    by_cases hv : decide (d = 0 ∨ d = 2) = true
    · rw [if_pos hv] at hnum ⊢
      rw [hnum, Option.bind_some, if_pos hlen, HW.out]
    · rw [if_neg hv] at hnum ⊢
      rw [hnum, Option.bind_some, if_pos hlen, HW.out]
theorem lines_l0 : ∀ (n a : Nat), a + n = lnM w h d → Ev (fun k => impl_tray_lines.l0 k (dirB d) (((List.range a).map (lineD w h d)).map castsI) (lnK w h d : Int) (lnM w h d : Int) (a : Int) w h cs) ((linesD w h d).map castsI)
  | 0, a, ha => by
    obtain rfl : a = lnM w h d := by omega
    exact Ev.step (fun k => by rw [impl_tray_lines.l0, if_neg (by omega)]; rfl) (Ev.now _)
  | n + 1, a, ha => by
    have hM : lnM w h d ≤ 7 := by unfold lnM; split <;> omega
    have ih := lines_l0 n (a + 1) (by omega)
    rw [List.range_succ, List.map_append, List.map_append] at ih
    have := lines_l1 (cs := cs) hw hh hd (((List.range a).map (lineD w h d)).map castsI) (by simp; omega) _ (show a < lnM w h d by omega) (lnK w h d) 0 (by omega) ih
    exact Ev.step (fun k => by rw [impl_tray_lines.l0, if_pos (by omega)]; rfl) this
theorem lines_ev : Ev (fun k => impl_tray_lines.f k w h cs (dirB d)) ((linesD w h d).map castsI) := by
  have h0 := lines_l0 (cs := cs) hw hh hd (lnM w h d) 0 (by omega)
  rcases dir4 hd with rfl | rfl | rfl | rfl
  · exact Ev.congr (fun k => rfl) (Ev.step (g := fun k => impl_tray_lines.j0 k 117 [] h w true w h cs) (f := fun k => impl_tray_lines.j1 k 117 [] w h w h cs) (fun k => rfl) (Ev.step (fun k => rfl) h0))
  · exact Ev.congr (fun k => rfl) (Ev.step (g := fun k => impl_tray_lines.j0 k 114 [] h w false w h cs) (f := fun k => impl_tray_lines.j1 k 114 [] h w w h cs) (fun k => rfl) (Ev.step (fun k => rfl) h0))
  · exact Ev.congr (fun k => rfl) (Ev.step (g := fun k => impl_tray_lines.j0 k 100 [] h w true w h cs) (f := fun k => impl_tray_lines.j1 k 100 [] w h w h cs) (fun k => rfl) (Ev.step (fun k => rfl) h0))
  · exact Ev.congr (fun k => rfl) (Ev.step (g := fun k => impl_tray_lines.j0 k 108 [] h w false w h cs) (f := fun k => impl_tray_lines.j1 k 108 [] h w w h cs) (fun k => rfl) (Ev.step (fun k => rfl) h0))
end
theorem open_rd {cs : List Int} {x : Nat} : openAt cs x = true ↔ ¬ rd cs (x : Int) = 35 := by
  unfold openAt isOpenC rd
  rw [Int.toNat_natCast]; simp
theorem runs_l1 {w h : Nat} {cs : List Int} (LL : List (List Int)) (a : Nat) (ha : a < 1000) (r : List (List Int)) (L : List Nat) (hL : L.length < 1000) (hlt : ∀ x ∈ L, x < cs.length) : ∀ (n j : Nat) (out : List (List Nat)) (own : List Nat), j + n = L.length → out.length + n < 100000 → own.length ≤ j →
    Ev (fun k => impl_tray_strI.l0 k ((out ++ runsF (openAt cs) own (L.drop j)).map castsI) LL (LL.length : Int) ((a + 1 : Nat) : Int) w h cs) r →
    Ev (fun k => impl_tray_strI.l1 k (out.map castsI) (castsI own) LL (LL.length : Int) (a : Int) (castsI L) (L.length : Int) (j : Int) w h cs) r
  | 0, j, out, own, hj, ho, hown, hr => by
    have HW : Aside0 (wrap64 ((a : Int) + 1) = ((a + 1 : Nat) : Int)) := ⟨by rw [w64 (by omega) (by omega)]; rfl⟩
    rw [List.drop_eq_nil_of_le (by omega)] at hr
    unfold runsF at hr
    refine Ev.step (fun k => ?_) hr
    rw [impl_tray_strI.l1, if_neg (by omega), castsI_length, HW.out]
    by_cases h0 : own = []
    · rw [if_pos h0, if_neg (by rw [h0]; decide), List.append_nil]
    · have : 0 < own.length := List.length_pos_iff.2 h0
      rw [if_neg h0, if_pos (by omega), if_pos (by simp; omega), List.map_append]; rfl
  | n + 1, j, out, own, hj, ho, hown, hr => by
    have hjl : j < L.length := by omega
    have HW : Aside0 (wrap64 ((j : Int) + 1) = ((j + 1 : Nat) : Int)) := ⟨by rw [w64 (by omega) (by omega)]; rfl⟩
    have hx := hlt _ (List.getElem_mem hjl)
    rw [List.drop_eq_getElem_cons hjl] at hr
    have hrd := rd_cast L j hjl
    have hop := open_rd (cs := cs) (x := L[j]'hjl)
    generalize L[j]'hjl = x at *
    unfold runsF at hr
    have hs : ∀ k, impl_tray_strI.l1 (k + 1) (out.map castsI) (castsI own) LL (LL.length : Int) (a : Int) (castsI L) (L.length : Int) (j : Int) w h cs =
        if rd cs (x : Int) = 35 then (if own = [] then impl_tray_strI.l1 k (out.map castsI) (castsI []) LL (LL.length : Int) (a : Int) (castsI L) (L.length : Int) ((j + 1 : Nat) : Int) w h cs else impl_tray_strI.l1 k ((out ++ [own]).map castsI) (castsI []) LL (LL.length : Int) (a : Int) (castsI L) (L.length : Int) ((j + 1 : Nat) : Int) w h cs)
        else impl_tray_strI.l1 k (out.map castsI) (castsI (own ++ [x])) LL (LL.length : Int) (a : Int) (castsI L) (L.length : Int) ((j + 1 : Nat) : Int) w h cs := fun k => by
      rw [impl_tray_strI.l1, if_pos (by omega), if_pos (by omega), castsI_length, if_pos (by omega), hrd, if_pos (by omega), if_pos (by omega), HW.out, castsI_length]
      by_cases h35 : rd cs (x : Int) = 35
      · rw [if_pos h35, if_pos h35]
        by_cases h0 : own = []
        · rw [if_neg (by rw [h0]; decide), if_pos h0, h0]
        · have : 0 < own.length := List.length_pos_iff.2 h0
          rw [if_neg h0, if_pos (by omega), if_pos (by simp; omega), List.map_append]; rfl
      · rw [if_neg h35, if_neg h35, if_pos (by omega), casts_app, casts_one]
    refine Ev.step hs ?_
    by_cases h35 : rd cs (x : Int) = 35
    · have hop' : ¬ openAt cs x = true := fun e => hop.1 e h35
      rw [if_neg hop'] at hr
      refine Ev.congr (fun k => if_pos h35) ?_
      by_cases h0 : own = []
      · rw [if_pos h0] at hr
        exact Ev.congr (fun k => if_pos h0) (runs_l1 LL a ha r L hL hlt n (j + 1) out [] (by omega) (by omega) (by simp) hr)
      · rw [if_neg h0] at hr
        refine Ev.congr (fun k => if_neg h0) (runs_l1 LL a ha r L hL hlt n (j + 1) (out ++ [own]) [] (by omega) (by simp; omega) (by simp) ?_)
        rw [List.append_assoc]; exact hr
    · rw [if_pos (hop.2 h35)] at hr
      exact Ev.congr (fun k => if_neg h35) (runs_l1 LL a ha r L hL hlt n (j + 1) out (own ++ [x]) (by omega) (by omega) (by simp; omega) hr)
theorem runsF_len (p : Nat → Bool) : ∀ (l own : List Nat), (runsF p own l).length ≤ l.length + 1
  | [], own => by unfold runsF; split <;> simp
  | k :: l, own => by
    have h1 := runsF_len p l (own ++ [k])
    have h2 := runsF_len p l []
    unfold runsF
    split
    · simp; omega
    · split
      · simp; omega
      · simp; omega
theorem runs_l0 {w h : Nat} {cs : List Int} (S : List (List Nat)) (hS : S.length < 1000) (hall : ∀ L ∈ S, L.length < 10 ∧ ∀ x ∈ L, x < cs.length) : ∀ (n a : Nat) (out : List (List Nat)), a + n = S.length → out.length ≤ 20 * a →
    Ev (fun k => impl_tray_strI.l0 k (out.map castsI) (S.map castsI) ((S.map castsI).length : Int) (a : Int) w h cs) ((out ++ (S.drop a).flatMap (runsF (openAt cs) [])).map castsI)
  | 0, a, out, ha, ho => by
    rw [List.drop_eq_nil_of_le (by omega)]
    refine Ev.step (fun k => by rw [impl_tray_strI.l0, if_neg (by simp; omega)]) (Ev.congr (fun k => ?_) (Ev.now _))
    rw [List.flatMap_nil, List.append_nil]
  | n + 1, a, out, ha, ho => by
    have hal : a < S.length := by omega
    obtain ⟨q1, q2⟩ := hall _ (List.getElem_mem hal)
    have hrow := rows_at S a hal
    have hd := List.drop_eq_getElem_cons hal
    rw [hd, List.flatMap_cons, ← List.append_assoc]
    have hl := runsF_len (openAt cs) (S[a]'hal) []
    have ih := runs_l0 (w := w) (h := h) S hS hall n (a + 1) (out ++ runsF (openAt cs) [] (S[a]'hal)) (by omega) (by simp; omega)
    have := runs_l1 (w := w) (h := h) (S.map castsI) a (by omega) _ (S[a]'hal) (by omega) q2 (S[a]'hal).length 0 out [] (by omega) (by omega) (by simp) (by rw [List.drop_zero]; exact ih)
    refine Ev.step (fun k => ?_) this
    rw [impl_tray_strI.l0, if_pos (by simp; omega), if_pos (by omega), if_pos (by simp; omega), hrow, castsI_length]; rfl
section
variable {w h d : Nat} {cs : List Int} (hw : 1 ≤ w ∧ w ≤ 7) (hh : 1 ≤ h ∧ h ≤ 7) (hl : cs.length = w * h) (hd : d < 4)
include hw hh hl hd
theorem strI_ev : Ev (fun k => impl_tray_strI.f k w h cs (dirB d)) ((strI w h d cs).map castsI) := by
  have hM : lnM w h d ≤ 7 := by unfold lnM; split <;> omega
  have hK := lnK_le (d := d) hw.2 hh.2
  refine Ev.bind (lines_ev (cs := cs) hw hh hd) ?_
  have := runs_l0 (w := w) (h := h) (cs := cs) (linesD w h d) (by simp [linesD]; omega) (fun L hL => ?_) (linesD w h d).length 0 [] (by omega) (by simp)
  · exact this
  · obtain ⟨a, ha, rfl⟩ := List.mem_map.1 hL
    exact ⟨by rw [lineD_length]; omega, fun x hx => by rw [hl]; exact (mem_lines hd).1 (List.mem_flatten.2 ⟨_, hL, hx⟩)⟩
end
theorem foldl_cast : ∀ (l : List Nat) (m : Nat), (castsI l).foldl min (m : Int) = ((l.foldl Nat.min m : Nat) : Int)
  | [], m => rfl
  | a :: l, m => by
    show (castsI l).foldl min (min (m : Int) (a : Int)) = _
    have e : min (m : Int) (a : Int) = ((Nat.min m a : Nat) : Int) := by
      rcases Nat.le_total m a with h | h
      · rw [show Nat.min m a = m from Nat.min_eq_left h]; omega
      · rw [show Nat.min m a = a from Nat.min_eq_right h]; omega
    rw [e, foldl_cast l]; rfl
theorem minOf_casts {l : List Nat} (hne : l ≠ []) : Lib.minOf (castsI l) = ((leastL l : Nat) : Int) := by
  cases l with
  | nil => exact absurd rfl hne
  | cons a l =>
    show (castsI (a :: l)).foldl min ((a : Nat) : Int) = _
    rw [foldl_cast, List.foldl_cons, show Nat.min a a = a from Nat.min_self a]; rfl
theorem nat_casts (l : List Nat) : (castsI l).map Int.toNat = l := by
  unfold castsI
  rw [List.map_map]
  exact (List.map_congr_left fun x _ => rfl).trans (List.map_id l)
theorem sorted_back {S : List (List Nat)} (hne : ∀ st ∈ S, st ≠ []) {ys : List (List Int)} (hp : ys.Perm (S.map castsI)) (hs : ys.Pairwise fun a b => Lib.minOf a ≤ Lib.minOf b) :
    ∃ T : List (List Nat), ys = T.map castsI ∧ T.Perm S ∧ T.Pairwise fun a b => leastL a ≤ leastL b := by
  have hT : (ys.map fun y => y.map Int.toNat).Perm S := by
    refine (hp.map _).trans (List.Perm.of_eq ?_)
    rw [List.map_map]
    exact (List.map_congr_left fun x _ => nat_casts x).trans (List.map_id S)
  have hY : ys = (ys.map fun y => y.map Int.toNat).map castsI := by
    rw [List.map_map]
    refine ((List.map_congr_left fun y hy => ?_).trans (List.map_id ys)).symm
    obtain ⟨l, hl, rfl⟩ := List.mem_map.1 (hp.mem_iff.1 hy)
    show castsI ((castsI l).map Int.toNat) = _
    rw [nat_casts]; rfl
  refine ⟨_, hY, hT, ?_⟩
  rw [hY, List.pairwise_map] at hs
  refine List.Pairwise.imp_of_mem (fun {a b} ha hb hab => ?_) hs
  rw [minOf_casts (hne a (hT.mem_iff.1 ha)), minOf_casts (hne b (hT.mem_iff.1 hb))] at hab
  omega
end Go.Proofs.YtdffgeoegdkiaaaGreatDoor

namespace Go.Proofs.YtdffgeoegdkiaaaGreatDoor
open Go.RowKit Go.Proofs.YtdffgeoegdkiaaaGreatDoorW.PrintWords Go.Proofs.YtdffgeoegdkiaaaGreatDoorW.PrintLast Go.Proofs.YtdffgeoegdkiaaaGreatDoorW.PrintMore Go.Lib Go.Shelf Go.Proofs.YtdffgeoegdkiaaaGreatDoor.F Go.Maps
attribute [local go_sem] max2_int min2_int
theorem set3_cell {w : World} {b b' : Nat} (h : b ≠ b') (u0 u1 u2 : Value) (j : Nat) {v : Value} (hc : w.cell? ⟨b, j, none⟩ = some v) : (((w.setCell ⟨b', 0, none⟩ u0).setCell ⟨b', 1, none⟩ u1).setCell ⟨b', 2, none⟩ u2).cell? ⟨b, j, none⟩ = some v := by
  have ne : ∀ k, (⟨b', k, none⟩ : Addr) ≠ ⟨b, j, none⟩ := fun k e => by injection e with e; exact h e.symm
  rw [World.cell?_setCell_other _ _ _ _ (by first | exact ne 2 | exact (ne 2).symm), World.cell?_setCell_other _ _ _ _ (by first | exact ne 1 | exact (ne 1).symm), World.cell?_setCell_other _ _ _ _ (by first | exact ne 0 | exact (ne 0).symm)]
  exact hc
theorem R_set3 {w : World} {base : Nat} {v : Value} {xs : List Int} {b : Nat} (h : Kd.R (Kd.int .u8) 5 w base (fun _ => True) v xs) (hb : b < base) (u0 u1 u2 : Value) : Kd.R (Kd.int .u8) 5 (((w.setCell ⟨b, 0, none⟩ u0).setCell ⟨b, 1, none⟩ u1).setCell ⟨b, 2, none⟩ u2) base (fun _ => True) v xs := by
  have h1 := Kd.R_mono (Kd.R_bound h) (ok' := fun k => k ≠ b) (fun k hk => by have := hk.2.1; omega)
  exact Kd.R_mono (Kd.R_far (p := ⟨b, 2, none⟩) (Kd.R_far (p := ⟨b, 1, none⟩) (Kd.R_far (p := ⟨b, 0, none⟩) h1 (fun _ hk => hk) u0) (fun _ hk => hk) u1) (fun _ hk => hk) u2) (fun _ _ => trivial)
set_option maxRecDepth 100000 in
set_option maxHeartbeats 8000000 in
theorem tilted_calls (a0 a1 dir : Int) (A2 : Option Addr) (c2 : Nat) (l2 : List Int) (m : List (Nat × Nat)) (w : World) (hr2 : Kd.C (Kd.int .u8) w A2 l2.length l2) (hc2 : l2.length ≤ c2)
    (hl : 0 < l2.length ∧ l2.length < 65536) (hn : (m.map Prod.fst).Nodup) (hs : (m.map Prod.snd).Nodup) (hlt : ∀ p ∈ m, p.1 < l2.length ∧ p.2 < l2.length)
    (hcall : ∀ W, Below w.heap.size w W → Calls Tryz.prog 108 #[.agg #[.int .i64 a0, .int .i64 a1, .slice A2 l2.length c2], .int .u8 dir] W fun e w' => ∃ b, e = .returned (.map (some b)) ∧ W.heap.size ≤ b ∧ MapAt w' b m ∧ Below W.heap.size W w') :
    Calls Tryz.prog 109 #[.agg #[.int .i64 a0, .int .i64 a1, .slice A2 l2.length c2], .int .u8 dir] w fun e w' => ∃ v2_ : Value, e = .returned (.agg #[.int .i64 a0, .int .i64 a1, v2_]) ∧ Kd.R (Kd.int .u8) 5 w' w.heap.size (fun _ => True) v2_ (putAll l2 (wallsL l2) m) ∧ Below w.heap.size w w' := by
  have HR := am hr2
  have HC := am hc2
  have HL := am hl
  have HN := am (And.intro hn (And.intro hs hlt))
  have HB := am (Below.refl w.heap.size w)
  have HCALL := am hcall
  clear hr2 hc2 hl hn hs hlt hcall
  go_enter Tryz.func109, Tryz.ntmps109
  go_wp2_with (first
    | ((with_reducible refine gate_dst (N := 2) rfl ?_); refine box_event ?hg (N := 2) ?hd (cs := #[.int .i64 a0, .int .i64 a1, .slice A2 l2.length c2]) (t := 93) ?hr ?_; (case hd => rfl); (case hg => rfl); (case hr => first | (go_simp; done) | (go_simp; rfl)); intro b1 hg1 w3 hbox1 hb1; have L0 := am (blk_lt hbox1); have G1 := am hg1; have X1 := am hbox1; have B1 := am hb1; clear hg1 hbox1 hb1)
    | ((with_reducible refine gate_dst (N := 4) rfl ?_); refine box_event ?hg (N := 4) ?hd (cs := #[.int .i64 0, .int .i64 0, .slice none 0 0]) (t := 93) ?hr ?_; (case hd => rfl); (case hg => rfl); (case hr => first | (go_simp; done) | (go_simp; rfl)); intro b2 hg2 w4 hbox2 hb2; have G2 := am hg2; have X2 := am hbox2; have B2 := am (below_step B1.out hb2); have n1 := am (blk_below X1.out hb2); clear X1; have X1 := n1; clear n1; clear hg2 hbox2 hb2))
  have z10 : w4.cell? ⟨b1, 0, none⟩ = some (.int .i64 a0) := (blk_cell X1.out 0).trans rfl
  have z11 : w4.cell? ⟨b1, 1, none⟩ = some (.int .i64 a1) := (blk_cell X1.out 1).trans rfl
  have z12 : w4.cell? ⟨b1, 2, none⟩ = some (.slice A2 l2.length c2) := (blk_cell X1.out 2).trans rfl
  have L1 := am (blk_lt X1.out)
  have hb12 : b1 ≠ b2 := by have h1 := L0.out; have h2 := G2.out; omega
  have HSL := fun W (h : Below w.heap.size w W) => HCALL.out W h
  go_region_held3 (fun w' => w'.cell? ⟨b1, 0, none⟩ = some (.int .i64 a0) ∧ w'.cell? ⟨b1, 1, none⟩ = some (.int .i64 a1) ∧ w'.cell? ⟨b1, 2, none⟩ = some (.slice A2 l2.length c2)) (first | go_keep | exact ⟨y10, y11, y12⟩ | exact ⟨x10, x11, x12⟩ | exact ⟨set3_cell hb12 _ _ _ 0 x10, set3_cell hb12 _ _ _ 1 x11, set3_cell hb12 _ _ _ 2 x12⟩)
    ((first
      | (go_simp; go_at_call 108; refine (HSL _ (below_drew1 B2.out)).mono ?_; rintro e w5 ⟨b, rfl, hb0, hm, hb⟩; have Y5 := blk_below (w := w4.drew) X1.out hb; have y10 : w5.cell? ⟨b1, 0, none⟩ = some (.int .i64 a0) := (blk_cell Y5 0).trans rfl; have y11 : w5.cell? ⟨b1, 1, none⟩ = some (.int .i64 a1) := (blk_cell Y5 1).trans rfl; have y12 : w5.cell? ⟨b1, 2, none⟩ = some (.slice A2 l2.length c2) := (blk_cell Y5 2).trans rfl; have B5 := am (below_step (below_drew1 B2.out) hb); have M5 := am hm; have X5 := am (blk_below (w := w4.drew) X2.out hb); have Y6 := am Y5; clear hb0 hm hb Y5)
      | (go_simp; go_at_call 152; refine (impl_tray_carried.calls a0 a1 A2 c2 l2 b m _ (Kd.C_below HR.out B5.out) HC.out HL.out M5.out HN.out.1 HN.out.2.1 HN.out.2.2).mono ?_; rintro e w6 ⟨v, rfl, ho, hb⟩; obtain ⟨Ao, co, rfl⟩ := Kd.R_slice ho; have HO := am ho; have B6 := am (below_step B5.out hb); have X6 := am (blk_below X5.out hb); have Z6 := blk_below Y6.out hb; have x10 : w6.cell? ⟨b1, 0, none⟩ = some (.int .i64 a0) := (blk_cell Z6 0).trans rfl; have x11 : w6.cell? ⟨b1, 1, none⟩ = some (.int .i64 a1) := (blk_cell Z6 1).trans rfl; have x12 : w6.cell? ⟨b1, 2, none⟩ = some (.slice A2 l2.length c2) := (blk_cell Z6 2).trans rfl; have d0 : w6.cell? ⟨b2, 0, none⟩ = some (.int .i64 0) := (blk_cell X6.out 0).trans rfl; have d1 : w6.cell? ⟨b2, 1, none⟩ = some (.int .i64 0) := (blk_cell X6.out 1).trans rfl; have d2 : w6.cell? ⟨b2, 2, none⟩ = some (.slice none 0 0) := (blk_cell X6.out 2).trans rfl; have f0 := blk_frozen X6.out 0; have f1 := blk_frozen X6.out 1; have f2 := blk_frozen X6.out 2; clear ho hb Z6)))
  obtain ⟨n, hn⟩ : ∃ n, (putAll l2 (wallsL l2) m).length = n := ⟨_, rfl⟩
  have h2w : w.heap.size ≤ b2 := by rw [G2.out]; exact B1.out.size
  try simp only [hn]
  go_wp2
  have hb25 : b2 < w5.heap.size := blk_lt X5.out
  refine bodyPost_ret (results_cell_row rfl _ _ b2 93 #[.int .i64 a0, .int .i64 a1, .slice Ao n co] (0, 0) _ rfl (by exact blk_put (blk_put (blk_put X6.out 0 (.int .i64 a0) rfl) 1 (.int .i64 a1) rfl) 2 (.slice Ao n co) rfl) Tryz.underlying93 rfl (by kernel_rfl)) rfl ?_
  refine ⟨.slice Ao n co, rfl, ?_, ((B6.out.setCell (p := ⟨b2, 0, none⟩) h2w _).setCell (p := ⟨b2, 1, none⟩) h2w _).setCell (p := ⟨b2, 2, none⟩) h2w _⟩
  have hO := HO.out
  rw [hn] at hO
  exact Kd.R_lower (R_set3 hO hb25 _ _ _) B5.out.size
end Go.Proofs.YtdffgeoegdkiaaaGreatDoor

namespace Go.Proofs.YtdffgeoegdkiaaaGreatDoor
open Go.RowKit Go.Proofs.YtdffgeoegdkiaaaGreatDoorW.PrintWords Go.Proofs.YtdffgeoegdkiaaaGreatDoorW.PrintLast Go.Proofs.YtdffgeoegdkiaaaGreatDoorW.PrintMore Go.Lib Go.Proofs.YtdffgeoegdkiaaaGreatDoor.F
theorem stretches_calls {w h d : Nat} {cs : List Int} (hw : 1 ≤ w ∧ w ≤ 7) (hh : 1 ≤ h ∧ h ≤ 7) (hl : cs.length = w * h) (hd : d < 4) (A2 : Option Addr) (c2 : Nat) (W : World) (hr2 : Kd.C (Kd.int .u8) W A2 cs.length cs) (hc2 : cs.length ≤ c2) :
    Calls Tryz.prog 151 #[.agg #[.int .i64 w, .int .i64 h, .slice A2 cs.length c2], .int .u8 (dirB d)] W fun e w' => ∃ v, e = .returned v ∧ Kd.R (Kd.slice 3 (Kd.int .i64)) 28 w' W.heap.size (fun _ => True) v ((strD w h d cs).map castsI) ∧ Below W.heap.size W w' := by
  obtain ⟨k, hk⟩ := Ev.rounds (strI_ev hw hh hl hd)
  have hp := strD_perm hd cs (w := w) (h := h)
  obtain ⟨f1, f2, f3, f4, f5⟩ := strD_facts hw hh hl hd
  have hne := strI_ne (w := w) (h := h) (d := d) (cs := cs)
  have hml : ∀ st ∈ strI w h d cs, Lib.minOf (castsI st) = ((leastL st : Nat) : Int) ∧ leastL st < 65536 := fun st hs => by
    have h1 := f2 st (hp.mem_iff.2 hs) _ (leastL_mem (hne st hs))
    have h2 := f1.2
    exact ⟨minOf_casts (hne st hs), by omega⟩
  refine (impl_tray_strI.calls k w h A2 c2 cs (dirB d) _ W hr2 hc2 (fun x hx => ?_) (by rw [List.length_map, ← hp.length_eq]; exact f4) (fun x hx => ?_) hk).mono ?_
  · obtain ⟨st, hs, rfl⟩ := List.mem_map.1 hx
    intro e
    have := hne st hs
    unfold castsI at e
    exact this (List.map_eq_nil_iff.1 e)
  · obtain ⟨st, hs, rfl⟩ := List.mem_map.1 hx
    obtain ⟨h1, h2⟩ := hml st hs
    rw [h1]; omega
  · rintro e w' ⟨v, rfl, ⟨ys, hp', hs', hR⟩, hb⟩
    obtain ⟨T, rfl, hT, hsT⟩ := sorted_back hne hp' hs'
    rw [strD_of hd hT hsT] at hR
    exact ⟨v, rfl, hR, hb⟩
def impl_tray_tilted.f (a0 a1 : Int) (l : List Int) (c : Int) : Option (Int × Int × List Int) := if gridI a0 a1 l ∧ isDirC c = true then some (a0, a1, tiltD a0.toNat a1.toNat (dirIx c).toNat l) else none
theorem impl_tilted_eq {w h : Nat} {cs : List Int} {c : Int} (hw : 1 ≤ w ∧ w ≤ 7) (hh : 1 ≤ h ∧ h ≤ 7) (hl : cs.length = w * h) (hc : isDirC c = true) : impl_tray_tilted.f w h cs c = some ((w : Int), (h : Int), tiltD w h (dirIx c).toNat cs) := if_pos ⟨gridI_nat hw hh hl, hc⟩
theorem slide_calls {w h d : Nat} {cs : List Int} (hw : 1 ≤ w ∧ w ≤ 7) (hh : 1 ≤ h ∧ h ≤ 7) (hl : cs.length = w * h) (hd : d < 4) (A2 : Option Addr) (c2 : Nat) (W : World) (hr2 : Kd.C (Kd.int .u8) W A2 cs.length cs) (hc2 : cs.length ≤ c2) :
    Calls Tryz.prog 108 #[.agg #[.int .i64 w, .int .i64 h, .slice A2 cs.length c2], .int .u8 (dirB d)] W fun e w' => ∃ b, e = .returned (.map (some b)) ∧ W.heap.size ≤ b ∧ MapAt w' b (mvD w h d cs) ∧ Below W.heap.size W w' := by
  obtain ⟨f1, f2, f3, f4, f5⟩ := strD_facts hw hh hl hd
  exact impl_tray_slide.calls w h (dirB d) A2 c2 cs (strD w h d cs) W hr2 hc2 f1 f2 f3 f4 f5 fun W' hW => stretches_calls hw hh hl hd A2 c2 W' (Kd.C_below hr2 hW) hc2
theorem impl_tray_tilted.calls (a0_0 a0_1 : Int) (A0_2 : Option Addr) (c0_2 : Nat) (l0_2 : List Int) (a1 : Int) (r1 r2 : Int) (r3 : List Int) (w : World) (hr0_2 : Kd.C (Kd.int .u8) w A0_2 l0_2.length l0_2) (hc0_2 : l0_2.length ≤ c0_2) (h : impl_tray_tilted.f a0_0 a0_1 l0_2 a1 = some (r1, r2, r3)) :
    Calls Tryz.prog 109 #[.agg #[.int .i64 a0_0, .int .i64 a0_1, .slice A0_2 l0_2.length c0_2], .int .u8 a1] w fun e w' => ∃ v2_ : Value, e = .returned (.agg #[.int .i64 r1, .int .i64 r2, v2_]) ∧ Kd.R (Kd.int .u8) 5 w' w.heap.size (fun _ => True) v2_ r3 ∧ Below w.heap.size w w' := by
  unfold impl_tray_tilted.f at h
  split at h
  case isFalse => cases h
  rename_i hc
  obtain ⟨⟨hw, hh, hl⟩, hdir⟩ := hc
  injection h with h
  injection h with h1 h
  injection h with h2 h3
  subst h1 h2 h3
  obtain ⟨W, rfl⟩ : ∃ n : Nat, a0_0 = n := ⟨a0_0.toNat, by omega⟩
  obtain ⟨H, rfl⟩ : ∃ n : Nat, a0_1 = n := ⟨a0_1.toNat, by omega⟩
  obtain ⟨e1, hd', _⟩ := dirB_ix hdir
  generalize (dirIx a1).toNat = d at *
  subst e1
  simp only [Int.toNat_natCast] at hl ⊢
  have hw' : 1 ≤ W ∧ W ≤ 7 := by omega
  have hh' : 1 ≤ H ∧ H ≤ 7 := by omega
  obtain ⟨f1, _⟩ := strD_facts hw' hh' hl hd'
  exact tilted_calls W H (dirB d) A0_2 c0_2 l0_2 (mvD W H d l0_2) w hr0_2 hc0_2 f1 (mv_fst hd') (mv_snd hd') (fun p hp => by
    have := mv_mem hd' hp
    rw [hl]; exact ⟨this.1, this.2.2.1⟩) (fun W' hW => slide_calls hw' hh' hl hd' A0_2 c0_2 W' (Kd.C_below hr0_2 hW) hc0_2)
end Go.Proofs.YtdffgeoegdkiaaaGreatDoor

namespace Go.Proofs.YtdffgeoegdkiaaaGreatDoor.F
open Go.Proofs.YtdffgeoegdkiaaaGreatDoor
open Go.RowKit Go.Proofs.YtdffgeoegdkiaaaGreatDoorW.PrintWords Go.Proofs.YtdffgeoegdkiaaaGreatDoorW.PrintLast Go.Proofs.YtdffgeoegdkiaaaGreatDoorW.PrintMore
attribute [local go_sem] max2_int min2_int max_two min_two max_three min_three max_four min_four
def impl_tray_tiltedAll.l0 : Nat → List Int → Int → Int → Int → Int → List Int → Option (Int × Int × List Int)
 | 0, _, _, _, _, _, _ => none
 | k + 1, x8, x9, x10, x102000, x102001, x102002 => if x10 < x9 then (if 0 ≤ x10 then (if x10 < (x8.length : Int) then ((impl_tray_tilted.f x102000 x102001 x102002 (rd x8 x10)).bind fun bt107 => (impl_tray_tiltedAll.l0 k x8 x9 (wrap64 (x10 + 1)) bt107.1 bt107.2.1 bt107.2.2)) else (none)) else (none)) else (some (x102000, x102001, x102002))
theorem impl_tray_tiltedAll.mono_l : ∀ k, (∀ y0 y1 y2 y3 y4 y5, LeO (impl_tray_tiltedAll.l0 k y0 y1 y2 y3 y4 y5) (impl_tray_tiltedAll.l0 (k + 1) y0 y1 y2 y3 y4 y5))
 | 0 => fun _ _ _ _ _ _ r h => by simp [impl_tray_tiltedAll.l0] at h
 | k + 1 => by
  have ih0 := impl_tray_tiltedAll.mono_l k
  ·intro y0 y1 y2 y3 y4 y5
   unfold impl_tray_tiltedAll.l0
   exact mo
def spec_tiRun.l0 : Nat → ByteArray → Int → Int → Int → List Int → Option (Int × Int × List Int)
 | 0, _, _, _, _, _ => none
 | k + 1, x1, x5, x102000, x102001, x102002 => if x5 < (x1.size : Int) then (if 0 ≤ x5 then (if x5 ≤ (wrap64 (x5 + 1)) then (if (wrap64 (x5 + 1)) ≤ (x1.size : Int) then ((spec_tiDir.f k (x1.extract (x5 : Int).toNat ((wrap64 (x5 + 1)) : Int).toNat)).bind fun t103 => ((spec_tiTilt.f x102000 x102001 x102002 t103).bind fun bt104 => (spec_tiRun.l0 k x1 (wrap64 (x5 + 1)) bt104.1 bt104.2.1 bt104.2.2))) else (none)) else (none)) else (none)) else (some (x102000, x102001, x102002))
def spec_tiRun.f (k : Nat) (a0_0 : Int) (a0_1 : Int) (l0_2 : List Int) (a1 : ByteArray) : Option (Int × Int × List Int) := spec_tiRun.l0 k a1 0 a0_0 a0_1 l0_2
theorem spec_tiRun.mono_l : ∀ k, (∀ y0 y1 y2 y3 y4, LeO (spec_tiRun.l0 k y0 y1 y2 y3 y4) (spec_tiRun.l0 (k + 1) y0 y1 y2 y3 y4))
 | 0 => fun _ _ _ _ _ r h => by simp [spec_tiRun.l0] at h
 | k + 1 => by
  have ih0 := spec_tiRun.mono_l k
  ·intro y0 y1 y2 y3 y4
   unfold spec_tiRun.l0
   have im0 := @spec_tiDir.mono; exact mo
theorem spec_tiRun.mono : ∀ a0 a1 a2 a3 k, LeO (spec_tiRun.f k a0 a1 a2 a3) (spec_tiRun.f (k + 1) a0 a1 a2 a3) := by
 intro a0 a1 a2 a3 k
 have ih0 := spec_tiRun.mono_l k
 unfold spec_tiRun.f
 have im0 := @spec_tiDir.mono; exact mo
end Go.Proofs.YtdffgeoegdkiaaaGreatDoor.F

namespace Go.Proofs.YtdffgeoegdkiaaaGreatDoor.F
open Go.RowKit Go.Proofs.YtdffgeoegdkiaaaGreatDoor Go.Proofs.YtdffgeoegdkiaaaGreatDoorW.PrintWords Go.Proofs.YtdffgeoegdkiaaaGreatDoorW.PrintMore
section
variable {w h : Nat} (hw : 1 ≤ w ∧ w ≤ 7) (hh : 1 ≤ h ∧ h ≤ 7)
include hw hh
end
end Go.Proofs.YtdffgeoegdkiaaaGreatDoor.F

namespace Go.Proofs.YtdffgeoegdkiaaaGreatDoor.F
open Go.Proofs.YtdffgeoegdkiaaaGreatDoor
open Go.RowKit Go.Proofs.YtdffgeoegdkiaaaGreatDoorW.PrintWords Go.Proofs.YtdffgeoegdkiaaaGreatDoorW.PrintLast Go.Proofs.YtdffgeoegdkiaaaGreatDoorW.PrintMore
attribute [local go_sem] max2_int min2_int max_two min_two max_three min_three max_four min_four
mutual
def spec_tiMoves.l0 : Nat → List Int → List (List Int) → Int → Int → Int → Int → List Int → Option (List Int)
  | 0, _, _, _, _, _, _, _ => none
  | k + 1, x5, x13, x14, x15, x102000, x102001, x102002 => if x15 < x14 then (if 0 ≤ x15 then (if x15 < (x13.length : Int) then (spec_tiMoves.l1 k x5 0 x13 x14 x15 (rd_L3 x13 x15) ((rd_L3 x13 x15).length : Int) 0 x102000 x102001 x102002) else (none)) else (none)) else (some x5)
def spec_tiMoves.l1 : Nat → List Int → Int → List (List Int) → Int → Int → List Int → Int → Int → Int → Int → List Int → Option (List Int)
  | 0, _, _, _, _, _, _, _, _, _, _, _ => none
  | k + 1, x5, x8, x13, x14, x15, x19, x20, x21, x102000, x102001, x102002 => if x21 < x20 then (if 0 ≤ x21 then (if x21 < (x19.length : Int) then (if 0 ≤ (rd x19 x21) then (if (rd x19 x21) < (x102002.length : Int) then ((spec_tyBall.f (rd x102002 (rd x19 x21))).bind fun t108 => (if t108 = true then (if x5.length < 17592186044416 then (spec_tiMoves.l1 k (x5 ++ [wrap64 (x21 - x8)]) (wrap64 (x8 + 1)) x13 x14 x15 x19 x20 (wrap64 (x21 + 1)) x102000 x102001 x102002) else (none)) else (spec_tiMoves.l1 k x5 x8 x13 x14 x15 x19 x20 (wrap64 (x21 + 1)) x102000 x102001 x102002))) else (none)) else (none)) else (none)) else (none)) else (spec_tiMoves.l0 k x5 x13 x14 (wrap64 (x15 + 1)) x102000 x102001 x102002)
end
def spec_tiMoves.f (k : Nat) (a0_0 : Int) (a0_1 : Int) (l0_2 : List Int) (a1 : Int) : Option (List Int) := (spec_tiStretches.f k a0_0 a0_1 l0_2 a1).bind fun t102 => (spec_tiMoves.l0 k ([] : List Int) t102 (t102.length : Int) 0 a0_0 a0_1 l0_2)
theorem spec_tiMoves.mono_l : ∀ k, (∀ y0 y1 y2 y3 y4 y5 y6, LeO (spec_tiMoves.l0 k y0 y1 y2 y3 y4 y5 y6) (spec_tiMoves.l0 (k + 1) y0 y1 y2 y3 y4 y5 y6)) ∧ (∀ y0 y1 y2 y3 y4 y5 y6 y7 y8 y9 y10, LeO (spec_tiMoves.l1 k y0 y1 y2 y3 y4 y5 y6 y7 y8 y9 y10) (spec_tiMoves.l1 (k + 1) y0 y1 y2 y3 y4 y5 y6 y7 y8 y9 y10))
  | 0 => ⟨fun _ _ _ _ _ _ _ r h => by simp [spec_tiMoves.l0] at h, fun _ _ _ _ _ _ _ _ _ _ _ r h => by simp [spec_tiMoves.l1] at h⟩
  | k + 1 => by
    obtain ⟨ih0, ih1⟩ := spec_tiMoves.mono_l k
    refine ⟨?_, ?_⟩
    · intro y0 y1 y2 y3 y4 y5 y6
      unfold spec_tiMoves.l0
      have im0 := @spec_tiStretches.mono; exact mo
    · intro y0 y1 y2 y3 y4 y5 y6 y7 y8 y9 y10
      unfold spec_tiMoves.l1
      have im0 := @spec_tiStretches.mono; exact mo
theorem spec_tiMoves.mono : ∀ a0 a1 a2 a3 k, LeO (spec_tiMoves.f k a0 a1 a2 a3) (spec_tiMoves.f (k + 1) a0 a1 a2 a3) := by
  intro a0 a1 a2 a3 k
  obtain ⟨ih0, ih1⟩ := spec_tiMoves.mono_l k
  unfold spec_tiMoves.f
  have im0 := @spec_tiStretches.mono; exact mo
set_option maxHeartbeats 8000000 in
set_option maxRecDepth 100000 in
theorem spec_tiMoves.calls (k : Nat) (a0_0 : Int) (a0_1 : Int) (A0_2 : Option Addr) (c0_2 : Nat) (l0_2 : List Int) (a1 : Int) (r : List Int) (w : World) (hr0_2 : Kd.C (Kd.int .u8) w A0_2 l0_2.length l0_2) (hc0_2 : l0_2.length ≤ c0_2) (h : spec_tiMoves.f k a0_0 a0_1 l0_2 a1 = some r) :
    Calls Tryz.prog 133 #[.agg #[.int .i64 a0_0, .int .i64 a0_1, .slice A0_2 l0_2.length c0_2], .int .i64 a1] w fun e w' => ∃ v0_ : Value, e = .returned (v0_) ∧ Kd.R (Kd.int .i64) 3 w' w.heap.size (fun _ => True) v0_ r ∧ Below w.heap.size w w' := by
  have hu62 := Tryz.underlying62
  have HR0_2 := am hr0_2
  have HC0_2 := am hc0_2
  clear hr0_2 hc0_2
  have HB := am (Below.refl w.heap.size w)
  have H : ((spec_tiStretches.f k a0_0 a0_1 l0_2 a1).bind fun t102 => (spec_tiMoves.l0 k ([] : List Int) t102 (t102.length : Int) 0 a0_0 a0_1 l0_2)) = some r := h
  clear h
  replace H := Option.bind_eq_some_iff.mp H
  obtain ⟨t102, A30, H⟩ := H
  replace H : (spec_tiMoves.l0 k ([] : List Int) t102 (t102.length : Int) 0 a0_0 a0_1 l0_2) = some r := H
  have A3 := am A30
  clear A30
  have H' := am H
  clear H
  go_enter Tryz.func133, Tryz.ntmps133
  go_wp2_with (first | ((with_reducible refine gate_dst (N := 2) rfl ?_); refine box_event ?hg (N := 2) ?hd (cs := #[.int .i64 a0_0, .int .i64 a0_1, .slice A0_2 l0_2.length c0_2]) (t := 62) ?hr ?_; (case hd => rfl); (case hg => rfl); (case hr => first | (go_simp; done) | (go_simp; rfl)); intro gb101 hg w4 hbox hb; have n0_ := am (below_step (by repeat (first | (with_reducible first | exact HB.out | apply below_alloc | apply pw_below_drewN | apply below_drew1) | exact HB.out)) hb); have n1_ := am (hbox); have n2_ := am ((by rw [hg]; exact (below_size (by repeat (first | (with_reducible first | exact HB.out | apply below_alloc | apply pw_below_drewN | apply below_drew1) | exact HB.out))) : w.heap.size ≤ gb101)); have n3_ := am ((by rw [hg]; exact (below_size (by repeat (first | (with_reducible first | exact HB.out | apply below_alloc | apply pw_below_drewN | apply below_drew1) | exact HB.out))) : w.heap.size ≤ gb101)); clear HB; have HB := n0_; have BK101 := n1_; have GW101 := n2_; have GE101 := n3_; clear n0_ n1_ n2_ n3_; clear hb hbox hg; have hcz5_0 : w4.cell? ⟨gb101, 0, none⟩ = some (.int .i64 a0_0) := (blk_cell BK101.out 0).trans rfl; have hcz5_1 : w4.cell? ⟨gb101, 1, none⟩ = some (.int .i64 a0_1) := (blk_cell BK101.out 1).trans rfl; have hcz5_2 : w4.cell? ⟨gb101, 2, none⟩ = some (.slice A0_2 l0_2.length c0_2) := (blk_cell BK101.out 2).trans rfl; have hfz5_0 := blk_frozen BK101.out 0; have hfz5_1 := blk_frozen BK101.out 1; have hfz5_2 := blk_frozen BK101.out 2) | ((with_reducible refine gate_callee (f := 125) rfl ?_); refine goesL_ (some 13) rfl rfl Tryz.func125 (by kernel_rfl) rfl #[.agg #[.int .i64 a0_0, .int .i64 a0_1, .slice A0_2 l0_2.length c0_2], .int .i64 a1] rfl (by (try simp only [List.map_toArray, List.map_cons, List.map_nil]); first | done | rfl | (simp only [List.length_drop, List.length_take]; rfl)) ?_; (with_reducible refine (spec_tiStretches.calls k a0_0 a0_1 _ _ l0_2 a1 t102 _ ?side1 ?side2 A3.out).mono ?_); (case side1 => repeat (first | exact (Kd.C_below HR0_2.out HB.out) | (with_reducible refine Kd.C_alloc ?_ _) | (with_reducible refine Kd.C_drewN ?_ _) | (with_reducible refine Kd.C_drew ?_))); (case side2 => exact HC0_2.out); rintro e w6 ⟨v103, rfl, ho0, hb⟩; refine ⟨_, rfl, ?_⟩; have n0_ := am (Kd.N_lower (Kd.N_mono (ok' := fun k_ => k_ ≠ gb101) ho0 (fun k_ hk_ => (Kd.freshB (g := gb101) (o := .cells #[.int .i64 a0_0, .int .i64 a0_1, .slice A0_2 l0_2.length c0_2] 62 (0, 0)) (by (with_reducible repeat (first | refine blk_drewN ?_ _ | refine blk_drew ?_ | refine blk_alloc ?_ _)); exact BK101.out) k_ hk_))) (below_size (by repeat (first | (with_reducible first | exact HB.out | apply below_alloc | apply pw_below_drewN | apply below_drew1 | refine below_set ?_ GE101.out) | exact HB.out)))); have n1_ := am (blk_below (g := gb101) (o := .cells #[.int .i64 a0_0, .int .i64 a0_1, .slice A0_2 l0_2.length c0_2] 62 (0, 0)) (by (with_reducible repeat (first | refine blk_drewN ?_ _ | refine blk_drew ?_ | refine blk_alloc ?_ _)); exact BK101.out) hb); have n2_ := am (below_step (by repeat (first | (with_reducible first | exact HB.out | apply below_alloc | apply pw_below_drewN | apply below_drew1 | refine below_set ?_ GE101.out) | exact HB.out)) hb); clear BK101; clear HB; have HO104 := n0_; have BK101 := n1_; have HB := n2_; clear n0_ n1_ n2_; (try clear hb); (try clear hb2); (try clear hk); (try clear hi); (try clear ho0); obtain ⟨Ao7, co7, eo7⟩ := Kd.N_slice HO104.out; subst eo7))
  go_loopg [5, 15] k (fun kq v5 v15 w' => ∃ (x5_1 : List Int) (x15_1 : Int), v15 = .int .i64 x15_1 ∧ Aside0 (spec_tiMoves.l0 kq x5_1 t102 (t102.length : Int) x15_1 a0_0 a0_1 l0_2 = some r) ∧ Aside0 (kq ≤ k) ∧ Aside0 (Kd.R (Kd.int .i64) 3 w' w.heap.size (fun _ => True) v5 x5_1) ∧ Aside0 (Kd.N (Kd.slice 3 (Kd.int .i64)) 28 w' w.heap.size (fun k_ => some k_ ≠ (v5 : Value).ownBlock ∧ k_ ≠ gb101) (.slice Ao7 t102.length co7) t102) ∧ Aside0 (w'.heap[gb101]? = some (.cells #[.int .i64 a0_0, .int .i64 a0_1, (.slice A0_2 l0_2.length c0_2)] 62 (0, 0))) ∧ Aside0 (Below w.heap.size w w'))
  case atStart => exact ⟨(([] : List Int)), (0), (by first | rfl | (simp; done) | (simp [*]; done)), H', ⟨Nat.le_refl _⟩, ⟨by first | exact Kd.R_nil _ _ _ _ _ | exact Kd.N_nil _ _ _ _ _ | exact Kd.V_nil _ _ _ _ _ | exact Kd.Q_nil _ _ _ _ _ | exact Kd.S_nil _ _ _ _ _⟩, ⟨by (with_reducible repeat (first | apply Kd.N_alloc | apply Kd.N_drewN | apply Kd.N_drew)); exact Kd.N_mono HO104.out (fun _ hk => ⟨(by simp [Value.ownBlock]), hk⟩)⟩, ⟨by (with_reducible repeat (first | refine blk_drewN ?_ _ | refine blk_drew ?_ | refine blk_alloc ?_ _)); exact BK101.out⟩, ⟨by repeat (first | (with_reducible first | exact HB.out | apply below_alloc | apply pw_below_drewN | apply below_drew1 | refine below_set ?_ GE101.out) | exact HB.out)⟩⟩
  case round =>
    clear H'
    try clear c1
    try clear p2
    try clear hcz5_0
    try clear hcz5_1
    try clear hcz5_2
    try clear hfz5_0
    try clear hfz5_1
    try clear hfz5_2
    obtain ⟨x5_1, x15_1, rfl, HA, HK1, HO_5, HO_13, BK101, HB⟩ := hrel
    cases gk with
    | zero => exact absurd HA.out (by simp [spec_tiMoves.l0])
    | succ k1 =>
      have H := HA.out
      clear HA
      simp only [spec_tiMoves.l0] at H
      by_cases c8 : x15_1 < (t102.length : Int)
      · rw [if_pos c8] at H
        have c8b0 : decide (x15_1 < (t102.length : Int)) = true := decide_eq_true c8
        clear c8
        by_cases c9 : 0 ≤ x15_1
        · rw [if_pos c9] at H
          have c9b0 : decide (0 ≤ x15_1) = true := decide_eq_true c9
          clear c9
          by_cases c10 : x15_1 < (t102.length : Int)
          · rw [if_pos c10] at H
            have c10b0 : decide (x15_1 < (t102.length : Int)) = true := decide_eq_true c10
            clear c10
            have H' := am H
            clear H
            have p105 : 0 ≤ (x15_1 : Int) := of_decide_eq_true (by first | (with_reducible assumption) | assumption)
            have q105 : x15_1 < (t102.length : Int) := of_decide_eq_true (by first | (with_reducible assumption) | assumption)
            obtain ⟨ad105, A105_0, c105_0, e105, hx105_0, hl105_0, hi105_0⟩ := at_L3 (Kd.N_reads' HO_13.out).2.2 x15_1 p105 q105
            cases e105
            obtain ⟨ce105, hce105, hMe105, hcc105⟩ := Kd.N_get HO_13.out [] x15_1 p105 (by first | exact q105 | exact of_decide_eq_true (by first | (with_reducible assumption) | assumption) | (have e_ := (Kd.N_reads' HO_13.out).1; omega))
            obtain ⟨ua105_0, uc105_0, rfl, ul105_0, ge105_0⟩ := Kd.FK_slice_open hMe105
            have hv105_0 := hcc105 0 _ rfl
            rw [Nat.add_zero, show ((Kd.slice 3 (Kd.int .i64))).sz = 1 from rfl, Nat.mul_one] at hv105_0
            replace hv105_0 := Option.some.inj (hv105_0.symm.trans hx105_0)
            injection hv105_0 with hva_ hvn_ hvc_
            rw [hva_] at ge105_0
            rw [hvc_] at ul105_0
            have HL105_0 := am (show Kd.V (Kd.int .i64) 3 _ w.heap.size _ _ (rd_L3 t102 x15_1) from Kd.V_mk ul105_0 ge105_0)
            clear hva_ hvn_ hvc_ ge105_0 ul105_0
            clear hcc105 hce105
            have HR105_0 := am hi105_0
            have HC105_0 := am hl105_0
            clear hi105_0 hl105_0
            replace p105 := eq_true p105
            replace q105 := eq_true q105
            go_wp2
            go_loopg [5, 8, 21] k1 (fun kq v5 v8 v21 w' => ∃ (x5_2 : List Int) (x8_2 : Int) (x21_2 : Int), v8 = .int .i64 x8_2 ∧ v21 = .int .i64 x21_2 ∧ Aside0 (spec_tiMoves.l1 kq x5_2 x8_2 t102 (t102.length : Int) x15_1 (rd_L3 t102 x15_1) ((rd_L3 t102 x15_1).length : Int) x21_2 a0_0 a0_1 l0_2 = some r) ∧ Aside0 (kq ≤ k1) ∧ Aside0 (Kd.R (Kd.int .i64) 3 w' w.heap.size (fun _ => True) v5 x5_2) ∧ Aside0 (Kd.N (Kd.slice 3 (Kd.int .i64)) 28 w' w.heap.size (fun k_ => some k_ ≠ (v5 : Value).ownBlock ∧ k_ ≠ gb101) (.slice (some ad105) t102.length co7) t102) ∧ Aside0 (w'.heap[gb101]? = some (.cells #[.int .i64 a0_0, .int .i64 a0_1, (.slice A0_2 l0_2.length c0_2)] 62 (0, 0))) ∧ Aside0 (Below w.heap.size w w') ∧ Aside0 (Kd.V (Kd.int .i64) 3 w' w.heap.size (fun k_ => some k_ ≠ (v5 : Value).ownBlock ∧ k_ ≠ gb101) (.slice A105_0 (rd_L3 t102 x15_1).length c105_0) (rd_L3 t102 x15_1)))
            case atStart => exact ⟨(x5_1), (0), (0), (by first | rfl | (simp; done) | (simp [*]; done)), (by first | rfl | (simp; done) | (simp [*]; done)), H', ⟨Nat.le_refl _⟩, ⟨by (with_reducible repeat (first | apply Kd.R_alloc | apply Kd.R_drewN | apply Kd.R_drew)); exact HO_5.out⟩, ⟨by (with_reducible repeat (first | apply Kd.N_alloc | apply Kd.N_drewN | apply Kd.N_drew)); exact HO_13.out⟩, ⟨by (with_reducible repeat (first | refine blk_drewN ?_ _ | refine blk_drew ?_ | refine blk_alloc ?_ _)); exact BK101.out⟩, ⟨by repeat (first | (with_reducible first | exact HB.out | apply below_alloc | apply pw_below_drewN | apply below_drew1 | refine below_set ?_ GE101.out) | exact HB.out)⟩, ⟨by (with_reducible repeat (first | apply Kd.V_alloc | apply Kd.V_drewN | apply Kd.V_drew)); exact Kd.V_mono HL105_0.out (fun _ hk => hk.1)⟩⟩
            case round =>
              clear H'
              try clear c1
              try clear p1
              try clear q1
              try clear hx1
              try clear p2
              try clear c8
              try clear c8b0
              try clear c9
              try clear c9b0
              try clear c10
              try clear c10b0
              try clear p10
              try clear q10
              try clear hx10
              try clear hcz5_0
              try clear hcz5_1
              try clear hcz5_2
              try clear hfz5_0
              try clear hfz5_1
              try clear hfz5_2
              try clear hx105_0
              try clear p105
              try clear p2
              try clear q105
              obtain ⟨x5_2, x8_2, x21_2, rfl, rfl, HA, HK2, HO_5, HO_13, BK101, HB, HLq⟩ := hrel
              cases gk with
              | zero => exact absurd HA.out (by simp [spec_tiMoves.l1])
              | succ k2 =>
                have H := HA.out
                clear HA
                simp only [spec_tiMoves.l1] at H
                by_cases c11 : x21_2 < ((rd_L3 t102 x15_1).length : Int)
                · rw [if_pos c11] at H
                  have c11b0 : decide (x21_2 < ((rd_L3 t102 x15_1).length : Int)) = true := decide_eq_true c11
                  clear c11
                  by_cases c12 : 0 ≤ x21_2
                  · rw [if_pos c12] at H
                    have c12b0 : decide (0 ≤ x21_2) = true := decide_eq_true c12
                    clear c12
                    by_cases c13 : x21_2 < ((rd_L3 t102 x15_1).length : Int)
                    · rw [if_pos c13] at H
                      have c13b0 : decide (x21_2 < ((rd_L3 t102 x15_1).length : Int)) = true := decide_eq_true c13
                      clear c13
                      by_cases c14 : 0 ≤ (rd (rd_L3 t102 x15_1) x21_2)
                      · rw [if_pos c14] at H
                        have c14b0 : decide (0 ≤ (rd (rd_L3 t102 x15_1) x21_2)) = true := decide_eq_true c14
                        clear c14
                        by_cases c15 : (rd (rd_L3 t102 x15_1) x21_2) < (l0_2.length : Int)
                        · rw [if_pos c15] at H
                          have c15b0 : decide ((rd (rd_L3 t102 x15_1) x21_2) < (l0_2.length : Int)) = true := decide_eq_true c15
                          clear c15
                          replace H := Option.bind_eq_some_iff.mp H
                          obtain ⟨t108, A160, H⟩ := H
                          replace H : (if t108 = true then (if x5_2.length < 17592186044416 then (spec_tiMoves.l1 k2 (x5_2 ++ [wrap64 (x21_2 - x8_2)]) (wrap64 (x8_2 + 1)) t102 (t102.length : Int) x15_1 (rd_L3 t102 x15_1) ((rd_L3 t102 x15_1).length : Int) (wrap64 (x21_2 + 1)) a0_0 a0_1 l0_2) else (none)) else (spec_tiMoves.l1 k2 x5_2 x8_2 t102 (t102.length : Int) x15_1 (rd_L3 t102 x15_1) ((rd_L3 t102 x15_1).length : Int) (wrap64 (x21_2 + 1)) a0_0 a0_1 l0_2)) = some r := H
                          have A16 := am A160
                          clear A160
                          by_cases c17 : t108 = true
                          · subst c17
                            have H1 : (if x5_2.length < 17592186044416 then (spec_tiMoves.l1 k2 (x5_2 ++ [wrap64 (x21_2 - x8_2)]) (wrap64 (x8_2 + 1)) t102 (t102.length : Int) x15_1 (rd_L3 t102 x15_1) ((rd_L3 t102 x15_1).length : Int) (wrap64 (x21_2 + 1)) a0_0 a0_1 l0_2) else (none)) = some r := by rw [if_pos rfl] at H; exact H
                            clear H
                            have H := H1
                            clear H1
                            by_cases c18 : x5_2.length < 17592186044416
                            · rw [if_pos c18] at H
                              have LMc18 := am c18
                              clear c18
                              obtain ⟨y109, hy109⟩ : ∃ y_ : List Int, y_ = (x5_2 ++ [wrap64 (x21_2 - x8_2)]) := ⟨_, rfl⟩
                              replace H : (spec_tiMoves.l1 k2 y109 (wrap64 (x8_2 + 1)) t102 (t102.length : Int) x15_1 (rd_L3 t102 x15_1) ((rd_L3 t102 x15_1).length : Int) (wrap64 (x21_2 + 1)) a0_0 a0_1 l0_2) = some r := by first | (rw [hy109]; with_reducible exact H) | (have H2_ := (Option.bind_some _ _).symm.trans H; rw [hy109]; with_reducible exact H2_) | (have H2_ := (Option.bind_some _ _).symm.trans H; with_reducible exact H2_) | with_reducible exact H | (rw [hy109]; exact H) | exact H
                              have Ny109 := am hy109
                              clear hy109
                              have H' := am H
                              clear H
                              have p106 : 0 ≤ (x21_2 : Int) := of_decide_eq_true (by first | (with_reducible assumption) | assumption)
                              have q106 : x21_2 < ((rd_L3 t102 x15_1).length : Int) := of_decide_eq_true (by first | (with_reducible assumption) | assumption)
                              obtain ⟨ad106, e106, hx106_0⟩ := Kd.at_int (Kd.V_reads' HLq.out).2.2 x21_2 p106 q106
                              cases e106
                              try replace hx106_0 := (HB.out.cell (World.block_lt_of_cell? w _ hx106_0)).trans hx106_0
                              replace p106 := eq_true p106
                              replace q106 := eq_true q106
                              have hcz19_0 : wr.cell? ⟨gb101, 0, none⟩ = some (.int .i64 a0_0) := (blk_cell BK101.out 0).trans rfl
                              have hcz19_1 : wr.cell? ⟨gb101, 1, none⟩ = some (.int .i64 a0_1) := (blk_cell BK101.out 1).trans rfl
                              have hcz19_2 : wr.cell? ⟨gb101, 2, none⟩ = some (.slice A0_2 l0_2.length c0_2) := (blk_cell BK101.out 2).trans rfl
                              have hfz19_0 := blk_frozen BK101.out 0
                              have hfz19_1 := blk_frozen BK101.out 1
                              have hfz19_2 := blk_frozen BK101.out 2
                              have p107 : 0 ≤ ((rd (rd_L3 t102 x15_1) x21_2) : Int) := of_decide_eq_true (by first | (with_reducible assumption) | assumption)
                              have q107 : (rd (rd_L3 t102 x15_1) x21_2) < (l0_2.length : Int) := of_decide_eq_true (by first | (with_reducible assumption) | assumption)
                              obtain ⟨ad107, e107, hx107_0⟩ := Kd.at_int HR0_2.out (rd (rd_L3 t102 x15_1) x21_2) p107 q107
                              cases e107
                              try replace hx107_0 := (HB.out.cell (World.block_lt_of_cell? w _ hx107_0)).trans hx107_0
                              replace p107 := eq_true p107
                              replace q107 := eq_true q107
                              go_wp2_with (first | ((with_reducible refine gate_callee (f := 100) rfl ?_); refine goesL_ (some 31) rfl rfl Tryz.func100 (by kernel_rfl) rfl #[.int .u8 (rd l0_2 (rd (rd_L3 t102 x15_1) x21_2))] rfl (by (try simp only [List.map_toArray, List.map_cons, List.map_nil]); first | done | rfl | (simp only [List.length_drop, List.length_take]; rfl)) ?_; (with_reducible refine (spec_tyBall.calls (rd l0_2 (rd (rd_L3 t102 x15_1) x21_2)) true _ A16.out).mono ?_); rintro e w' ⟨rfl, ⟨nd, rfl⟩⟩; refine ⟨_, rfl, ?_⟩) | ((with_reducible refine gate_builtin (b := .append) (xs := #[.tmp 32, .tmp 36]) rfl ?_); at_builtin; refine Kd.R_append (Kd.int .i64) (w0 := w) w.heap.size rfl (.tmp 32) (.tmp 36) 28 3 (.int .i64 0) 8 rfl Tryz.underlying28 info3 rfl (by decide) (by omega) u5 x5_2 (wrap64 (x21_2 - x8_2)) [.int .i64 (wrap64 (x21_2 - x8_2))] (fun _ => True) (fun _ => False) rfl rfl ?aP (fun _ hk => hk.elim) ?aF ?aO ?aB ?aS ?aL ?_; (case aP => exact rfl); (case aB => exact (by repeat (first | (with_reducible first | exact HB.out | apply below_alloc | apply pw_below_drewN | apply below_drew1 | refine below_set ?_ GE101.out) | exact HB.out))); (case aF => exact (fun _ _ => trivial)); (case aO => exact (by (with_reducible repeat (first | apply Kd.R_alloc | apply Kd.R_drewN | apply Kd.R_drew)); exact HO_5.out)); (case aS => exact (below_size (by repeat (first | (with_reducible first | exact HB.out | apply below_alloc | apply pw_below_drewN | apply below_drew1 | refine below_set ?_ GE101.out) | exact HB.out)))); (case aL => have := LMc18.out; omega); intro v110 w20 ho hb hg hat; rw [← Ny109.out] at ho; have n0_ := am (Kd.N_afterv (ok := (fun k_ => k_ ≠ gb101)) (by (with_reducible repeat (first | apply Kd.N_alloc | apply Kd.N_drewN | apply Kd.N_drew)); exact Kd.N_mono HO_13.out (fun _ hk => ⟨hk.2, hk.1⟩)) hg hat); have n1_ := am (blk_grown (g := gb101) (o := .cells #[.int .i64 a0_0, .int .i64 a0_1, .slice (some ad107) l0_2.length c0_2] 62 (0, 0)) (by (with_reducible repeat (first | refine blk_drewN ?_ _ | refine blk_drew ?_ | refine blk_alloc ?_ _)); exact BK101.out) hg (Kd.R_ne HO_5.out BK101.out (by decide))); have n2_ := am (hb); have n3_ := am (ho); have nq_ := am (Kd.V_afterv (ok := (fun k_ => k_ ≠ gb101)) (by (with_reducible repeat (first | apply Kd.V_alloc | apply Kd.V_drewN | apply Kd.V_drew)); exact Kd.V_mono HLq.out (fun _ hk => ⟨hk.2, hk.1⟩)) hg hat); clear HLq; have HLq := am (Kd.V_mono nq_.out (ok' := fun k_ => some k_ ≠ (v110 : Value).ownBlock ∧ k_ ≠ gb101) (fun _ hk => by first | exact hk | exact ⟨hk.2, hk.1⟩)); clear nq_; clear HO_13; clear BK101; clear HB; clear HO_5; have HO_13 := n0_; have BK101 := n1_; have HB := n2_; have HO111 := n3_; clear n0_ n1_ n2_ n3_; clear ho hb hg hat))
                              go_roundg k2
                              case measure => have := HK1.out; have := HK2.out; omega
                              case rel => exact ⟨(y109), (wrap64 (x8_2 + 1)), (wrap64 (x21_2 + 1)), (by first | rfl | (simp; done) | (simp [*]; done)), (by first | rfl | (simp; done) | (simp [*]; done)), H', ⟨by have := HK1.out; have := HK2.out; omega⟩, ⟨by (with_reducible repeat (first | apply Kd.R_alloc | apply Kd.R_drewN | apply Kd.R_drew)); exact HO111.out⟩, ⟨by (with_reducible repeat (first | apply Kd.N_alloc | apply Kd.N_drewN | apply Kd.N_drew)); exact Kd.N_mono HO_13.out (fun _ hk => ⟨hk.2, hk.1⟩)⟩, ⟨by (with_reducible repeat (first | refine blk_drewN ?_ _ | refine blk_drew ?_ | refine blk_alloc ?_ _)); exact BK101.out⟩, ⟨by repeat (first | (with_reducible first | exact HB.out | apply below_alloc | apply pw_below_drewN | apply below_drew1 | refine below_set ?_ GE101.out) | exact HB.out)⟩, ⟨by first | exact HLq.out | exact Kd.V_mono HLq.out (fun _ hk => ⟨hk.2, hk.1⟩)⟩⟩
                            · rw [if_neg c18] at H
                              exact absurd H (by simp)
                          · replace c17 := Bool.eq_false_iff.mpr c17
                            subst c17
                            have H1 : (spec_tiMoves.l1 k2 x5_2 x8_2 t102 (t102.length : Int) x15_1 (rd_L3 t102 x15_1) ((rd_L3 t102 x15_1).length : Int) (wrap64 (x21_2 + 1)) a0_0 a0_1 l0_2) = some r := by rw [if_neg (show ¬ (false = true) by decide)] at H; exact H
                            clear H
                            have H := H1
                            clear H1
                            have H' := am H
                            clear H
                            have p106 : 0 ≤ (x21_2 : Int) := of_decide_eq_true (by first | (with_reducible assumption) | assumption)
                            have q106 : x21_2 < ((rd_L3 t102 x15_1).length : Int) := of_decide_eq_true (by first | (with_reducible assumption) | assumption)
                            obtain ⟨ad106, e106, hx106_0⟩ := Kd.at_int (Kd.V_reads' HLq.out).2.2 x21_2 p106 q106
                            cases e106
                            try replace hx106_0 := (HB.out.cell (World.block_lt_of_cell? w _ hx106_0)).trans hx106_0
                            replace p106 := eq_true p106
                            replace q106 := eq_true q106
                            have hcz21_0 : wr.cell? ⟨gb101, 0, none⟩ = some (.int .i64 a0_0) := (blk_cell BK101.out 0).trans rfl
                            have hcz21_1 : wr.cell? ⟨gb101, 1, none⟩ = some (.int .i64 a0_1) := (blk_cell BK101.out 1).trans rfl
                            have hcz21_2 : wr.cell? ⟨gb101, 2, none⟩ = some (.slice A0_2 l0_2.length c0_2) := (blk_cell BK101.out 2).trans rfl
                            have hfz21_0 := blk_frozen BK101.out 0
                            have hfz21_1 := blk_frozen BK101.out 1
                            have hfz21_2 := blk_frozen BK101.out 2
                            have p107 : 0 ≤ ((rd (rd_L3 t102 x15_1) x21_2) : Int) := of_decide_eq_true (by first | (with_reducible assumption) | assumption)
                            have q107 : (rd (rd_L3 t102 x15_1) x21_2) < (l0_2.length : Int) := of_decide_eq_true (by first | (with_reducible assumption) | assumption)
                            obtain ⟨ad107, e107, hx107_0⟩ := Kd.at_int HR0_2.out (rd (rd_L3 t102 x15_1) x21_2) p107 q107
                            cases e107
                            try replace hx107_0 := (HB.out.cell (World.block_lt_of_cell? w _ hx107_0)).trans hx107_0
                            replace p107 := eq_true p107
                            replace q107 := eq_true q107
                            go_wp2_with (first | ((with_reducible refine gate_callee (f := 100) rfl ?_); refine goesL_ (some 31) rfl rfl Tryz.func100 (by kernel_rfl) rfl #[.int .u8 (rd l0_2 (rd (rd_L3 t102 x15_1) x21_2))] rfl (by (try simp only [List.map_toArray, List.map_cons, List.map_nil]); first | done | rfl | (simp only [List.length_drop, List.length_take]; rfl)) ?_; (with_reducible refine (spec_tyBall.calls (rd l0_2 (rd (rd_L3 t102 x15_1) x21_2)) false _ A16.out).mono ?_); rintro e w' ⟨rfl, ⟨nd, rfl⟩⟩; refine ⟨_, rfl, ?_⟩))
                            go_roundg k2
                            case measure => have := HK1.out; have := HK2.out; omega
                            case rel => exact ⟨(x5_2), (x8_2), (wrap64 (x21_2 + 1)), (by first | rfl | (simp; done) | (simp [*]; done)), (by first | rfl | (simp; done) | (simp [*]; done)), H', ⟨by have := HK1.out; have := HK2.out; omega⟩, ⟨by (with_reducible repeat (first | apply Kd.R_alloc | apply Kd.R_drewN | apply Kd.R_drew)); exact HO_5.out⟩, ⟨by (with_reducible repeat (first | apply Kd.N_alloc | apply Kd.N_drewN | apply Kd.N_drew)); exact HO_13.out⟩, ⟨by (with_reducible repeat (first | refine blk_drewN ?_ _ | refine blk_drew ?_ | refine blk_alloc ?_ _)); exact BK101.out⟩, ⟨by repeat (first | (with_reducible first | exact HB.out | apply below_alloc | apply pw_below_drewN | apply below_drew1 | refine below_set ?_ GE101.out) | exact HB.out)⟩, ⟨by first | exact HLq.out | exact Kd.V_mono HLq.out (fun _ hk => ⟨hk.2, hk.1⟩)⟩⟩
                        · rw [if_neg c15] at H
                          exact absurd H (by simp)
                      · rw [if_neg c14] at H
                        exact absurd H (by simp)
                    · rw [if_neg c13] at H
                      exact absurd H (by simp)
                  · rw [if_neg c12] at H
                    exact absurd H (by simp)
                · rw [if_neg c11] at H
                  have c11b0 : decide (x21_2 < ((rd_L3 t102 x15_1).length : Int)) = false := decide_eq_false c11
                  clear c11
                  have H' := am H
                  clear H
                  go_wp2
                  go_roundg k2
                  case measure => have := HK1.out; have := HK2.out; omega
                  case rel => exact ⟨(x5_2), (wrap64 (x15_1 + 1)), (by first | rfl | (simp; done) | (simp [*]; done)), H', ⟨by have := HK1.out; have := HK2.out; omega⟩, ⟨by (with_reducible repeat (first | apply Kd.R_alloc | apply Kd.R_drewN | apply Kd.R_drew)); exact HO_5.out⟩, ⟨by (with_reducible repeat (first | apply Kd.N_alloc | apply Kd.N_drewN | apply Kd.N_drew)); exact HO_13.out⟩, ⟨by (with_reducible repeat (first | refine blk_drewN ?_ _ | refine blk_drew ?_ | refine blk_alloc ?_ _)); exact BK101.out⟩, ⟨by repeat (first | (with_reducible first | exact HB.out | apply below_alloc | apply pw_below_drewN | apply below_drew1 | refine below_set ?_ GE101.out) | exact HB.out)⟩⟩
          · rw [if_neg c10] at H
            exact absurd H (by simp)
        · rw [if_neg c9] at H
          exact absurd H (by simp)
      · rw [if_neg c8] at H
        have c8b0 : decide (x15_1 < (t102.length : Int)) = false := decide_eq_false c8
        clear c8
        obtain rfl := Option.some.inj H
        go_wp2
        go_ret
        exact ⟨_, by first | rfl | (simp [errW_none, errW_some] <;> rfl) | (simp [*, errW_none, errW_some] <;> rfl), by (with_reducible repeat (first | apply Kd.R_alloc | apply Kd.R_drewN | apply Kd.R_drew)); exact HO_5.out, by repeat (first | (with_reducible first | exact HB.out | apply below_alloc | apply pw_below_drewN | apply below_drew1 | refine below_set ?_ GE101.out) | exact HB.out)⟩
def slices_Equal_byte_byte.l0 : Nat → List Int → List Int → Int → Int → Option (Bool)
 | 0, _, _, _, _ => none
 | k + 1, x0, x1, x12, x13 => if x13 < x12 then (if 0 ≤ x13 then (if x13 < (x0.length : Int) then (if x13 < (x1.length : Int) then (if (rd x0 x13) = (rd x1 x13) then (slices_Equal_byte_byte.l0 k x0 x1 x12 (wrap64 (x13 + 1))) else (some false)) else (none)) else (none)) else (none)) else (some true)
def slices_Equal_byte_byte.f (k : Nat) (l0 : List Int) (l1 : List Int) : Option (Bool) := if (l0.length : Int) = (l1.length : Int) then (slices_Equal_byte_byte.l0 k l0 l1 (l0.length : Int) 0) else (some false)
theorem slices_Equal_byte_byte.mono_l : ∀ k, (∀ y0 y1 y2 y3, LeO (slices_Equal_byte_byte.l0 k y0 y1 y2 y3) (slices_Equal_byte_byte.l0 (k + 1) y0 y1 y2 y3))
 | 0 => fun _ _ _ _ r h => by simp [slices_Equal_byte_byte.l0] at h
 | k + 1 => by
  have ih0 := slices_Equal_byte_byte.mono_l k
  ·intro y0 y1 y2 y3
   unfold slices_Equal_byte_byte.l0
   exact mo
theorem slices_Equal_byte_byte.mono : ∀ a0 a1 k, LeO (slices_Equal_byte_byte.f k a0 a1) (slices_Equal_byte_byte.f (k + 1) a0 a1) := by
 intro a0 a1 k
 have ih0 := slices_Equal_byte_byte.mono_l k
 unfold slices_Equal_byte_byte.f
 exact mo
set_option maxHeartbeats 8000000 in
set_option maxRecDepth 100000 in
theorem slices_Equal_byte_byte.calls (k : Nat) (A0 : Option Addr) (c0 : Nat) (l0 : List Int) (A1 : Option Addr) (c1 : Nat) (l1 : List Int) (r : Bool) (w : World) (hr0 : Kd.C (Kd.int .u8) w A0 l0.length l0) (hc0 : l0.length ≤ c0) (hr1 : Kd.C (Kd.int .u8) w A1 l1.length l1) (hc1 : l1.length ≤ c1) (h : slices_Equal_byte_byte.f k l0 l1 = some r) :
  Calls Tryz.prog 173 #[.slice A0 l0.length c0, .slice A1 l1.length c1] w fun e w' => e = .returned (.bool r) ∧ Drawn0 w w' := by
 have HR0 := am hr0
 have HC0 := am hc0
 clear hr0 hc0
 have HR1 := am hr1
 have HC1 := am hc1
 clear hr1 hc1
 have H : (if (l0.length : Int) = (l1.length : Int) then (slices_Equal_byte_byte.l0 k l0 l1 (l0.length : Int) 0) else (some false)) = some r := h
 clear h
 by_cases c3 : (l0.length : Int) = (l1.length : Int)
 ·rw [if_pos c3] at H
  have c3b0 := beq_iff_eq.mpr c3
  have c3b1 := bne_eq_false_iff_eq.mpr c3
  have c3b2 : (l0.length == l1.length) = true := by first | simpa using c3 | (simp at c3 ⊢; omega)
  clear c3
  have H' := am H
  clear H
  go_enter Tryz.func173, Tryz.ntmps173
  go_wp2
  repeat (go_quiet (fail); try go_wp2)
  go_loopg [13] k (fun kq v13 w' => ∃ (x13_1 : Int), v13 = .int .i64 x13_1 ∧ Aside0 (slices_Equal_byte_byte.l0 kq l0 l1 (l0.length : Int) x13_1 = some r) ∧ Aside0 (kq ≤ k) ∧ Drawn0 w w')
  case atStart => exact ⟨(0), aq6, H', ⟨Nat.le_refl _⟩, aq14⟩
  case round =>
   clear H'
   try clear c1
   try clear p2
   try clear c3
   try clear c3b0
   try clear c3b1
   try clear c3b2
   obtain ⟨x13_1, rfl, HA, HK1, ⟨m1, rfl⟩⟩ := hrel
   cases gk with
   | zero => exact absurd HA.out (by simp [slices_Equal_byte_byte.l0])
   | succ k1 =>
    have H := HA.out
    clear HA
    simp only [slices_Equal_byte_byte.l0] at H
    by_cases c4 : x13_1 < (l0.length : Int)
    ·rw [if_pos c4] at H
     have c4b0 := decide_eq_true c4
     clear c4
     by_cases c5 : 0 ≤ x13_1
     ·rw [if_pos c5] at H
      have c5b0 := decide_eq_true c5
      clear c5
      by_cases c6 : x13_1 < (l0.length : Int)
      ·rw [if_pos c6] at H
       have c6b0 := decide_eq_true c6
       clear c6
       by_cases c7 : x13_1 < (l1.length : Int)
       ·rw [if_pos c7] at H
        have c7b0 := decide_eq_true c7
        clear c7
        by_cases c8 : (rd l0 x13_1) = (rd l1 x13_1)
        ·rw [if_pos c8] at H
         have c8b0 := beq_iff_eq.mpr c8
         have c8b1 := bne_eq_false_iff_eq.mpr c8
         clear c8
         have H' := am H
         clear H
         have p101 : 0 ≤ (x13_1 : Int) := of_decide_eq_true aq5
         have q101 : x13_1 < (l0.length : Int) := of_decide_eq_true aq5
         obtain ⟨ad101, e101, hx101_0⟩ := Kd.at_int HR0.out x13_1 p101 q101
         cases e101
         replace p101 := eq_true p101
         replace q101 := eq_true q101
         have p102 : 0 ≤ (x13_1 : Int) := of_decide_eq_true aq5
         have q102 : x13_1 < (l1.length : Int) := of_decide_eq_true aq5
         obtain ⟨ad102, e102, hx102_0⟩ := Kd.at_int HR1.out x13_1 p102 q102
         cases e102
         replace p102 := eq_true p102
         replace q102 := eq_true q102
         go_wp2
         repeat (go_quiet (fail); try go_wp2)
         go_roundg k1
         case measure => have := HK1.out; omega
         case rel => exact ⟨(wrap64 (x13_1 + 1)), aq6, H', ⟨aq65⟩, aq14⟩
        ·rw [if_neg c8] at H
         have c8b0 := beq_eq_false_iff_ne.mpr c8
         have c8b1 := bne_iff_ne.mpr c8
         obtain rfl := Option.some.inj H
         have p101 : 0 ≤ (x13_1 : Int) := of_decide_eq_true aq5
         have q101 : x13_1 < (l0.length : Int) := of_decide_eq_true aq5
         obtain ⟨ad101, e101, hx101_0⟩ := Kd.at_int HR0.out x13_1 p101 q101
         cases e101
         replace p101 := eq_true p101
         replace q101 := eq_true q101
         have p102 : 0 ≤ (x13_1 : Int) := of_decide_eq_true aq5
         have q102 : x13_1 < (l1.length : Int) := of_decide_eq_true aq5
         obtain ⟨ad102, e102, hx102_0⟩ := Kd.at_int HR1.out x13_1 p102 q102
         cases e102
         replace p102 := eq_true p102
         replace q102 := eq_true q102
         go_wp2
         repeat (go_quiet (fail); try go_wp2)
         go_ret
         exact ⟨aq6, aq14⟩
       ·rw [if_neg c7] at H
        exact absurd H (by simp)
      ·rw [if_neg c6] at H
       exact absurd H (by simp)
     ·rw [if_neg c5] at H
      exact absurd H (by simp)
    ·rw [if_neg c4] at H
     have c4b0 := decide_eq_false c4
     clear c4
     obtain rfl := Option.some.inj H
     go_wp2
     repeat (go_quiet (fail); try go_wp2)
     go_ret
     exact ⟨aq6, aq14⟩
 ·rw [if_neg c3] at H
  have c3b0 := beq_eq_false_iff_ne.mpr c3
  have c3b1 := bne_iff_ne.mpr c3
  have c3b2 : (l0.length == l1.length) = false := by first | simpa using c3 | (simp at c3 ⊢; omega)
  obtain rfl := Option.some.inj H
  go_enter Tryz.func173, Tryz.ntmps173
  go_wp2
  repeat (go_quiet (fail); try go_wp2)
  go_ret
  exact ⟨aq6, aq14⟩
def impl_tray_isStill.f (k : Nat) (a0_0 : Int) (a0_1 : Int) (l0_2 : List Int) (a1 : Int) : Option (Bool) := (impl_tray_tilted.f a0_0 a0_1 l0_2 a1).bind fun bt102 => ((slices_Equal_byte_byte.f k bt102.2.2 l0_2).bind fun t107 => (some t107))
theorem impl_tray_isStill.mono : ∀ a0 a1 a2 a3 k, LeO (impl_tray_isStill.f k a0 a1 a2 a3) (impl_tray_isStill.f (k + 1) a0 a1 a2 a3) := by
 intro a0 a1 a2 a3 k
 unfold impl_tray_isStill.f
 have im0 := @slices_Equal_byte_byte.mono; exact mo
def impl_tray_isStill.T1 : Bool × List (List Nat × List Nat) := (true, [([], []), ([], []), ([0, 1], [0, 1]), ([2], [2]), ([], []), ([4], [4]), ([3, 5, 2], [3, 5]), ([6, 6, 0, 1, 2, 3, 4, 5, 6], [6])])
def impl_tray_isStill.B1 : List Nat := [0, 0, 3, 7, 0, 16, 63, 127]
theorem impl_tray_isStill.tab1 : rtab .any (opsOf Tryz.f137 1) = impl_tray_isStill.T1 := by kernel_rfl
theorem impl_tray_isStill.bits1 : waitsOk impl_tray_isStill.T1.2 impl_tray_isStill.B1 = true := by kernel_rfl
set_option maxHeartbeats 8000000 in
set_option maxRecDepth 100000 in
theorem impl_tray_isStill.calls (k : Nat) (a0_0 : Int) (a0_1 : Int) (A0_2 : Option Addr) (c0_2 : Nat) (l0_2 : List Int) (a1 : Int) (r : Bool) (w : World) (hr0_2 : Kd.C (Kd.int .u8) w A0_2 l0_2.length l0_2) (hc0_2 : l0_2.length ≤ c0_2) (h : impl_tray_isStill.f k a0_0 a0_1 l0_2 a1 = some r) :
  Calls Tryz.prog 137 #[.agg #[.int .i64 a0_0, .int .i64 a0_1, .slice A0_2 l0_2.length c0_2], .int .u8 a1] w fun e w' => e = .returned (.bool r) ∧ Below w.heap.size w w' := by
 have hu93 := Tryz.underlying93
 have hfd93_2 : ∀ (x0_ x1_ x2_ : Value) (W : World), (Instr.field 93 (.agg #[x0_, x1_, x2_]) 2).run Tryz.prog W = .ok x2_ W := fun _ _ _  _ => by kernel_rfl
 have HR0_2 := am hr0_2
 have HC0_2 := am hc0_2
 clear hr0_2 hc0_2
 have HB := am (Below.refl w.heap.size w)
 have H : ((impl_tray_tilted.f a0_0 a0_1 l0_2 a1).bind fun bt102 => ((slices_Equal_byte_byte.f k bt102.2.2 l0_2).bind fun t107 => (some t107))) = some r := h
 clear h
 replace H := Option.bind_eq_some_iff.mp H
 obtain ⟨⟨t102, t103, t104⟩, A30, H⟩ := H
 replace H : ((slices_Equal_byte_byte.f k t104 l0_2).bind fun t107 => (some t107)) = some r := H
 have A3 := am A30
 clear A30
 obtain ⟨t107, A40, H⟩ := Option.bind_eq_some_iff.mp H
 have A4 := am A40
 clear A40
 obtain rfl := Option.some.inj H
 go_enter Tryz.func137, Tryz.ntmps137
 try go_wp2_with (first | ((with_reducible refine gate_dst (N := 2) rfl ?_); refine box_event ?hg (N := 2) ?hd (cs := #[.int .i64 a0_0, .int .i64 a0_1, .slice A0_2 l0_2.length c0_2]) (t := 93) ?hr ?_; (case hd => rfl); (case hg => rfl); (case hr => exact aq19); intro gb101 hg w5 hbox hb; have n0_ := am (below_step aq1 hb); have n1_ := am (hbox); have n2_ := am ((by rw [hg]; exact (below_size aq1) : w.heap.size ≤ gb101)); have n3_ := am ((by rw [hg]; exact (below_size aq1) : w.heap.size ≤ gb101)); clear HB; have HB := n0_; have BK101 := n1_; have GW101 := n2_; have GE101 := n3_; clear n0_ n1_ n2_ n3_; clear hb hbox hg))
 have n0_ := am (blk_drew BK101.out)
 have n1_ := am (below_drew1 HB.out)
 clear BK101
 clear HB
 have BK101 := n0_
 have HB := n1_
 clear n0_ n1_
 refine start_ (n := 8) (S := fun w' => w'.cell? ⟨gb101, 0, none⟩ = some (.int .i64 a0_0) ∧ w'.cell? ⟨gb101, 1, none⟩ = some (.int .i64 a0_1) ∧ w'.cell? ⟨gb101, 2, none⟩ = some (.slice A0_2 l0_2.length c0_2)) (ds := []) #[false, false, false, false, false, false, false, false] (by kernel_rfl) rfl rfl ⟨(blk_cell BK101.out 0).trans rfl, (blk_cell BK101.out 1).trans rfl, (blk_cell BK101.out 2).trans rfl⟩ (fun hHeld => ?_); refine with_tabW impl_tray_isStill.tab1 impl_tray_isStill.bits1 (fun HT_ HW_ => ?_)
 generalize w5.drew = w6 at BK101 HB hHeld ⊢
 refine pure_ (i := 1) (N := some 6) (v := ?_) (a' := ?_) (bm 8 2) rfl rfl (any_of HT_.out (by kernel_rfl)) (fun _ _ _ h => h) (Or.inl ⟨by rfl, ?_⟩) ?_ ?_
 rotate_left
 ·intro w'
  go_simp
  with_reducible rfl
 rotate_left
 ·simp only [Act.put, ac_]
  rfl
 refine pure_ (i := 4) (N := some 9) (v := ?_) (a' := ?_) (bm 8 18) rfl rfl (any_of HT_.out (by kernel_rfl)) (fun _ _ _ h => h) (Or.inl ⟨by rfl, ?_⟩) ?_ ?_
 rotate_left
 ·intro w'
  go_simp
  with_reducible rfl
 rotate_left
 ·simp only [Act.put, ac_]
  rfl
 refine take_ (i := 0) (N := some 5) (v := ?_) (a' := ?_) (bm 8 19) rfl rfl (take_ofW HT_.out HW_.out (by kernel_rfl)) (fun _ _ _ h => h) (Or.inl ⟨by rfl, ?_⟩) hHeld ?_ ?_
 rotate_left
 ·rintro w' ⟨s0, s1, s2⟩
  go_simp
  with_reducible rfl
 rotate_left
 ·simp only [Act.put, ac_]
  rfl
 refine take_ (i := 5) (N := some 10) (v := ?_) (a' := ?_) (bm 8 51) rfl rfl (take_ofW HT_.out HW_.out (by kernel_rfl)) (fun _ _ _ h => h) (Or.inl ⟨by rfl, ?_⟩) hHeld ?_ ?_
 rotate_left
 ·rintro w' ⟨s0, s1, s2⟩
  go_simp
  with_reducible rfl
 rotate_left
 ·simp only [Act.put, ac_]
  rfl
 refine one_ (i := 2) (N := some 7) (bm 8 55) rfl rfl (one_of HT_.out (by kernel_rfl)) (by decide) (fun K hK => ?_)
 refine goes_ Tryz.func109 (by kernel_rfl) rfl #[.agg #[.int .i64 a0_0, .int .i64 a0_1, .slice A0_2 l0_2.length c0_2], .int .u8 a1] (by rfl) rfl rfl aq4 ?_
 with_reducible refine (impl_tray_tilted.calls a0_0 a0_1 _ _ l0_2 a1 t102 t103 t104 _ ?side1 ?side2 A3.out).mono ?_
 (case side1 => exact aq10)
 (case side2 => exact HC0_2.out)
 rintro e w7 ⟨v105, rfl, ho0, hb⟩
 refine ⟨_, rfl, ?_⟩
 have n0_ := am (Kd.R_lower ho0 (below_size aq0))
 have n1_ := am (blk_below (g := gb101) (o := .cells #[.int .i64 a0_0, .int .i64 a0_1, .slice A0_2 l0_2.length c0_2] 93 (0, 0)) aq2 hb)
 have n2_ := am (below_step aq0 hb)
 clear BK101
 clear HB
 have HO106 := n0_
 have BK101 := n1_
 have HB := n2_
 clear n0_ n1_ n2_
 (try clear hb)
 (try clear hb2)
 (try clear hk)
 (try clear hi)
 (try clear ho0)
 obtain ⟨Ao8, co8, eo8⟩ := Kd.R_slice HO106.out
 (first | subst eo8 | (injection eo8 with f1_ f2_ f3_; have f4_ := f1_.symm; have f5_ := f3_.symm; clear f1_ f2_ f3_; subst f4_; subst f5_))
 refine hK.out _ _ ⟨(blk_cell BK101.out 0).trans rfl, (blk_cell BK101.out 1).trans rfl, (blk_cell BK101.out 2).trans rfl⟩ (fun hHeld => ?_)
 clear hK K
 refine norm_ (a' := ?_) ?_ ?_
 rotate_left
 ·show Act.put _ (some 7) _ = _
  simp only [Act.put, ac_]
  rfl
 refine pure_ (i := 3) (N := some 8) (v := ?_) (a' := ?_) (bm 8 63) rfl rfl (any_of HT_.out (by kernel_rfl)) (fun _ _ _ h => h) (Or.inl ⟨by rfl, ?_⟩) ?_ ?_
 rotate_left
 ·intro w'
  go_simp
  with_reducible rfl
 rotate_left
 ·simp only [Act.put, ac_]
  rfl
 refine one_ (i := 6) (N := some 11) (bm 8 127) rfl rfl (one_of HT_.out (by kernel_rfl)) (by decide) (fun K hK => ?_)
 refine goes_ Tryz.func173 (by kernel_rfl) rfl #[.slice Ao8 t104.length co8, .slice A0_2 l0_2.length c0_2] (by rfl) rfl rfl aq4 ?_
 with_reducible refine (slices_Equal_byte_byte.calls k _ _ t104 _ _ l0_2 t107 _ ?side1 ?side2 ?side3 ?side4 A4.out).mono ?_
 (case side1 => repeat (first | exact (Kd.R_reads' HO106.out).2.2 | (with_reducible refine Kd.C_alloc ?_ _) | (with_reducible refine Kd.C_drewN ?_ _) | (with_reducible refine Kd.C_drew ?_)))
 (case side2 => exact (Kd.R_reads' HO106.out).2.1)
 (case side3 => exact aq10)
 (case side4 => exact HC0_2.out)
 rintro e w' ⟨rfl, ⟨nd, rfl⟩⟩
 refine ⟨_, rfl, ?_⟩
 refine hK.out _ _ ⟨(blk_cell BK101.out 0).trans rfl, (blk_cell BK101.out 1).trans rfl, (blk_cell BK101.out 2).trans rfl⟩ (fun hHeld => ?_)
 clear hK K
 refine norm_ (a' := ?_) ?_ ?_
 rotate_left
 ·show Act.put _ (some 11) _ = _
  simp only [Act.put, ac_]
  rfl
 refine pure_ (i := 7) (N := some 4) (v := ?_) (a' := ?_) (bm 8 255) rfl rfl (any_of HT_.out (by kernel_rfl)) (fun _ _ _ h => h) (Or.inl ⟨by rfl, ?_⟩) ?_ ?_
 rotate_left
 ·intro w'
  go_simp
  with_reducible rfl
 rotate_left
 ·simp only [Act.put, ac_]
  rfl
 refine done_ (done_of HT_.out (by kernel_rfl)) ?_
 try go_wp2
 go_ret
 exact ⟨aq8, aq0⟩
def spec_cnFill.l0 : Nat → Int → List Int → Int → Int → Int → Int → List Int → Option (Int × Int × List Int)
 | 0, _, _, _, _, _, _, _ => none
 | k + 1, x1, x11, x12, x13, x109000, x109001, x109002 => if x13 < x12 then (if 0 ≤ x13 then (if x13 < (x11.length : Int) then (if (rd x11 x13) = 46 then (if (Int.tmod x1 2) = 1 then (if x13 < (x109002.length : Int) then (spec_cnFill.l0 k (wrap64 (Int.tdiv x1 2)) x11 x12 (wrap64 (x13 + 1)) x109000 x109001 (x109002.set (x13 : Int).toNat 111)) else (none)) else (spec_cnFill.l0 k (wrap64 (Int.tdiv x1 2)) x11 x12 (wrap64 (x13 + 1)) x109000 x109001 x109002)) else (spec_cnFill.l0 k x1 x11 x12 (wrap64 (x13 + 1)) x109000 x109001 x109002)) else (none)) else (none)) else (some (x109000, x109001, x109002))
def spec_cnFill.f (k : Nat) (a0_0 : Int) (a0_1 : Int) (l0_2 : List Int) (a1 : Int) : Option (Int × Int × List Int) := (spec_tyCopy.f a0_0 a0_1 l0_2).bind fun bt103 => (spec_cnFill.l0 k a1 l0_2 (l0_2.length : Int) 0 bt103.1 bt103.2.1 bt103.2.2)
theorem spec_cnFill.mono_l : ∀ k, (∀ y0 y1 y2 y3 y4 y5 y6, LeO (spec_cnFill.l0 k y0 y1 y2 y3 y4 y5 y6) (spec_cnFill.l0 (k + 1) y0 y1 y2 y3 y4 y5 y6))
 | 0 => fun _ _ _ _ _ _ _ r h => by simp [spec_cnFill.l0] at h
 | k + 1 => by
  have ih0 := spec_cnFill.mono_l k
  ·intro y0 y1 y2 y3 y4 y5 y6
   unfold spec_cnFill.l0
   exact mo
theorem spec_cnFill.mono : ∀ a0 a1 a2 a3 k, LeO (spec_cnFill.f k a0 a1 a2 a3) (spec_cnFill.f (k + 1) a0 a1 a2 a3) := by
 intro a0 a1 a2 a3 k
 have ih0 := spec_cnFill.mono_l k
 unfold spec_cnFill.f
 exact mo
set_option maxHeartbeats 8000000 in
set_option maxRecDepth 100000 in
theorem spec_cnFill.calls (k : Nat) (a0_0 : Int) (a0_1 : Int) (A0_2 : Option Addr) (c0_2 : Nat) (l0_2 : List Int) (a1 : Int) (r1 : Int) (r2 : Int) (r3 : List Int) (w : World) (hr0_2 : Kd.C (Kd.int .u8) w A0_2 l0_2.length l0_2) (hc0_2 : l0_2.length ≤ c0_2) (h : spec_cnFill.f k a0_0 a0_1 l0_2 a1 = some (r1, r2, r3)) :
  Calls Tryz.prog 132 #[.agg #[.int .i64 a0_0, .int .i64 a0_1, .slice A0_2 l0_2.length c0_2], .int .i64 a1] w fun e w' => ∃ v2_ : Value, e = .returned (.agg #[.int .i64 r1, .int .i64 r2, v2_]) ∧ Kd.R (Kd.int .u8) 5 w' w.heap.size (fun _ => True) v2_ r3 ∧ Below w.heap.size w w' := by
 have hu62 := Tryz.underlying62
 have HR0_2 := am hr0_2
 have HC0_2 := am hc0_2
 clear hr0_2 hc0_2
 have HB := am (Below.refl w.heap.size w)
 have H : ((spec_tyCopy.f a0_0 a0_1 l0_2).bind fun bt103 => (spec_cnFill.l0 k a1 l0_2 (l0_2.length : Int) 0 bt103.1 bt103.2.1 bt103.2.2)) = some (r1, r2, r3) := h
 clear h
 replace H := Option.bind_eq_some_iff.mp H
 obtain ⟨⟨t103, t104, t105⟩, A30, H⟩ := H
 replace H : (spec_cnFill.l0 k a1 l0_2 (l0_2.length : Int) 0 t103 t104 t105) = some (r1, r2, r3) := H
 have A3 := am A30
 clear A30
 have H' := am H
 clear H
 go_enter Tryz.func132, Tryz.ntmps132
 go_wp2_with (first | ((with_reducible refine gate_dst (N := 2) rfl ?_); refine box_event ?hg (N := 2) ?hd (cs := #[.int .i64 a0_0, .int .i64 a0_1, .slice A0_2 l0_2.length c0_2]) (t := 62) ?hr ?_; (case hd => rfl); (case hg => rfl); (case hr => exact aq19); intro gb101 hg w4 hbox hb; have n0_ := am (below_step aq1 hb); have n1_ := am (hbox); have n2_ := am ((by rw [hg]; exact (below_size aq1) : w.heap.size ≤ gb101)); have n3_ := am ((by rw [hg]; exact (below_size aq1) : w.heap.size ≤ gb101)); clear HB; have HB := n0_; have BK101 := n1_; have GW101 := n2_; have GE101 := n3_; clear n0_ n1_ n2_ n3_; clear hb hbox hg) | ((with_reducible refine gate_dst (N := 4) rfl ?_); refine box_event ?hg (N := 4) ?hd (cs := #[.int .i64 0, .int .i64 0, .slice none 0 0]) (t := 62) ?hr ?_; (case hd => rfl); (case hg => rfl); (case hr => exact aq19); intro gb102 hg w5 hbox hb; have n0_ := am (blk_below (g := gb101) (o := .cells #[.int .i64 a0_0, .int .i64 a0_1, .slice A0_2 l0_2.length c0_2] 62 (0, 0)) aq2 hb); have n1_ := am (below_step aq0 hb); have n2_ := am (hbox); have n3_ := am ((by rw [hg]; exact (below_size aq0) : w.heap.size ≤ gb102)); have n4_ := am ((by rw [hg]; exact (below_size aq0) : w.heap.size ≤ gb102)); have n5_ := am ((by rw [hg]; exact Nat.ne_of_lt (blk_lt (g := gb101) (o := .cells #[.int .i64 a0_0, .int .i64 a0_1, .slice A0_2 l0_2.length c0_2] 62 (0, 0)) aq2) : gb101 ≠ gb102)); have n6_ := am ((by rw [hg]; exact Nat.ne_of_gt (blk_lt (g := gb101) (o := .cells #[.int .i64 a0_0, .int .i64 a0_1, .slice A0_2 l0_2.length c0_2] 62 (0, 0)) aq2) : gb102 ≠ gb101)); clear BK101; clear HB; have BK101 := n0_; have HB := n1_; have BK102 := n2_; have GW102 := n3_; have GE102 := n4_; have NB101_102 := n5_; have NB102_101 := n6_; clear n0_ n1_ n2_ n3_ n4_ n5_ n6_; clear hb hbox hg; have hnb6 := NB101_102.out; have hnc6 := NB102_101.out; obtain ⟨hcz7_0, hcz7_1, hcz7_2, hfz7_0, hfz7_1, hfz7_2⟩ := blk3_ BK101.out) | ((with_reducible refine gate_callee (f := 114) rfl ?_); refine goesL_ (some 9) rfl rfl Tryz.func114 (by kernel_rfl) rfl #[.agg #[.int .i64 a0_0, .int .i64 a0_1, .slice A0_2 l0_2.length c0_2]] rfl aq4 ?_; (with_reducible refine (spec_tyCopy.calls a0_0 a0_1 _ _ l0_2 t103 t104 t105 _ ?side1 ?side2 A3.out).mono ?_); (case side1 => exact aq10); (case side2 => exact HC0_2.out); rintro e w8 ⟨v106, rfl, ho0, hb⟩; refine ⟨_, rfl, ?_⟩; have n0_ := am (Kd.R_lower ho0 (below_size aq7)); have n1_ := am (blk_below (g := gb101) (o := .cells #[.int .i64 a0_0, .int .i64 a0_1, .slice A0_2 l0_2.length c0_2] 62 (0, 0)) aq2 hb); have n2_ := am (blk_below (g := gb102) (o := .cells #[.int .i64 0, .int .i64 0, .slice none 0 0] 62 (0, 0)) aq12 hb); have n3_ := am (below_step aq7 hb); clear BK101; clear BK102; clear HB; have HO107 := n0_; have BK101 := n1_; have BK102 := n2_; have HB := n3_; clear n0_ n1_ n2_ n3_; (try clear hb); (try clear hb2); (try clear hk); (try clear hi); (try clear ho0)) | ((with_reducible refine gate_dst (N := 5) rfl ?_); refine box_event ?hg (N := 5) ?hd (cs := #[.int .i64 0, .int .i64 0, .slice none 0 0]) (t := 62) ?hr ?_; (case hd => rfl); (case hg => rfl); (case hr => exact aq19); intro gb108 hg w9 hbox hb; have n0_ := am (Kd.R_below (by (with_reducible repeat (first | apply Kd.R_alloc | apply Kd.R_drewN | apply Kd.R_drew)); exact HO107.out) hb); have n1_ := am (blk_below (g := gb101) (o := .cells #[.int .i64 a0_0, .int .i64 a0_1, .slice A0_2 l0_2.length c0_2] 62 (0, 0)) aq2 hb); have n2_ := am (blk_below (g := gb102) (o := .cells #[.int .i64 0, .int .i64 0, .slice none 0 0] 62 (0, 0)) aq12 hb); have n3_ := am (below_step aq7 hb); have n4_ := am (hbox); have n5_ := am ((by rw [hg]; exact (below_size aq7) : w.heap.size ≤ gb108)); have n6_ := am ((by rw [hg]; exact (below_size aq7) : w.heap.size ≤ gb108)); have n7_ := am ((by rw [hg]; exact Nat.ne_of_lt (blk_lt (g := gb101) (o := .cells #[.int .i64 a0_0, .int .i64 a0_1, .slice A0_2 l0_2.length c0_2] 62 (0, 0)) aq2) : gb101 ≠ gb108)); have n8_ := am ((by rw [hg]; exact Nat.ne_of_gt (blk_lt (g := gb101) (o := .cells #[.int .i64 a0_0, .int .i64 a0_1, .slice A0_2 l0_2.length c0_2] 62 (0, 0)) aq2) : gb108 ≠ gb101)); have n9_ := am ((by rw [hg]; exact Nat.ne_of_lt (blk_lt (g := gb102) (o := .cells #[.int .i64 0, .int .i64 0, .slice none 0 0] 62 (0, 0)) aq12) : gb102 ≠ gb108)); have n10_ := am ((by rw [hg]; exact Nat.ne_of_gt (blk_lt (g := gb102) (o := .cells #[.int .i64 0, .int .i64 0, .slice none 0 0] 62 (0, 0)) aq12) : gb108 ≠ gb102)); clear HO107; clear BK101; clear BK102; clear HB; have HO107 := n0_; have BK101 := n1_; have BK102 := n2_; have HB := n3_; have BK108 := n4_; have GW108 := n5_; have GE108 := n6_; have NB101_108 := n7_; have NB108_101 := n8_; have NB102_108 := n9_; have NB108_102 := n10_; clear n0_ n1_ n2_ n3_ n4_ n5_ n6_ n7_ n8_ n9_ n10_; clear hb hbox hg; have hnb10 := NB108_101.out; have hnc10 := NB101_108.out; have hnb11 := NB108_102.out; have hnc11 := NB102_108.out; obtain ⟨hcz12_0, hcz12_1, hcz12_2, hfz12_0, hfz12_1, hfz12_2⟩ := blk3_ BK108.out; obtain ⟨Ao13, co13, eo13⟩ := Kd.R_slice HO107.out; subst eo13; obtain ⟨hcz14_0, hcz14_1, hcz14_2, hfz14_0, hfz14_1, hfz14_2⟩ := blk3_ BK101.out))
 go_loopg [1, 13] k (fun kq v1 v13 w' => ∃ (x1_1 : Int) (x13_1 : Int) (x109002_1 : List Int) (u109002 : Value), v1 = .int .i64 x1_1 ∧ v13 = .int .i64 x13_1 ∧ Aside0 (spec_cnFill.l0 kq x1_1 l0_2 (l0_2.length : Int) x13_1 t103 t104 x109002_1 = some (r1, r2, r3)) ∧ Aside0 (kq ≤ k) ∧ Aside0 (Kd.R (Kd.int .u8) 5 w' w.heap.size (fun _ => True) u109002 x109002_1) ∧ Aside0 (w'.heap[gb101]? = some (.cells #[.int .i64 a0_0, .int .i64 a0_1, (.slice A0_2 l0_2.length c0_2)] 62 (0, 0))) ∧ Aside0 (w'.heap[gb102]? = some (.cells #[.int .i64 0, .int .i64 0, (.slice none 0 0)] 62 (0, 0))) ∧ Aside0 (w'.heap[gb108]? = some (.cells #[.int .i64 t103, .int .i64 t104, u109002] 62 (0, 0))) ∧ Aside0 (Below w.heap.size w w'))
 case atStart => exact ⟨(a1), (0), (t105), (.slice Ao13 t105.length co13), aq6, aq6, H', ⟨Nat.le_refl _⟩, ⟨by (with_reducible repeat (first | apply Kd.R_alloc | apply Kd.R_drewN | apply Kd.R_drew)); exact Kd.R_mono (Kd.R_far (p := ⟨gb108, 2, none⟩) (Kd.R_far (p := ⟨gb108, 1, none⟩) (Kd.R_far (p := ⟨gb108, 0, none⟩) (Kd.R_types HO107.out BK108.out (by decide)) (fun _ hk => hk.2) (.int .i64 t103)) (fun _ hk => hk.2) (.int .i64 t104)) (fun _ hk => hk.2) (.slice Ao13 t105.length co13)) (fun _ hk => trivial)⟩, ⟨aq34⟩, ⟨by (with_reducible repeat (first | refine blk_drewN ?_ _ | refine blk_drew ?_ | refine blk_alloc ?_ _)); refine blk_far ?_ NB102_108.out _; (with_reducible repeat (first | refine blk_drewN ?_ _ | refine blk_drew ?_ | refine blk_alloc ?_ _)); refine blk_far ?_ NB102_108.out _; (with_reducible repeat (first | refine blk_drewN ?_ _ | refine blk_drew ?_ | refine blk_alloc ?_ _)); refine blk_far ?_ NB102_108.out _; (with_reducible repeat (first | refine blk_drewN ?_ _ | refine blk_drew ?_ | refine blk_alloc ?_ _)); exact BK102.out⟩, ⟨by (with_reducible repeat (first | refine blk_drewN ?_ _ | refine blk_drew ?_ | refine blk_alloc ?_ _)); refine blk_put (cs := #[.int .i64 t103, .int .i64 t104, .slice none 0 0]) ?_ 2 _ rfl; (with_reducible repeat (first | refine blk_drewN ?_ _ | refine blk_drew ?_ | refine blk_alloc ?_ _)); refine blk_put (cs := #[.int .i64 t103, .int .i64 0, .slice none 0 0]) ?_ 1 _ rfl; (with_reducible repeat (first | refine blk_drewN ?_ _ | refine blk_drew ?_ | refine blk_alloc ?_ _)); refine blk_put (cs := #[.int .i64 0, .int .i64 0, .slice none 0 0]) ?_ 0 _ rfl; (with_reducible repeat (first | refine blk_drewN ?_ _ | refine blk_drew ?_ | refine blk_alloc ?_ _)); exact BK108.out⟩, ⟨aq31⟩⟩
 case round =>
  clear H'
  try clear c1
  try clear p2
  try clear c6
  try clear c10
  try clear c11
  try clear c13
  try clear hcz12_0
  try clear hcz12_1
  try clear hcz12_2
  try clear hcz14_0
  try clear hcz14_1
  try clear hcz14_2
  try clear hcz7_0
  try clear hcz7_1
  try clear hcz7_2
  try clear hfz12_0
  try clear hfz12_1
  try clear hfz12_2
  try clear hfz14_0
  try clear hfz14_1
  try clear hfz14_2
  try clear hfz7_0
  try clear hfz7_1
  try clear hfz7_2
  obtain ⟨x1_1, x13_1, x109002_1, u109002, rfl, rfl, HA, HK1, HO_109002, BK101, BK102, BK108, HB⟩ := hrel
  cases gk with
  | zero => exact absurd HA.out (by simp [spec_cnFill.l0])
  | succ k1 =>
   have H := HA.out
   clear HA
   simp only [spec_cnFill.l0] at H
   by_cases c15 : x13_1 < (l0_2.length : Int)
   ·rw [if_pos c15] at H
    have c15b0 := decide_eq_true c15
    clear c15
    by_cases c16 : 0 ≤ x13_1
    ·rw [if_pos c16] at H
     have c16b0 := decide_eq_true c16
     clear c16
     by_cases c17 : x13_1 < (l0_2.length : Int)
     ·rw [if_pos c17] at H
      have c17b0 := decide_eq_true c17
      clear c17
      by_cases c18 : (rd l0_2 x13_1) = 46
      ·rw [if_pos c18] at H
       have c18b0 := beq_iff_eq.mpr c18
       have c18b1 := bne_eq_false_iff_eq.mpr c18
       clear c18
       by_cases c19 : (Int.tmod x1_1 2) = 1
       ·rw [if_pos c19] at H
        have c19b0 := beq_iff_eq.mpr c19
        have c19b1 := bne_eq_false_iff_eq.mpr c19
        clear c19
        by_cases c20 : x13_1 < (x109002_1.length : Int)
        ·rw [if_pos c20] at H
         have c20b0 := decide_eq_true c20
         clear c20
         obtain ⟨y110, hy_⟩ : ∃ y_ : List Int, y_ = (x109002_1.set (x13_1 : Int).toNat 111) := ⟨_, rfl⟩
         replace H : (spec_cnFill.l0 k1 (wrap64 (Int.tdiv x1_1 2)) l0_2 (l0_2.length : Int) (wrap64 (x13_1 + 1)) t103 t104 y110) = some (r1, r2, r3) := aq3
         have Ny110 := am hy_
         clear hy_
         have H' := am H
         clear H
         have p109 : 0 ≤ (x13_1 : Int) := of_decide_eq_true aq5
         have q109 : x13_1 < (l0_2.length : Int) := of_decide_eq_true aq5
         obtain ⟨ad109, e109, hx109_0⟩ := Kd.at_int HR0_2.out x13_1 p109 q109
         cases e109
         try replace hx109_0 := (HB.out.cell (World.block_lt_of_cell? w _ hx109_0)).trans hx109_0
         replace p109 := eq_true p109
         replace q109 := eq_true q109
         have hnb22 := NB108_101.out
         have hnc22 := NB101_108.out
         have hnb23 := NB108_102.out
         have hnc23 := NB102_108.out
         obtain ⟨hcz24_0, hcz24_1, hcz24_2, hfz24_0, hfz24_1, hfz24_2⟩ := blk3_ BK108.out
         have p21 : 0 ≤ (x13_1 : Int) := of_decide_eq_true aq5
         have q21 : (x13_1 : Int) < ((x109002_1.length : Int) : Int) := of_decide_eq_true aq5
         obtain ⟨go21, co21, eo21, gb21, gl21, cl21, HG21⟩ := Kd.R_form HO_109002.out (by omega)
         (first | cases eo21 | (injection eo21 with ea_ en_ ec_; (first | subst ea_ | (injection ea_ with ea_; subst ea_)); subst ec_; clear en_))
         have GB21 := am gb21
         have GG21 := am HG21
         clear gb21 gl21 HG21
         obtain ⟨hx21_0, hf21_0⟩ := Kd.R_celln 0 HO_109002.out (x13_1 : Int) p21 q21
         replace p21 := eq_true p21
         replace q21 := eq_true q21
         have HP25 := Kd.R_putg HO_109002.out (x13_1 : Int) 111
         go_wp2_with (first | ((with_reducible refine gate_store (t := 5) (p := 26) rfl ?_); refine store_event (t := 5) (p := 26) (v := ?vo_w26) (w1 := (wr.setCell ⟨go21, (x13_1 : Int).toNat, none⟩ (.int .u8 111))) ?hg ?ho ?hn ?hr ?_; (case ho => rfl); (case hg => rfl); (case hn => rfl); (case hr => exact aq19); intro w26 hw; have hg : wr.grownBy w26 (some go21) := (by rw [hw]; exact HP25.2); have hp_ : Kd.R (Kd.int .u8) 5 w26 w.heap.size (fun _ => True) (.slice (some ⟨go21, 0, none⟩) x109002_1.length co21) y110 := (by rw [hw, Ny110.out]; exact HP25.1); clear HP25; have n0_ := am (hp_); have n1_ := am (blk_grown (g := gb101) (o := .cells #[.int .i64 a0_0, .int .i64 a0_1, .slice (some ad109) l0_2.length c0_2] 62 (0, 0)) aq2 hg (Kd.R_ne HO_109002.out BK101.out (by decide))); have n2_ := am (blk_grown (g := gb102) (o := .cells #[.int .i64 0, .int .i64 0, .slice none 0 0] 62 (0, 0)) aq12 hg (Kd.R_ne HO_109002.out BK102.out (by decide))); have n3_ := am (blk_grown (g := gb108) (o := .cells #[.int .i64 t103, .int .i64 t104, .slice (some ⟨go21, 0, none⟩) x109002_1.length co21] 62 (0, 0)) aq15 hg (Kd.R_ne HO_109002.out BK108.out (by decide))); have n4_ := am ((by rw [hw]; exact below_set (HB.out) GB21.out : Below w.heap.size w w26)); clear HO_109002; clear BK101; clear BK102; clear BK108; clear HB; have HO_109002 := n0_; have BK101 := n1_; have BK102 := n2_; have BK108 := n3_; have HB := n4_; clear n0_ n1_ n2_ n3_ n4_; clear hg hw hp_))
         go_roundg k1
         case measure => have := HK1.out; omega
         case rel => exact ⟨(wrap64 (Int.tdiv x1_1 2)), (wrap64 (x13_1 + 1)), (y110), (.slice (some ⟨go21, 0, none⟩) x109002_1.length co21), aq6, aq6, H', ⟨aq65⟩, ⟨aq18⟩, ⟨aq2⟩, ⟨aq12⟩, ⟨aq15⟩, ⟨aq31⟩⟩
        ·rw [if_neg c20] at H
         exact absurd H (by simp)
       ·rw [if_neg c19] at H
        have c19b0 := beq_eq_false_iff_ne.mpr c19
        have c19b1 := bne_iff_ne.mpr c19
        have H' := am H
        clear H
        have p109 : 0 ≤ (x13_1 : Int) := of_decide_eq_true aq5
        have q109 : x13_1 < (l0_2.length : Int) := of_decide_eq_true aq5
        obtain ⟨ad109, e109, hx109_0⟩ := Kd.at_int HR0_2.out x13_1 p109 q109
        cases e109
        try replace hx109_0 := (HB.out.cell (World.block_lt_of_cell? w _ hx109_0)).trans hx109_0
        replace p109 := eq_true p109
        replace q109 := eq_true q109
        go_wp2
        go_roundg k1
        case measure => have := HK1.out; omega
        case rel => exact ⟨(wrap64 (Int.tdiv x1_1 2)), (wrap64 (x13_1 + 1)), (x109002_1), (u109002), aq6, aq6, H', ⟨aq65⟩, ⟨aq18⟩, ⟨aq2⟩, ⟨aq12⟩, ⟨aq15⟩, ⟨aq31⟩⟩
      ·rw [if_neg c18] at H
       have c18b0 := beq_eq_false_iff_ne.mpr c18
       have c18b1 := bne_iff_ne.mpr c18
       have H' := am H
       clear H
       have p109 : 0 ≤ (x13_1 : Int) := of_decide_eq_true aq5
       have q109 : x13_1 < (l0_2.length : Int) := of_decide_eq_true aq5
       obtain ⟨ad109, e109, hx109_0⟩ := Kd.at_int HR0_2.out x13_1 p109 q109
       cases e109
       try replace hx109_0 := (HB.out.cell (World.block_lt_of_cell? w _ hx109_0)).trans hx109_0
       replace p109 := eq_true p109
       replace q109 := eq_true q109
       go_wp2
       go_roundg k1
       case measure => have := HK1.out; omega
       case rel => exact ⟨(x1_1), (wrap64 (x13_1 + 1)), (x109002_1), (u109002), aq6, aq6, H', ⟨aq65⟩, ⟨aq18⟩, ⟨aq2⟩, ⟨aq12⟩, ⟨aq15⟩, ⟨aq31⟩⟩
     ·rw [if_neg c17] at H
      exact absurd H (by simp)
    ·rw [if_neg c16] at H
     exact absurd H (by simp)
   ·rw [if_neg c15] at H
    have c15b0 := decide_eq_false c15
    clear c15
    simp only [Option.some.injEq, Prod.mk.injEq] at H
    obtain ⟨rfl, rfl, rfl⟩ := H
    have hnb27 := NB108_101.out
    have hnc27 := NB101_108.out
    have hnb28 := NB108_102.out
    have hnc28 := NB102_108.out
    obtain ⟨hcz29_0, hcz29_1, hcz29_2, hfz29_0, hfz29_1, hfz29_2⟩ := blk3_ BK108.out
    have hnb30 := NB102_101.out
    have hnc30 := NB101_102.out
    obtain ⟨hcz31_0, hcz31_1, hcz31_2, hfz31_0, hfz31_1, hfz31_2⟩ := blk3_ BK102.out
    obtain ⟨Ao32, co32, eo32⟩ := Kd.R_slice HO_109002.out
    subst eo32
    go_wp2
    refine bodyPost_ret (results_cell_row rfl _ _ gb102 62 #[.int .i64 t103, .int .i64 t104, .slice Ao32 x109002_1.length co32] (0, 0) _ rfl (by (with_reducible repeat (first | refine blk_drewN ?_ _ | refine blk_drew ?_ | refine blk_alloc ?_ _)); refine blk_put (cs := #[.int .i64 t103, .int .i64 t104, .slice none 0 0]) ?_ 2 _ rfl; (with_reducible repeat (first | refine blk_drewN ?_ _ | refine blk_drew ?_ | refine blk_alloc ?_ _)); refine blk_put (cs := #[.int .i64 t103, .int .i64 0, .slice none 0 0]) ?_ 1 _ rfl; (with_reducible repeat (first | refine blk_drewN ?_ _ | refine blk_drew ?_ | refine blk_alloc ?_ _)); refine blk_put (cs := #[.int .i64 0, .int .i64 0, .slice none 0 0]) ?_ 0 _ rfl; (with_reducible repeat (first | refine blk_drewN ?_ _ | refine blk_drew ?_ | refine blk_alloc ?_ _)); exact BK102.out) Tryz.underlying62 rfl (by kernel_rfl)) rfl ?_
    exact ⟨_, aq8, by (with_reducible repeat (first | apply Kd.R_alloc | apply Kd.R_drewN | apply Kd.R_drew)); exact Kd.R_mono (Kd.R_far (p := ⟨gb102, 2, none⟩) (Kd.R_far (p := ⟨gb102, 1, none⟩) (Kd.R_far (p := ⟨gb102, 0, none⟩) (Kd.R_types HO_109002.out BK102.out (by decide)) (fun _ hk => hk.2) (.int .i64 t103)) (fun _ hk => hk.2) (.int .i64 t104)) (fun _ hk => hk.2) (.slice Ao32 x109002_1.length co32)) (fun _ hk => trivial), aq31⟩
end Go.Proofs.YtdffgeoegdkiaaaGreatDoor.F

namespace Go.Proofs.YtdffgeoegdkiaaaGreatDoor.F
open Go.RowKit Go.Proofs.YtdffgeoegdkiaaaGreatDoor Go.Proofs.YtdffgeoegdkiaaaGreatDoorW.PrintWords Go.Proofs.YtdffgeoegdkiaaaGreatDoorW.PrintMore
def movSt (b : Nat → Bool) : List Nat → Nat → Nat → List Int
  | [], _, _ => []
  | i :: l, j, k => if b i = true then ((j - k : Nat) : Int) :: movSt b l (j + 1) (k + 1) else movSt b l (j + 1) k
def movL (w h d : Nat) (cs : List Int) : List Int := (strD w h d cs).flatMap fun st => movSt (ballAt cs) st 0 0
theorem movSt_len (b : Nat → Bool) : ∀ (l : List Nat) (j k : Nat), (movSt b l j k).length ≤ l.length
  | [], _, _ => Nat.le_refl _
  | i :: l, j, k => by
    unfold movSt
    split
    · rw [List.length_cons, List.length_cons]; have := movSt_len b l (j + 1) (k + 1); omega
    · rw [List.length_cons]; have := movSt_len b l (j + 1) k; omega
theorem movSt_zero (b : Nat → Bool) : ∀ (l : List Nat) (j k : Nat), k ≤ j → ((∀ x ∈ movSt b l j k, x = 0) ↔ if j = k then l.filter b = l.take (l.filter b).length else l.filter b = [])
  | [], j, k, _ => by simp [movSt]
  | i :: l, j, k, hk => by
    unfold movSt
    by_cases hb : b i = true
    · rw [if_pos hb, List.filter_cons, if_pos hb, List.length_cons, List.take_succ_cons]
      have ih := movSt_zero b l (j + 1) (k + 1) (by omega)
      by_cases e : j = k
      · rw [if_pos e]
        rw [if_pos (by omega)] at ih
        constructor
        · intro h; rw [← ih.1 (fun x hx => h x (List.mem_cons_of_mem _ hx))]
        · intro h x hx
          rcases List.mem_cons.1 hx with rfl | hx
          · omega
          · exact ih.2 (List.cons.inj h).2 x hx
      · rw [if_neg e]
        constructor
        · intro h; have := h _ List.mem_cons_self; omega
        · intro h; cases h
    · rw [if_neg hb, List.filter_cons, if_neg hb]
      have ih := movSt_zero b l (j + 1) k (by omega)
      rw [if_neg (by omega)] at ih
      by_cases e : j = k
      · rw [if_pos e, ih]
        constructor
        · intro h; rw [h]; rfl
        · intro h
          cases hf : l.filter b with
          | nil => rfl
          | cons y m =>
            rw [hf, List.length_cons, List.take_succ_cons] at h
            have hy : y ∈ l.filter b := by rw [hf]; exact List.mem_cons_self
            rw [(List.cons.inj h).1] at hy
            exact absurd (List.mem_filter.1 hy).2 hb
      · rw [if_neg e, ih]
section
variable {w h d : Nat} {cs : List Int}
theorem movL_zero : (∀ x ∈ movL w h d cs, x = 0) ↔ ∀ st ∈ strD w h d cs, st.filter (ballAt cs) = st.take (st.filter (ballAt cs)).length := by
  unfold movL
  constructor
  · intro hz st hs
    have := (movSt_zero (ballAt cs) st 0 0 (Nat.le_refl _)).1 (fun x hx => hz x (List.mem_flatMap.2 ⟨st, hs, hx⟩))
    rwa [if_pos rfl] at this
  · intro hz x hx
    obtain ⟨st, hs, hx⟩ := List.mem_flatMap.1 hx
    exact (movSt_zero (ballAt cs) st 0 0 (Nat.le_refl _)).2 (by rw [if_pos rfl]; exact hz st hs) x hx
theorem still_iff (hd : d < 4) (hl : cs.length = w * h) : tiltD w h d cs = cs ↔ ∀ x ∈ movL w h d cs, x = 0 := by
  rw [movL_zero]
  constructor
  · intro ht st hs
    have hN := (strD_Str hd cs (w := w) (h := h)).nodup
    have hst := nodup_of_mem hN hs
    refine filter_take hst (st.filter (ballAt cs)).length (ballAt cs) (fun i hi => ?_)
    have hb := tilt_ball (i := i) hd hl
    rw [ht] at hb
    rw [hb]
    constructor
    · intro hm
      obtain ⟨q, hq, rfl⟩ := List.mem_map.1 hm
      obtain ⟨st', hs', hz'⟩ := mem_mvs.1 hq
      have e := flatten_one hN hs' hs (List.of_mem_zip hz').2 hi
      subst e
      rw [← zip_snd]
      exact List.mem_map.2 ⟨q, hz', rfl⟩
    · intro hm
      rw [← zip_snd] at hm
      obtain ⟨q, hq, rfl⟩ := List.mem_map.1 hm
      exact List.mem_map.2 ⟨q, mem_mvs.2 ⟨st, hs, hq⟩, rfl⟩
  · intro hz
    have key : ∀ p ∈ mvD w h d cs, p.1 = p.2 := by
      intro p hp
      unfold mvD at hp
      obtain ⟨st, hs, hz'⟩ := mem_mvs.1 hp
      rw [hz st hs] at hz'
      exact mem_zip_self hz'
    refine list_ext_getD (by rw [tiltD_length]) fun i hi => ?_
    rw [tiltD_length, hl] at hi
    rcases tilt_cell hd hl hi with ⟨k, hk, e, _⟩ | ⟨hp, e, hf⟩
    · rw [e, show k = i from key _ hk]
    · rw [e, if_neg]
      intro hb
      obtain ⟨j, hj⟩ := mv_of hd hl hb
      have := key _ hj
      simp only at this
      subst this
      exact hp _ hj rfl
end
def stillB (w h : Nat) (cs : List Int) (d : Nat) : Bool := decide (tiltD w h d cs = cs)
section
variable {w h d : Nat} {cs : List Int} (hw : 1 ≤ w ∧ w ≤ 7) (hh : 1 ≤ h ∧ h ≤ 7) (hl : cs.length = w * h) (hd : d < 4)
theorem moves_l1 (a0 a1 : Int) (hcl : cs.length < 1000) (S : List (List Int)) (n i : Int) (st : List Nat) (hst : ∀ x ∈ st, x < cs.length) (hsl : st.length < 1000) (r : List Int) : ∀ (dd j : Nat) (k : Nat) (out : List Int), j + dd = st.length → k ≤ j → out.length ≤ 100000 + j →
    Ev (fun f => spec_tiMoves.l0 f (out ++ movSt (ballAt cs) (st.drop j) j k) S n (wrap64 (i + 1)) a0 a1 cs) r →
    Ev (fun f => spec_tiMoves.l1 f out (k : Int) S n i (castsI st) ((castsI st).length : Int) (j : Int) a0 a1 cs) r
  | 0, j, k, out, hj, hk, ho, hr => by
    rw [List.drop_of_length_le (by omega), show movSt (ballAt cs) [] j k = [] from rfl, List.append_nil] at hr
    exact Ev.step (fun f => by rw [spec_tiMoves.l1, castsI_length, if_neg (by omega)]) hr
  | dd + 1, j, k, out, hj, hk, ho, hr => by
    have hjl : j < st.length := by omega
    rw [List.drop_eq_getElem_cons hjl] at hr
    unfold movSt at hr
    have hx := hst _ (List.getElem_mem hjl)
    have hW : Aside0 (wrap64 ((j : Int) + 1) = ((j + 1 : Nat) : Int)) := ⟨by rw [w64 (by omega) (by omega)]; rfl⟩
    have hK : Aside0 (wrap64 ((k : Int) + 1) = ((k + 1 : Nat) : Int)) := ⟨by rw [w64 (by omega) (by omega)]; rfl⟩
    have hJ : Aside0 (wrap64 ((j : Int) - (k : Int)) = ((j - k : Nat) : Int)) := ⟨by rw [w64 (by omega) (by omega)]; omega⟩
    have hrd := rd_cast st j hjl
    have hb : spec_tyBall.f (rd cs ((st[j]'hjl : Nat) : Int)) = some (ballAt cs st[j]) := by unfold rd; rw [Int.toNat_natCast]; exact spec_tyBall_is _
    by_cases hbb : ballAt cs st[j] = true
    · rw [if_pos hbb] at hr
      refine Ev.step (fun f => ?_) (moves_l1 a0 a1 hcl S n i st hst hsl r dd (j + 1) (k + 1) (out ++ [((j - k : Nat) : Int)]) (by omega) (by omega) (by rw [List.length_append, List.length_singleton]; omega) (by rw [List.append_assoc]; exact hr))
      rw [spec_tiMoves.l1, castsI_length, if_pos (by omega), if_pos (by omega), if_pos (by omega), hrd, if_pos (by omega), if_pos (by omega), hb, Option.bind_some, if_pos hbb, if_pos (by omega), hW.out, hK.out, hJ.out]
    · rw [if_neg hbb] at hr
      refine Ev.step (fun f => ?_) (moves_l1 a0 a1 hcl S n i st hst hsl r dd (j + 1) k out (by omega) (by omega) (by omega) hr)
      rw [spec_tiMoves.l1, castsI_length, if_pos (by omega), if_pos (by omega), if_pos (by omega), hrd, if_pos (by omega), if_pos (by omega), hb, Option.bind_some, if_neg hbb, hW.out]
theorem moves_l0 (a0 a1 : Int) (hcl : cs.length < 1000) (S : List (List Nat)) (hS : ∀ st ∈ S, (∀ x ∈ st, x < cs.length) ∧ st.length < 1000) (hSl : S.length < 100) : ∀ (dd i : Nat) (out : List Int), i + dd = S.length → out.length ≤ 1000 * i →
    Ev (fun f => spec_tiMoves.l0 f out (S.map castsI) ((S.map castsI).length : Int) (i : Int) a0 a1 cs) (out ++ (S.drop i).flatMap fun st => movSt (ballAt cs) st 0 0)
  | 0, i, out, hi, ho => by
    rw [List.drop_of_length_le (by omega), List.flatMap_nil, List.append_nil]
    exact Ev.step (fun f => by rw [spec_tiMoves.l0, List.length_map, if_neg (by omega)]) (Ev.now _)
  | dd + 1, i, out, hi, ho => by
    have hil : i < S.length := by omega
    rw [List.drop_eq_getElem_cons hil, List.flatMap_cons, ← List.append_assoc]
    have hst := hS _ (List.getElem_mem hil)
    have hrd : rd_L3 (S.map castsI) (i : Int) = castsI S[i] := by unfold rd_L3; rw [Int.toNat_natCast, List.getD_eq_getElem?_getD, List.getElem?_map, List.getElem?_eq_getElem hil]; rfl
    have hW : wrap64 ((i : Int) + 1) = ((i + 1 : Nat) : Int) := by rw [w64 (by omega) (by omega)]; rfl
    have hm := movSt_len (ballAt cs) S[i] 0 0
    refine Ev.step (f := fun f => spec_tiMoves.l1 f out ((0 : Nat) : Int) (S.map castsI) ((S.map castsI).length : Int) (i : Int) (castsI S[i]) ((castsI S[i]).length : Int) ((0 : Nat) : Int) a0 a1 cs) (fun f => by
      rw [spec_tiMoves.l0, if_pos (by rw [List.length_map]; omega), if_pos (by omega), if_pos (by rw [List.length_map]; omega), hrd]; rfl) ?_
    refine moves_l1 a0 a1 hcl _ _ _ S[i] hst.1 hst.2 _ S[i].length 0 0 out (by omega) (Nat.le_refl _) (by omega) ?_
    rw [hW, List.drop_zero]
    exact moves_l0 a0 a1 hcl S hS hSl dd (i + 1) _ (by omega) (by rw [List.length_append]; omega)
include hw hh hl hd
theorem tiMoves_ev : Ev (fun k => spec_tiMoves.f k w h cs d) (movL w h d cs) := by
  have hcl : cs.length ≤ 49 := by rw [hl]; exact Nat.mul_le_mul hw.2 hh.2
  have hmem : ∀ st ∈ strD w h d cs, ∀ x ∈ st, x < cs.length := fun st hs x hx => by rw [hl]; exact ((strD_mem hd).1 (List.mem_flatten.2 ⟨st, hs, hx⟩)).1
  have hfl : (strD w h d cs).flatten.length ≤ 49 := by
    rw [(strD_cells hd cs).length_eq]
    exact Nat.le_trans (List.length_filter_le _ _) (by rw [List.length_range, ← hl]; exact hcl)
  have hst : ∀ st ∈ strD w h d cs, st.length ≤ 49 := fun st hs => Nat.le_trans (List.Sublist.length_le (List.sublist_flatten_of_mem hs)) hfl
  have hSl : (strD w h d cs).length ≤ 49 := by
    refine Nat.le_trans ?_ hfl
    generalize hg : strD w h d cs = S
    have hne : ∀ st ∈ S, st ≠ [] := fun st hs => strD_ne hd st (hg ▸ hs)
    clear hg
    induction S with
    | nil => exact Nat.le_refl _
    | cons a S ih =>
      rw [List.flatten_cons, List.length_append, List.length_cons]
      have h1 := List.length_pos_iff.2 (hne a List.mem_cons_self)
      have h2 := ih (fun st hs => hne st (List.mem_cons_of_mem _ hs))
      omega
  refine Ev.bind (tiStretches_ev hw hh hl hd) ?_
  have := moves_l0 (cs := cs) (w : Int) (h : Int) (by omega) (strD w h d cs) (fun st hs => ⟨hmem st hs, by have := hst st hs; omega⟩) (by omega) (strD w h d cs).length 0 [] (by omega) (by simp)
  rw [List.drop_zero, List.nil_append] at this
  exact this
end
end Go.Proofs.YtdffgeoegdkiaaaGreatDoor.F

namespace Go.Proofs.YtdffgeoegdkiaaaGreatDoor.F
open Go.Proofs.YtdffgeoegdkiaaaGreatDoor
open Go.RowKit Go.Proofs.YtdffgeoegdkiaaaGreatDoorW.PrintWords Go.Proofs.YtdffgeoegdkiaaaGreatDoorW.PrintLast Go.Proofs.YtdffgeoegdkiaaaGreatDoorW.PrintMore
attribute [local go_sem] max2_int min2_int max_two min_two max_three min_three max_four min_four
def impl_read.f (a0 : ByteArray) : Option (Int × Int × List Int) := (strings_Split.f a0 (⟨#[47]⟩ : ByteArray)).bind fun t102 => (if 0 < (t102.length : Int) then ((strings_Join.f t102 (⟨#[]⟩ : ByteArray)).bind fun t106 => ((conv_bytes.f t106).bind fun t107 => (some (((rdOf ByteArray.empty t102 0).size : Int), (t102.length : Int), t107)))) else (none))
def impl_read.T2 : Bool × List (List Nat × List Nat) := (true, [([], []), ([0], [0]), ([1], [1]), ([2], [2]), ([], []), ([4], [4]), ([], []), ([6], [6]), ([7], [7]), ([3, 5, 8], [3, 5, 8]), ([9, 7, 0, 1, 2, 3, 4, 5, 6, 7, 8, 9], [9])])
def impl_read.B2 : List Nat := [0, 1, 3, 7, 0, 16, 0, 64, 192, 511, 1023]
theorem impl_read.tab2 : rtab .any (opsOf Tryz.f89 2) = impl_read.T2 := by kernel_rfl
theorem impl_read.bits2 : waitsOk impl_read.T2.2 impl_read.B2 = true := by kernel_rfl
set_option maxHeartbeats 8000000 in
set_option maxRecDepth 100000 in
theorem impl_read.calls (a0 : ByteArray) (r1 : Int) (r2 : Int) (r3 : List Int) (w : World) (h : impl_read.f a0 = some (r1, r2, r3)) :
  Calls Tryz.prog 89 #[.string a0] w fun e w' => ∃ v2_ : Value, e = .returned (.agg #[.int .i64 r1, .int .i64 r2, v2_]) ∧ Kd.V (Kd.int .u8) 5 w' w.heap.size (fun k_ => (w.heap.size ≤ k_)) v2_ r3 ∧ Below w.heap.size w w' := by
 have hu93 := Tryz.underlying93
 have HB := am (Below.refl w.heap.size w)
 have H : ((strings_Split.f a0 (⟨#[47]⟩ : ByteArray)).bind fun t102 => (if 0 < (t102.length : Int) then ((strings_Join.f t102 (⟨#[]⟩ : ByteArray)).bind fun t106 => ((conv_bytes.f t106).bind fun t107 => (some (((rdOf ByteArray.empty t102 0).size : Int), (t102.length : Int), t107)))) else (none))) = some (r1, r2, r3) := h
 clear h
 obtain ⟨t102, A20, H⟩ := Option.bind_eq_some_iff.mp H
 have A2 := am A20
 clear A20
 by_cases c3 : 0 < (t102.length : Int)
 ·rw [if_pos c3] at H
  have c3b0 := decide_eq_true c3
  have c3b1 : decide (0 < t102.length) = true := decide_eq_true (by omega)
  clear c3
  obtain ⟨t106, A40, H⟩ := Option.bind_eq_some_iff.mp H
  have A4 := am A40
  clear A40
  obtain ⟨t107, A50, H⟩ := Option.bind_eq_some_iff.mp H
  have A5 := am A50
  clear A50
  simp only [Option.some.injEq, Prod.mk.injEq] at H
  obtain ⟨rfl, rfl, rfl⟩ := H
  go_enter Tryz.func89, Tryz.ntmps89
  try go_wp2_with (first | ((with_reducible refine gate_dst (N := 2) rfl ?_); refine box_event ?hg (N := 2) ?hd (cs := #[.int .i64 0, .int .i64 0, .slice none 0 0]) (t := 93) ?hr ?_; (case hd => rfl); (case hg => rfl); (case hr => exact aq19); intro gb101 hg w6 hbox hb; have n0_ := am (below_step aq1 hb); have n1_ := am (hbox); have n2_ := am ((by rw [hg]; exact (below_size aq1) : w.heap.size ≤ gb101)); have n3_ := am ((by rw [hg]; exact (below_size aq1) : w.heap.size ≤ gb101)); clear HB; have HB := n0_; have BK101 := n1_; have GW101 := n2_; have GE101 := n3_; clear n0_ n1_ n2_ n3_; clear hb hbox hg) | ((with_reducible refine gate_callee (f := 101) rfl ?_); refine goesL_ (some 5) rfl rfl Tryz.func101 (by kernel_rfl) rfl #[.string a0, .string (⟨#[47]⟩ : ByteArray)] rfl aq4 ?_; (with_reducible refine (strings_Split.calls a0 (⟨#[47]⟩ : ByteArray) t102 _ A2.out).mono ?_); rintro e w7 ⟨v103, rfl, ho0, hb⟩; refine ⟨_, rfl, ?_⟩; have n0_ := am (Kd.R_lower (Kd.R_newM (M := fun k_ => (w.heap.size ≤ k_)) ho0 (below_size aq0) (fun k_ h_ => h_)) (below_size aq0)); have n1_ := am (blk_below (g := gb101) (o := .cells #[.int .i64 0, .int .i64 0, .slice none 0 0] 93 (0, 0)) aq2 hb); have n2_ := am (below_step aq0 hb); clear BK101; clear HB; have HO104 := n0_; have BK101 := n1_; have HB := n2_; clear n0_ n1_ n2_; (try clear hb); (try clear hb2); (try clear hk); (try clear hi); (try clear ho0)))
  have n0_ := am (Kd.R_drew HO104.out)
  have n1_ := am (blk_drew BK101.out)
  have n2_ := am (below_drew1 HB.out)
  clear HO104
  clear BK101
  clear HB
  have HO104 := n0_
  have BK101 := n1_
  have HB := n2_
  clear n0_ n1_ n2_
  obtain ⟨Ao9, co9, eo9⟩ := Kd.R_slice HO104.out
  (first | subst eo9 | (injection eo9 with f1_ f2_ f3_; have f4_ := f1_.symm; have f5_ := f3_.symm; clear f1_ f2_ f3_; subst f4_; subst f5_))
  have p105 : 0 ≤ (0 : Int) := (by omega)
  have q105 : 0 < (t102.length : Int) := of_decide_eq_true aq5
  obtain ⟨ad105, e105, hx105_0⟩ := Kd.at_string (Kd.R_reads' HO104.out).2.2 0 p105 q105
  cases e105
  have qi105 : (0 < t102.length) = True := eq_true (by omega)
  (try rw [show ((0 : Int)).toNat = 0 from rfl] at hx105_0)
  (try rw [Addr.add_zero'] at hx105_0)
  replace p105 := eq_true p105
  replace q105 := eq_true q105
  refine start_ (n := 11) (S := fun w' => w'.cell? ad105 = some (.string (rdOf ByteArray.empty t102 0))) (ds := []) #[false, false, false, false, false, false, false, false, false, false, false] (by kernel_rfl) rfl rfl (hx105_0) (fun hHeld => ?_); refine with_tabW impl_read.tab2 impl_read.bits2 (fun HT_ HW_ => ?_)
  generalize w7.drew = w8 at HO104 BK101 HB hx105_0 hHeld ⊢
  refine pure_ (i := 0) (N := some 6) (v := ?_) (a' := ?_) (bm 11 1) rfl rfl (any_of HT_.out (by kernel_rfl)) (fun _ _ _ h => h) (Or.inl ⟨by rfl, ?_⟩) ?_ ?_
  rotate_left
  ·intro w'
   go_simp
   with_reducible rfl
  rotate_left
  ·simp only [Act.put, ac_]
   rfl
  refine pure_ (i := 1) (N := some 7) (v := ?_) (a' := ?_) (bm 11 3) rfl rfl (any_of HT_.out (by kernel_rfl)) (fun _ _ _ h => h) (Or.inl ⟨by rfl, ?_⟩) ?_ ?_
  rotate_left
  ·intro w'
   go_simp
   with_reducible rfl
  rotate_left
  ·simp only [Act.put, ac_]
   rfl
  refine pure_ (i := 4) (N := some 10) (v := ?_) (a' := ?_) (bm 11 19) rfl rfl (any_of HT_.out (by kernel_rfl)) (fun _ _ _ h => h) (Or.inl ⟨by rfl, ?_⟩) ?_ ?_
  rotate_left
  ·intro w'
   go_simp
   with_reducible rfl
  rotate_left
  ·simp only [Act.put, ac_]
   rfl
  refine pure_ (i := 5) (N := some 11) (v := ?_) (a' := ?_) (bm 11 51) rfl rfl (any_of HT_.out (by kernel_rfl)) (fun _ _ _ h => h) (Or.inl ⟨by rfl, ?_⟩) ?_ ?_
  rotate_left
  ·intro w'
   go_simp
   with_reducible rfl
  rotate_left
  ·simp only [Act.put, ac_]
   rfl
  refine pure_ (i := 6) (N := some 12) (v := ?_) (a' := ?_) (bm 11 115) rfl rfl (any_of HT_.out (by kernel_rfl)) (fun _ _ _ h => h) (Or.inl ⟨by rfl, ?_⟩) ?_ ?_
  rotate_left
  ·intro w'
   go_simp
   with_reducible rfl
  rotate_left
  ·simp only [Act.put, ac_]
   rfl
  refine take_ (i := 2) (N := some 8) (v := ?_) (a' := ?_) (bm 11 119) rfl rfl (take_ofW HT_.out HW_.out (by kernel_rfl)) (fun _ _ _ h => h) (Or.inl ⟨by rfl, ?_⟩) hHeld ?_ ?_
  rotate_left
  ·intro w' s0
   go_simp
   with_reducible rfl
  rotate_left
  ·simp only [Act.put, ac_]
   rfl
  refine pure_ (i := 3) (N := some 9) (v := ?_) (a' := ?_) (bm 11 127) rfl rfl (any_of HT_.out (by kernel_rfl)) (fun _ _ _ h => h) (Or.inl ⟨by rfl, ?_⟩) ?_ ?_
  rotate_left
  ·intro w'
   go_simp
   with_reducible rfl
  rotate_left
  ·simp only [Act.put, ac_]
   rfl
  refine one_ (i := 7) (N := some 13) (bm 11 255) rfl rfl (one_of HT_.out (by kernel_rfl)) (by decide) (fun K hK => ?_)
  refine goes_ Tryz.func128 (by kernel_rfl) rfl #[.slice (some ad105) t102.length co9, .string (⟨#[]⟩ : ByteArray)] (by rfl) rfl rfl aq4 ?_
  with_reducible refine (strings_Join.calls _ _ t102 (⟨#[]⟩ : ByteArray) t106 _ ?side1 ?side2 A4.out).mono ?_
  (case side1 => exact aq68)
  (case side2 => exact (Kd.R_reads' HO104.out).2.1)
  rintro e w10 ⟨rfl, hb⟩
  have HS0_ := (hb.cell (World.block_lt_of_cell? _ _ (hHeld))).trans (hHeld)
  refine ⟨_, rfl, ?_⟩
  have n0_ := am (Kd.R_below aq48 hb)
  have n1_ := am (blk_below (g := gb101) (o := .cells #[.int .i64 0, .int .i64 0, .slice none 0 0] 93 (0, 0)) aq2 hb)
  have n2_ := am (below_step aq0 hb)
  clear HO104
  clear BK101
  clear HB
  have HO104 := n0_
  have BK101 := n1_
  have HB := n2_
  clear n0_ n1_ n2_
  (try clear hb)
  (try clear hb2)
  (try clear hk)
  (try clear hi)
  refine hK.out _ _ (HS0_) (fun hHeld => ?_)
  clear hK K
  refine norm_ (a' := ?_) ?_ ?_
  rotate_left
  ·show Act.put _ (some 13) _ = _
   simp only [Act.put, ac_]
   rfl
  refine one_ (i := 8) (N := some 14) (bm 11 511) rfl rfl (one_of HT_.out (by kernel_rfl)) (by decide) (fun K hK => ?_)
  refine conv_step (by rfl) (N := 14) rfl 9 60 5 _ rfl t106 rfl Tryz.underlying9 Tryz.underlying60 Tryz.underlying5 t107 A5.out ?_
  intro v108 w11 ho0 hb
  have HS0_ := (hb.cell (World.block_lt_of_cell? _ _ (hHeld))).trans (hHeld)
  have n0_ := am (Kd.R_below aq48 hb)
  have n1_ := am (Kd.V_lower (Kd.V_mono (ok' := fun k_ => (w.heap.size ≤ k_) ∧ some k_ ≠ (.slice (some ad105) t102.length co9 : Value).ownBlock ∧ k_ ≠ gb101) ho0 (fun k_ hk_ => ⟨(Nat.le_trans (below_size aq0) hk_), (Kd.fresh' (Kd.R_lt aq48) k_ hk_), (Kd.freshB (g := gb101) (o := .cells #[.int .i64 0, .int .i64 0, .slice none 0 0] 93 (0, 0)) aq2 k_ hk_)⟩)) (below_size aq0))
  have n2_ := am (blk_below (g := gb101) (o := .cells #[.int .i64 0, .int .i64 0, .slice none 0 0] 93 (0, 0)) aq2 hb)
  have n3_ := am (below_step aq0 hb)
  clear HO104
  clear BK101
  clear HB
  have HO104 := n0_
  have HO109 := n1_
  have BK101 := n2_
  have HB := n3_
  clear n0_ n1_ n2_ n3_
  (try clear hb)
  (try clear hb2)
  (try clear hk)
  (try clear hi)
  (try clear ho0)
  obtain ⟨Ao12, co12, eo12⟩ := Kd.V_slice HO109.out
  (first | subst eo12 | (injection eo12 with f1_ f2_ f3_; have f4_ := f1_.symm; have f5_ := f3_.symm; clear f1_ f2_ f3_; subst f4_; subst f5_))
  refine hK.out _ _ (HS0_) (fun hHeld => ?_)
  clear hK K
  refine norm_ (a' := ?_) ?_ ?_
  rotate_left
  ·show Act.put _ (some 14) _ = _
   simp only [Act.put, ac_]
   rfl
  refine pure_ (i := 9) (N := some 15) (v := ?_) (a' := ?_) (bm 11 1023) rfl rfl (any_of HT_.out (by kernel_rfl)) (fun _ _ _ h => h) (Or.inl ⟨by rfl, ?_⟩) ?_ ?_
  rotate_left
  ·intro w'
   go_simp
   with_reducible rfl
  rotate_left
  ·simp only [Act.put, ac_]
   rfl
  refine one_ (i := 10) (N := none) (bm 11 2047) rfl rfl (one_of HT_.out (by kernel_rfl)) (by decide) (fun K hK => ?_)
  have hs13 : w11.cell? ⟨gb101, 0, none⟩ = some (.int .i64 0) := (blk_cell BK101.out 0).trans rfl
  have hfs13 := blk_frozen BK101.out 0
  have hs14 : w11.cell? ⟨gb101, 1, none⟩ = some (.int .i64 0) := (blk_cell BK101.out 1).trans rfl
  have hfs14 := blk_frozen BK101.out 1
  have hs15 : w11.cell? ⟨gb101, 2, none⟩ = some (.slice none 0 0) := (blk_cell BK101.out 2).trans rfl
  have hfs15 := blk_frozen BK101.out 2
  refine skip_ (w1 := ?_) (by rfl) rfl ?_ ?_
  rotate_left
  ·go_simp
   rfl
  refine hK.out _ _ (((cell_far (p := ⟨gb101, _, none⟩) aq45 _).trans (((cell_far (p := ⟨gb101, _, none⟩) aq45 _).trans (((cell_far (p := ⟨gb101, _, none⟩) aq45 _).trans (hHeld))))))) (fun hHeld => ?_)
  clear hK K
  refine done_ (done_of HT_.out (by kernel_rfl)) ?_
  try go_wp2
  refine bodyPost_ret (results_cell_row rfl _ _ gb101 93 #[.int .i64 ((rdOf ByteArray.empty t102 0).size : Int), .int .i64 (t102.length : Int), .slice Ao12 t107.length co12] (0, 0) _ rfl (by (with_reducible repeat (first | refine blk_drewN ?_ _ | refine blk_drew ?_ | refine blk_alloc ?_ _)); refine blk_put (cs := #[.int .i64 ((rdOf ByteArray.empty t102 0).size : Int), .int .i64 (t102.length : Int), .slice none 0 0]) ?_ 2 _ rfl; (with_reducible repeat (first | refine blk_drewN ?_ _ | refine blk_drew ?_ | refine blk_alloc ?_ _)); refine blk_put (cs := #[.int .i64 ((rdOf ByteArray.empty t102 0).size : Int), .int .i64 0, .slice none 0 0]) ?_ 1 _ rfl; (with_reducible repeat (first | refine blk_drewN ?_ _ | refine blk_drew ?_ | refine blk_alloc ?_ _)); refine blk_put (cs := #[.int .i64 0, .int .i64 0, .slice none 0 0]) ?_ 0 _ rfl; (with_reducible repeat (first | refine blk_drewN ?_ _ | refine blk_drew ?_ | refine blk_alloc ?_ _)); exact BK101.out) Tryz.underlying93 rfl (by kernel_rfl)) rfl ?_
  exact ⟨_, aq8, by (with_reducible repeat (first | apply Kd.V_alloc | apply Kd.V_drewN | apply Kd.V_drew)); exact Kd.V_mono (Kd.V_far (p := ⟨gb101, 2, none⟩) (Kd.V_far (p := ⟨gb101, 1, none⟩) (Kd.V_far (p := ⟨gb101, 0, none⟩) (Kd.V_mono HO109.out (fun k_ hk => (⟨hk, hk.2.2⟩ : _ ∧ k_ ≠ gb101))) (fun _ hk => hk.2) (.int .i64 ((rdOf ByteArray.empty t102 0).size : Int))) (fun _ hk => hk.2) (.int .i64 (t102.length : Int))) (fun _ hk => hk.2) (.slice Ao12 t107.length co12)) (fun _ hk => hk.1.1), aq0⟩
 ·rw [if_neg c3] at H
  exact absurd H (by simp)
end Go.Proofs.YtdffgeoegdkiaaaGreatDoor.F

namespace Go.Proofs.YtdffgeoegdkiaaaGreatDoor.F
open Go.RowKit Go.Proofs.YtdffgeoegdkiaaaGreatDoor Go.Proofs.YtdffgeoegdkiaaaGreatDoorW.PrintWords
theorem tyGrid_some {l : List Int} {w h : Nat} {cs : List Int} (hg : tyGrid l = some (w, h, cs)) :
    (1 ≤ w ∧ w ≤ 7) ∧ (1 ≤ h ∧ h ≤ 7) ∧ cs.length = w * h ∧ w * h ≤ 36 ∧ l.length ≤ 42 ∧ cs = (rowsI 47 l).flatten ∧ w = ((rowsI 47 l).headD []).length ∧ h = (rowsI 47 l).length := by
  have hs : rowsTray l := (tyGrid_iff l).1 (by rw [hg]; rfl)
  unfold tyGrid at hg
  split at hg
  · cases hg
  rename_i h42
  cases hr : rowsI 47 l with
  | nil => exact absurd hr (rowsI_ne _ _)
  | cons r rs =>
    rw [tyGo_start l r rs hr] at hg
    unfold rowsTray at hs
    rw [hr] at hs
    by_cases hc : 0 < r.length ∧ rowsGood r.length (r :: rs)
    · rw [if_pos hc] at hg
      simp only at hg
      split at hg
      · rename_i hd
        injection hg with hg
        simp only [Prod.mk.injEq] at hg
        obtain ⟨rfl, rfl, rfl⟩ := hg
        have hf := rowsGood_flatten hc.2
        simp only [List.length_cons] at hf
        simp only [List.headD_cons, List.length_cons] at hs ⊢
        refine ⟨hs.1, hs.2.1, hf, hs.2.2.1, by omega, ?_⟩
        simp
      · cases hg
    · rw [if_neg hc] at hg
      cases hg
theorem join_nil : ∀ xs : List (List UInt8), Lib.join xs [] = xs.flatten
  | [] => rfl
  | [a] => by simp [Lib.join, List.intercalate]
  | a :: b :: l => by
    have ih := join_nil (b :: l)
    unfold Lib.join List.intercalate at ih ⊢
    rw [List.intersperse, List.flatten_cons, List.flatten_cons, ih]
    · simp
    all_goals simp
theorem impl_read_eq (s : ByteArray) {w h : Nat} {cs : List Int} (hg : tyGrid (bytesOf s) = some (w, h, cs)) : impl_read.f s = some ((w : Int), (h : Int), cs) := by
  obtain ⟨hw, hh, hl, h36, h42, hcs, hwr, hhr⟩ := tyGrid_some hg
  rw [bytesOf_length] at h42
  have hsp : strings_Split.f s (⟨#[47]⟩ : ByteArray) = some (rowsB 47 s) := if_pos ⟨by omega, rfl⟩
  have hmap : (rowsB 47 s).map bytesOf = rowsI 47 (bytesOf s) := rowsB_bytes 47 s
  have hjl : (Lib.join ((rowsB 47 s).map (·.data.toList)) []) = ((rowsB 47 s).map (·.data.toList)).flatten := join_nil _
  have hbj : bytesOf (joinB (rowsB 47 s) ⟨#[]⟩) = cs := by
    unfold joinB
    show ((Lib.join ((rowsB 47 s).map (·.data.toList)) []).map fun b : UInt8 => (b.toNat : Int)) = cs
    rw [hjl, List.map_flatten, List.map_map, hcs, ← hmap]
    rfl
  have hjs : (joinB (rowsB 47 s) ⟨#[]⟩).size = w * h := by rw [← bytesOf_length, hbj, hl]
  have hrl : (rowsB 47 s).length = h := by rw [hhr, ← hmap, List.length_map]
  have hjoin : strings_Join.f (rowsB 47 s) (⟨#[]⟩ : ByteArray) = some (joinB (rowsB 47 s) ⟨#[]⟩) := by
    refine if_pos ⟨by omega, ?_⟩
    have : (Lib.join ((rowsB 47 s).map (·.data.toList)) ([] : List UInt8)).length = w * h := by
      rw [← hjs]; rfl
    show (Lib.join ((rowsB 47 s).map (·.data.toList)) ([] : List UInt8)).length ≤ _
    omega
  have hr0 : ((rdOf ByteArray.empty (rowsB 47 s) 0).size : Int) = w := by
    rw [hwr, ← hmap]
    cases hrb : rowsB 47 s with
    | nil => rw [hrb] at hrl; simp at hrl; omega
    | cons a t =>
      show ((a.size : Nat) : Int) = _
      simp [bytesOf_length]
  rw [impl_read.f, hsp, Option.bind_some, if_pos (by omega), hjoin, Option.bind_some, conv_bytes.f, if_pos (by omega), Option.bind_some, hr0, hrl, hbj]
theorem count_byte (s : ByteArray) (b : UInt8) : strings_Count.f s ⟨#[b]⟩ = some (((bytesOf s).count (b.toNat : Int) : Nat) : Int) := by
  have h3 : strings_Count.f s ⟨#[b]⟩ = some ((Lib.countByte s.data.toList b : Nat) : Int) := if_pos rfl
  rw [h3]
  have hco : Lib.countByte s.data.toList b = (bytesOf s).count (b.toNat : Int) := ?_
  · rw [hco]
  unfold Lib.countByte bytesOf
  rw [List.count_eq_countP, List.count_eq_countP, List.countP_map]
  apply List.countP_congr
  intro c _
  simp only [beq_iff_eq, Function.comp]
  constructor
  · rintro rfl; rfl
  · intro h; exact UInt8.toNat_inj.1 (by omega)
end Go.Proofs.YtdffgeoegdkiaaaGreatDoor.F

namespace Go.Proofs.YtdffgeoegdkiaaaGreatDoor
open Go.RowKit Go.Proofs.YtdffgeoegdkiaaaGreatDoorW.PrintWords Go.Proofs.YtdffgeoegdkiaaaGreatDoorW.PrintLast Go.Proofs.YtdffgeoegdkiaaaGreatDoorW.PrintMore Go.Lib Go.Proofs.YtdffgeoegdkiaaaGreatDoor.F
attribute [local go_sem] max2_int min2_int
structure Held (F : Nat → Prop) (w w' : World) : Prop where
  os : w'.os = w.os
  tape : w'.tape = w.tape
  output : w'.output = w.output
  size : w.heap.size ≤ w'.heap.size
  block : ∀ k, k < w.heap.size → ¬ F k → w'.heap[k]? = w.heap[k]?
theorem Held.refl (F : Nat → Prop) (w : World) : Held F w w := ⟨rfl, rfl, rfl, Nat.le_refl _, fun _ _ _ => rfl⟩
theorem Held.trans {F F' : Nat → Prop} {w w1 w2 : World} (h : Held F w w1) (h' : Held F' w1 w2) (hs : ∀ k, F' k → F k ∨ w.heap.size ≤ k) : Held F w w2 :=
  ⟨h'.os.trans h.os, h'.tape.trans h.tape, h'.output.trans h.output, Nat.le_trans h.size h'.size, fun k hk hn => (h'.block k (Nat.lt_of_lt_of_le hk h.size) (fun hf => (hs k hf).elim hn (fun h1 => by omega))).trans (h.block k hk hn)⟩
theorem Held.of_below {F : Nat → Prop} {w w1 : World} (h : Below w.heap.size w w1) : Held F w w1 := ⟨h.os, h.tape, h.output, h.size, fun k hk _ => h.block k hk⟩
theorem Held.of_grown {F : Nat → Prop} {w w1 : World} {r : Option Nat} (h : w.grownBy w1 r) (hr : ∀ k, r = some k → F k) : Held F w w1 := ⟨h.os, h.tape, h.output, h.size, fun k hk hn => h.block k hk (fun e => hn (hr k e.symm))⟩
theorem Held.below {F : Nat → Prop} {w0 w w1 : World} {base : Nat} (hb : Below base w0 w) (h : Held F w w1) (hs : base ≤ w.heap.size) (hF : ∀ k, F k → base ≤ k) : Below base w0 w1 :=
  ⟨h.os.trans hb.os, h.tape.trans hb.tape, h.output.trans hb.output, Nat.le_trans hb.size h.size, fun k hk => (h.block k (Nat.lt_of_lt_of_le hk hs) (fun hf => by have := hF k hf; omega)).trans (hb.block k hk)⟩
theorem Held.setCell {F : Nat → Prop} {w w1 : World} (h : Held F w w1) {p : Addr} (u : Value) (hp : F p.block) : Held F w (w1.setCell p u) :=
  ⟨h.os, h.tape, h.output, by rw [World.size_setCell]; exact h.size, fun k hk hn => (Below.heap_setCell w1 p u k (fun e => hn (e ▸ hp))).trans (h.block k hk hn)⟩
theorem R_held {α : Type} {d : Kd α} {e base : Nat} {w w1 : World} {ok : Nat → Prop} {v : Value} {xs : List α} {F F' : Nat → Prop} (h : d.R e w base (fun k => ¬ F k ∧ ok k) v xs) (hh : Held F w w1) (hs : ∀ k, F' k → F k ∨ w.heap.size ≤ k) : d.R e w1 base (fun k => ¬ F' k ∧ ok k) v xs := by
  have h1 := Kd.R_bound h
  refine Kd.R_mono (Kd.R_move h1 (fun k hk => hh.block k hk.2.2.1 hk.1.1)) (fun k hk => ⟨fun hf => ?_, hk.1.2⟩)
  rcases hs k hf with h2 | h2
  · exact hk.1.1 h2
  · have := hk.2.2.1; omega
theorem blkx_lt {w : World} {g : Nat} {o : Obj} (h : w.heap[g]? = some o) : g < w.heap.size := (Array.getElem?_eq_some_iff.1 h).1
end Go.Proofs.YtdffgeoegdkiaaaGreatDoor

namespace Go.Proofs.YtdffgeoegdkiaaaGreatDoor.F
open Go.RowKit Go.Proofs.YtdffgeoegdkiaaaGreatDoor Go.Proofs.YtdffgeoegdkiaaaGreatDoorW.PrintWords Go.Proofs.YtdffgeoegdkiaaaGreatDoorW.PrintLast Go.Proofs.YtdffgeoegdkiaaaGreatDoorW.PrintMore Go.Lib
attribute [local go_sem] max2_int min2_int max_two min_two max_three min_three max_four min_four
def Sv (t : TypeId) (W : World) (base : Nat) (ok : Nat → Prop) (v : Value) (xs : List Int) : Prop :=
  ∃ g cap cur lo hi, v = .slice (some ⟨g, 0, none⟩) xs.length cap ∧ ok g ∧ W.heap[g]? = some (.cells cur t (lo, hi)) ∧ xs.length ≤ cap ∧ cap ≤ lo ∧ xs.length ≤ 9223372036854775807 ∧ ∀ j, j < xs.length → cur[j]? = some (.int .u8 (xs.getD j 0))
section
variable {t : TypeId} {W w1 : World} {base base' : Nat} {ok ok' : Nat → Prop} {v : Value} {xs : List Int}
theorem Sv_slice (h : Sv t W base ok v xs) : ∃ A c, v = .slice A xs.length c := by
  obtain ⟨g, cap, cur, lo, hi, rfl, _⟩ := h; exact ⟨_, _, rfl⟩
theorem Sv_mono (h : Sv t W base ok v xs) (hok : ∀ k, ok k → ok' k) : Sv t W base ok' v xs := by
  obtain ⟨g, cap, cur, lo, hi, e, h1, r⟩ := h; exact ⟨g, cap, cur, lo, hi, e, hok g h1, r⟩
theorem Sv_lower (h : Sv t W base ok v xs) (_ : base' ≤ base) : Sv t W base' ok v xs := h
theorem Sv_far (h : Sv t W base ok v xs) {p : Addr} (hok : ∀ k, ok k → k ≠ p.block) (u : Value) : Sv t (W.setCell p u) base ok v xs := by
  obtain ⟨g, cap, cur, lo, hi, e, h1, h2, r⟩ := h
  exact ⟨g, cap, cur, lo, hi, e, h1, (Below.heap_setCell W p u g (hok g h1)).trans h2, r⟩
theorem Sv_below (h : Sv t W base ok v xs) (hb : Below W.heap.size W w1) : Sv t w1 base ok v xs := by
  obtain ⟨g, cap, cur, lo, hi, e, h1, h2, r⟩ := h
  exact ⟨g, cap, cur, lo, hi, e, h1, (hb.block g (Array.getElem?_eq_some_iff.1 h2).1).trans h2, r⟩
theorem Sv_alloc (h : Sv t W base ok v xs) (o : Obj) : Sv t (W.alloc o) base ok v xs := Sv_below h ((Below.refl _ W).alloc (Nat.le_refl _) o)
theorem Sv_drewN (h : Sv t W base ok v xs) (m : Nat) : Sv t (W.drewN m) base ok v xs := h
theorem Sv_drew (h : Sv t W base ok v xs) : Sv t W.drew base ok v xs := h
end
theorem conv_S (W : World) (e : TypeId) (s : ByteArray) (hmax : s.size ≤ 9223372036854775807) : Sv e (Lib.bytesWorld W e s) W.heap.size (fun k_ => W.heap.size ≤ k_) (.slice (some ⟨W.heap.size, 0, none⟩) s.size (grownCap W s.size 0 e)) (bytesOf s) := by
  have hl := bytesOf_length s
  have hcap : s.size ≤ grownCap W s.size 0 e := by exact grownCap_ge ..
  refine ⟨W.heap.size, grownCap W s.size 0 e, _, _, _, by rw [hl], Nat.le_refl _, Lib.bytesWorld_at_new W e s, by rw [hl]; exact hcap, ?_, by rw [hl]; exact hmax, ?_⟩
  · unfold Lib.bytesCells
    rw [Array.size_append, Array.size_map, Array.size_replicate]
    show _ ≤ s.size + _
    omega
  · intro j hj
    rw [hl] at hj
    have hc := Lib.bytesWorld_cell W e s j hj
    unfold World.cell? at hc
    rw [Lib.bytesWorld_at_new] at hc
    have hc' : (Lib.bytesCells W e s)[j]? = some (.int .u8 (s.data.toList.getD j 0).toNat) := hc
    rw [hc']
    unfold bytesOf
    rw [List.getD_eq_getElem?_getD, List.getD_eq_getElem?_getD, List.getElem?_map]
    have hjl : j < s.data.toList.length := by rw [data_length]; exact hj
    rw [List.getElem?_eq_getElem hjl]; rfl
section
variable {P : Program} {ops : Array Oper} {rest : List Oper} {o : Oper} {a : Act} {Q : Exit → Act → World → Prop} {W : World} {Kc : Act → World → Prop}
theorem conv_stepS (hw : Region.wanted o (yielded ops a.tmps) = true) {N : Tmp} (_hd : o.dst = some N) (src dst e : TypeId) (x : Operand) (ho : o.op = .convert src dst x) (s : ByteArray) (hx : a.eval x = .string s)
    (hs : P.underlying src = some .string) (hdst : P.underlying dst = some (.slice e)) (he : P.underlying e = some (.int .u8)) (r : List Int) (hr : conv_bytes.f s = some r)
    (h : ∀ v w1, Sv e w1 W.heap.size (fun k_ => (W.heap.size ≤ k_)) v r → Below W.heap.size W w1 → Kc (a.put o.dst v) w1) : if Region.wanted o (yielded ops a.tmps) = true then Oper.wp P o a W Kc Q else Kc (a.put o.dst undef) W := by
  obtain ⟨hmax, rfl⟩ := conv_bytes_some hr
  refine event_step hw (v := .slice (some ⟨W.heap.size, 0, none⟩) s.size (grownCap W s.size 0 e)) (w1 := Lib.bytesWorld W e s) ?_ (h _ _ (conv_S W e s hmax) (conv_below W e s))
  simp [execOp, ho, hx, Lib.run_convert_string_bytes W src dst e s hs hdst he]
end
set_option maxHeartbeats 8000000 in
set_option maxRecDepth 100000 in
theorem impl_read.callsS (a0 : ByteArray) (r1 : Int) (r2 : Int) (r3 : List Int) (w : World) (h : impl_read.f a0 = some (r1, r2, r3)) :
    Calls Tryz.prog 89 #[.string a0] w fun e w' => ∃ v2_ : Value, e = .returned (.agg #[.int .i64 r1, .int .i64 r2, v2_]) ∧ Sv 5 w' w.heap.size (fun k_ => (w.heap.size ≤ k_)) v2_ r3 ∧ Below w.heap.size w w' := by
  have hu93 := Tryz.underlying93
  have HB := am (Below.refl w.heap.size w)
  have H : ((strings_Split.f a0 (⟨#[47]⟩ : ByteArray)).bind fun t102 => (if 0 < (t102.length : Int) then ((strings_Join.f t102 (⟨#[]⟩ : ByteArray)).bind fun t106 => ((conv_bytes.f t106).bind fun t107 => (some (((rdOf ByteArray.empty t102 0).size : Int), (t102.length : Int), t107)))) else (none))) = some (r1, r2, r3) := h
  clear h
  obtain ⟨t102, A20, H⟩ := Option.bind_eq_some_iff.mp H
  have A2 := am A20
  clear A20
  by_cases c3 : 0 < (t102.length : Int)
  · rw [if_pos c3] at H
    have c3b0 := decide_eq_true c3
    have c3b1 : decide (0 < t102.length) = true := decide_eq_true (by omega)
    clear c3
    obtain ⟨t106, A40, H⟩ := Option.bind_eq_some_iff.mp H
    have A4 := am A40
    clear A40
    obtain ⟨t107, A50, H⟩ := Option.bind_eq_some_iff.mp H
    have A5 := am A50
    clear A50
    simp only [Option.some.injEq, Prod.mk.injEq] at H
    obtain ⟨rfl, rfl, rfl⟩ := H
    go_enter Tryz.func89, Tryz.ntmps89
    try go_wp2_with (first | ((with_reducible refine gate_dst (N := 2) rfl ?_); refine box_event ?hg (N := 2) ?hd (cs := #[.int .i64 0, .int .i64 0, .slice none 0 0]) (t := 93) ?hr ?_; (case hd => rfl); (case hg => rfl); (case hr => first | (go_simp; done) | (go_simp; rfl)); intro gb101 hg w6 hbox hb; have n0_ := am (below_step (by repeat (first | (with_reducible first | exact HB.out | apply below_alloc | apply pw_below_drewN | apply below_drew1) | exact HB.out)) hb); have n1_ := am (hbox); have n2_ := am ((by rw [hg]; exact (below_size (by repeat (first | (with_reducible first | exact HB.out | apply below_alloc | apply pw_below_drewN | apply below_drew1) | exact HB.out))) : w.heap.size ≤ gb101)); have n3_ := am ((by rw [hg]; exact (below_size (by repeat (first | (with_reducible first | exact HB.out | apply below_alloc | apply pw_below_drewN | apply below_drew1) | exact HB.out))) : w.heap.size ≤ gb101)); clear HB; have HB := n0_; have BK101 := n1_; have GW101 := n2_; have GE101 := n3_; clear n0_ n1_ n2_ n3_; clear hb hbox hg) | ((with_reducible refine gate_callee (f := 101) rfl ?_); refine goesL_ (some 5) rfl rfl Tryz.func101 (by kernel_rfl) rfl #[.string a0, .string (⟨#[47]⟩ : ByteArray)] rfl (by (try simp only [List.map_toArray, List.map_cons, List.map_nil]); first | done | rfl | (simp only [List.length_drop, List.length_take]; rfl)) ?_; (with_reducible refine (strings_Split.calls a0 (⟨#[47]⟩ : ByteArray) t102 _ A2.out).mono ?_); rintro e w7 ⟨v103, rfl, ho0, hb⟩; refine ⟨_, rfl, ?_⟩; have n0_ := am (Kd.R_lower (Kd.R_newM (M := fun k_ => (w.heap.size ≤ k_)) ho0 (below_size (by repeat (first | (with_reducible first | exact HB.out | apply below_alloc | apply pw_below_drewN | apply below_drew1 | refine below_set ?_ GE101.out) | exact HB.out))) (fun k_ h_ => h_)) (below_size (by repeat (first | (with_reducible first | exact HB.out | apply below_alloc | apply pw_below_drewN | apply below_drew1 | refine below_set ?_ GE101.out) | exact HB.out)))); have n1_ := am (blk_below (g := gb101) (o := .cells #[.int .i64 0, .int .i64 0, .slice none 0 0] 93 (0, 0)) (by (with_reducible repeat (first | refine blk_drewN ?_ _ | refine blk_drew ?_ | refine blk_alloc ?_ _)); exact BK101.out) hb); have n2_ := am (below_step (by repeat (first | (with_reducible first | exact HB.out | apply below_alloc | apply pw_below_drewN | apply below_drew1 | refine below_set ?_ GE101.out) | exact HB.out)) hb); clear BK101; clear HB; have HO104 := n0_; have BK101 := n1_; have HB := n2_; clear n0_ n1_ n2_; (try clear hb); (try clear hb2); (try clear hk); (try clear hi); (try clear ho0)))
    have n0_ := am (Kd.R_drew HO104.out)
    have n1_ := am (blk_drew BK101.out)
    have n2_ := am (below_drew1 HB.out)
    clear HO104
    clear BK101
    clear HB
    have HO104 := n0_
    have BK101 := n1_
    have HB := n2_
    clear n0_ n1_ n2_
    obtain ⟨Ao9, co9, eo9⟩ := Kd.R_slice HO104.out
    (first | subst eo9 | (injection eo9 with f1_ f2_ f3_; have f4_ := f1_.symm; have f5_ := f3_.symm; clear f1_ f2_ f3_; subst f4_; subst f5_))
    have p105 : 0 ≤ (0 : Int) := (by omega)
    have q105 : 0 < (t102.length : Int) := of_decide_eq_true (by first | (with_reducible assumption) | assumption)
    obtain ⟨ad105, e105, hx105_0⟩ := Kd.at_string (Kd.R_reads' HO104.out).2.2 0 p105 q105
    cases e105
    have qi105 : (0 < t102.length) = True := eq_true (by omega)
    (try rw [show ((0 : Int)).toNat = 0 from rfl] at hx105_0)
    (try rw [Addr.add_zero'] at hx105_0)
    replace p105 := eq_true p105
    replace q105 := eq_true q105
    refine start_ (n := 11) (S := fun w' => w'.cell? ad105 = some (.string (rdOf ByteArray.empty t102 0))) (ds := []) #[false, false, false, false, false, false, false, false, false, false, false] (by kernel_rfl) rfl rfl (hx105_0) (fun hHeld => ?_); refine with_tabW impl_read.tab2 impl_read.bits2 (fun HT_ HW_ => ?_)
    generalize w7.drew = w8 at HO104 BK101 HB hx105_0 hHeld ⊢
    refine pure_ (i := 0) (N := some 6) (v := ?_) (a' := ?_) (bm 11 1) rfl rfl (any_of HT_.out (by kernel_rfl)) (fun _ _ _ h => h) (Or.inl ⟨by rfl, ?_⟩) ?_ ?_
    rotate_left
    · intro w'
      go_simp
      with_reducible rfl
    rotate_left
    · simp only [Act.put, ac_]
      rfl
    refine pure_ (i := 1) (N := some 7) (v := ?_) (a' := ?_) (bm 11 3) rfl rfl (any_of HT_.out (by kernel_rfl)) (fun _ _ _ h => h) (Or.inl ⟨by rfl, ?_⟩) ?_ ?_
    rotate_left
    · intro w'
      go_simp
      with_reducible rfl
    rotate_left
    · simp only [Act.put, ac_]
      rfl
    refine pure_ (i := 4) (N := some 10) (v := ?_) (a' := ?_) (bm 11 19) rfl rfl (any_of HT_.out (by kernel_rfl)) (fun _ _ _ h => h) (Or.inl ⟨by rfl, ?_⟩) ?_ ?_
    rotate_left
    · intro w'
      go_simp
      with_reducible rfl
    rotate_left
    · simp only [Act.put, ac_]
      rfl
    refine pure_ (i := 5) (N := some 11) (v := ?_) (a' := ?_) (bm 11 51) rfl rfl (any_of HT_.out (by kernel_rfl)) (fun _ _ _ h => h) (Or.inl ⟨by rfl, ?_⟩) ?_ ?_
    rotate_left
    · intro w'
      go_simp
      with_reducible rfl
    rotate_left
    · simp only [Act.put, ac_]
      rfl
    refine pure_ (i := 6) (N := some 12) (v := ?_) (a' := ?_) (bm 11 115) rfl rfl (any_of HT_.out (by kernel_rfl)) (fun _ _ _ h => h) (Or.inl ⟨by rfl, ?_⟩) ?_ ?_
    rotate_left
    · intro w'
      go_simp
      with_reducible rfl
    rotate_left
    · simp only [Act.put, ac_]
      rfl
    refine take_ (i := 2) (N := some 8) (v := ?_) (a' := ?_) (bm 11 119) rfl rfl (take_ofW HT_.out HW_.out (by kernel_rfl)) (fun _ _ _ h => h) (Or.inl ⟨by rfl, ?_⟩) hHeld ?_ ?_
    rotate_left
    · intro w' s0
      go_simp
      with_reducible rfl
    rotate_left
    · simp only [Act.put, ac_]
      rfl
    refine pure_ (i := 3) (N := some 9) (v := ?_) (a' := ?_) (bm 11 127) rfl rfl (any_of HT_.out (by kernel_rfl)) (fun _ _ _ h => h) (Or.inl ⟨by rfl, ?_⟩) ?_ ?_
    rotate_left
    · intro w'
      go_simp
      with_reducible rfl
    rotate_left
    · simp only [Act.put, ac_]
      rfl
    refine one_ (i := 7) (N := some 13) (bm 11 255) rfl rfl (one_of HT_.out (by kernel_rfl)) (by decide) (fun K hK => ?_)
    refine goes_ Tryz.func128 (by kernel_rfl) rfl #[.slice (some ad105) t102.length co9, .string (⟨#[]⟩ : ByteArray)] (by rfl) rfl rfl (by (try simp only [List.map_toArray, List.map_cons, List.map_nil]); first | done | rfl | (simp only [List.length_drop, List.length_take]; rfl)) ?_
    with_reducible refine (strings_Join.calls _ _ t102 (⟨#[]⟩ : ByteArray) t106 _ ?side1 ?side2 A4.out).mono ?_
    (case side1 => repeat (first | exact (Kd.R_reads' HO104.out).2.2 | (with_reducible refine Kd.C_alloc ?_ _) | (with_reducible refine Kd.C_drewN ?_ _) | (with_reducible refine Kd.C_drew ?_)))
    (case side2 => exact (Kd.R_reads' HO104.out).2.1)
    rintro e w10 ⟨rfl, hb⟩
    have HS0_ := (hb.cell (World.block_lt_of_cell? _ _ (hHeld))).trans (hHeld)
    refine ⟨_, rfl, ?_⟩
    have n0_ := am (Kd.R_below (by (with_reducible repeat (first | apply Kd.R_alloc | apply Kd.R_drewN | apply Kd.R_drew)); exact HO104.out) hb)
    have n1_ := am (blk_below (g := gb101) (o := .cells #[.int .i64 0, .int .i64 0, .slice none 0 0] 93 (0, 0)) (by (with_reducible repeat (first | refine blk_drewN ?_ _ | refine blk_drew ?_ | refine blk_alloc ?_ _)); exact BK101.out) hb)
    have n2_ := am (below_step (by repeat (first | (with_reducible first | exact HB.out | apply below_alloc | apply pw_below_drewN | apply below_drew1 | refine below_set ?_ GE101.out) | exact HB.out)) hb)
    clear HO104
    clear BK101
    clear HB
    have HO104 := n0_
    have BK101 := n1_
    have HB := n2_
    clear n0_ n1_ n2_
    (try clear hb)
    (try clear hb2)
    (try clear hk)
    (try clear hi)
    refine hK.out _ _ (HS0_) (fun hHeld => ?_)
    clear hK K
    refine norm_ (a' := ?_) ?_ ?_
    rotate_left
    · show Act.put _ (some 13) _ = _
      simp only [Act.put, ac_]
      rfl
    refine one_ (i := 8) (N := some 14) (bm 11 511) rfl rfl (one_of HT_.out (by kernel_rfl)) (by decide) (fun K hK => ?_)
    refine conv_stepS (by rfl) (N := 14) rfl 9 60 5 _ rfl t106 rfl Tryz.underlying9 Tryz.underlying60 Tryz.underlying5 t107 A5.out ?_
    intro v108 w11 ho0 hb
    have HS0_ := (hb.cell (World.block_lt_of_cell? _ _ (hHeld))).trans (hHeld)
    have n0_ := am (Kd.R_below (by (with_reducible repeat (first | apply Kd.R_alloc | apply Kd.R_drewN | apply Kd.R_drew)); exact HO104.out) hb)
    have n1_ := am (Sv_lower (Sv_mono (ok' := fun k_ => (w.heap.size ≤ k_) ∧ some k_ ≠ (.slice (some ad105) t102.length co9 : Value).ownBlock ∧ k_ ≠ gb101) ho0 (fun k_ hk_ => ⟨(Nat.le_trans (below_size (by repeat (first | (with_reducible first | exact HB.out | apply below_alloc | apply pw_below_drewN | apply below_drew1 | refine below_set ?_ GE101.out) | exact HB.out))) hk_), (Kd.fresh' (Kd.R_lt (by (with_reducible repeat (first | apply Kd.R_alloc | apply Kd.R_drewN | apply Kd.R_drew)); exact HO104.out)) k_ hk_), (Kd.freshB (g := gb101) (o := .cells #[.int .i64 0, .int .i64 0, .slice none 0 0] 93 (0, 0)) (by (with_reducible repeat (first | refine blk_drewN ?_ _ | refine blk_drew ?_ | refine blk_alloc ?_ _)); exact BK101.out) k_ hk_)⟩)) (below_size (by repeat (first | (with_reducible first | exact HB.out | apply below_alloc | apply pw_below_drewN | apply below_drew1 | refine below_set ?_ GE101.out) | exact HB.out))))
    have n2_ := am (blk_below (g := gb101) (o := .cells #[.int .i64 0, .int .i64 0, .slice none 0 0] 93 (0, 0)) (by (with_reducible repeat (first | refine blk_drewN ?_ _ | refine blk_drew ?_ | refine blk_alloc ?_ _)); exact BK101.out) hb)
    have n3_ := am (below_step (by repeat (first | (with_reducible first | exact HB.out | apply below_alloc | apply pw_below_drewN | apply below_drew1 | refine below_set ?_ GE101.out) | exact HB.out)) hb)
    clear HO104
    clear BK101
    clear HB
    have HO104 := n0_
    have HO109 := n1_
    have BK101 := n2_
    have HB := n3_
    clear n0_ n1_ n2_ n3_
    (try clear hb)
    (try clear hb2)
    (try clear hk)
    (try clear hi)
    (try clear ho0)
    obtain ⟨Ao12, co12, eo12⟩ := Sv_slice HO109.out
    (first | subst eo12 | (injection eo12 with f1_ f2_ f3_; have f4_ := f1_.symm; have f5_ := f3_.symm; clear f1_ f2_ f3_; subst f4_; subst f5_))
    refine hK.out _ _ (HS0_) (fun hHeld => ?_)
    clear hK K
    refine norm_ (a' := ?_) ?_ ?_
    rotate_left
    · show Act.put _ (some 14) _ = _
      simp only [Act.put, ac_]
      rfl
    refine pure_ (i := 9) (N := some 15) (v := ?_) (a' := ?_) (bm 11 1023) rfl rfl (any_of HT_.out (by kernel_rfl)) (fun _ _ _ h => h) (Or.inl ⟨by rfl, ?_⟩) ?_ ?_
    rotate_left
    · intro w'
      go_simp
      with_reducible rfl
    rotate_left
    · simp only [Act.put, ac_]
      rfl
    refine one_ (i := 10) (N := none) (bm 11 2047) rfl rfl (one_of HT_.out (by kernel_rfl)) (by decide) (fun K hK => ?_)
    have hs13 : w11.cell? ⟨gb101, 0, none⟩ = some (.int .i64 0) := (blk_cell BK101.out 0).trans rfl
    have hfs13 := blk_frozen BK101.out 0
    have hs14 : w11.cell? ⟨gb101, 1, none⟩ = some (.int .i64 0) := (blk_cell BK101.out 1).trans rfl
    have hfs14 := blk_frozen BK101.out 1
    have hs15 : w11.cell? ⟨gb101, 2, none⟩ = some (.slice none 0 0) := (blk_cell BK101.out 2).trans rfl
    have hfs15 := blk_frozen BK101.out 2
    refine skip_ (w1 := ?_) (by rfl) rfl ?_ ?_
    rotate_left
    · go_simp
      rfl
    refine hK.out _ _ (((cell_far (p := ⟨gb101, _, none⟩) (by first | exact Kd.own_blk (Kd.R_ne HO104.out BK101.out (by decide)) | (rw [add_block]; exact Kd.own_blk (Kd.R_ne HO104.out BK101.out (by decide))) | (show (Addr.add _ _).block ≠ _; rw [add_block]; exact Kd.own_blk (Kd.R_ne HO104.out BK101.out (by decide))) | (dsimp only; exact Kd.own_blk (Kd.R_ne HO104.out BK101.out (by decide)))) _).trans (((cell_far (p := ⟨gb101, _, none⟩) (by first | exact Kd.own_blk (Kd.R_ne HO104.out BK101.out (by decide)) | (rw [add_block]; exact Kd.own_blk (Kd.R_ne HO104.out BK101.out (by decide))) | (show (Addr.add _ _).block ≠ _; rw [add_block]; exact Kd.own_blk (Kd.R_ne HO104.out BK101.out (by decide))) | (dsimp only; exact Kd.own_blk (Kd.R_ne HO104.out BK101.out (by decide)))) _).trans (((cell_far (p := ⟨gb101, _, none⟩) (by first | exact Kd.own_blk (Kd.R_ne HO104.out BK101.out (by decide)) | (rw [add_block]; exact Kd.own_blk (Kd.R_ne HO104.out BK101.out (by decide))) | (show (Addr.add _ _).block ≠ _; rw [add_block]; exact Kd.own_blk (Kd.R_ne HO104.out BK101.out (by decide))) | (dsimp only; exact Kd.own_blk (Kd.R_ne HO104.out BK101.out (by decide)))) _).trans (hHeld))))))) (fun hHeld => ?_)
    clear hK K
    refine done_ (done_of HT_.out (by kernel_rfl)) ?_
    try go_wp2
    refine bodyPost_ret (results_cell_row rfl _ _ gb101 93 #[.int .i64 ((rdOf ByteArray.empty t102 0).size : Int), .int .i64 (t102.length : Int), .slice Ao12 t107.length co12] (0, 0) _ rfl (by (with_reducible repeat (first | refine blk_drewN ?_ _ | refine blk_drew ?_ | refine blk_alloc ?_ _)); refine blk_put (cs := #[.int .i64 ((rdOf ByteArray.empty t102 0).size : Int), .int .i64 (t102.length : Int), .slice none 0 0]) ?_ 2 _ rfl; (with_reducible repeat (first | refine blk_drewN ?_ _ | refine blk_drew ?_ | refine blk_alloc ?_ _)); refine blk_put (cs := #[.int .i64 ((rdOf ByteArray.empty t102 0).size : Int), .int .i64 0, .slice none 0 0]) ?_ 1 _ rfl; (with_reducible repeat (first | refine blk_drewN ?_ _ | refine blk_drew ?_ | refine blk_alloc ?_ _)); refine blk_put (cs := #[.int .i64 0, .int .i64 0, .slice none 0 0]) ?_ 0 _ rfl; (with_reducible repeat (first | refine blk_drewN ?_ _ | refine blk_drew ?_ | refine blk_alloc ?_ _)); exact BK101.out) Tryz.underlying93 rfl (by kernel_rfl)) rfl ?_
    exact ⟨_, by first | rfl | (simp [errW_none, errW_some] <;> rfl) | (simp [*, errW_none, errW_some] <;> rfl), by (with_reducible repeat (first | apply Sv_alloc | apply Sv_drewN | apply Sv_drew)); exact Sv_mono (Sv_far (p := ⟨gb101, 2, none⟩) (Sv_far (p := ⟨gb101, 1, none⟩) (Sv_far (p := ⟨gb101, 0, none⟩) (Sv_mono HO109.out (fun k_ hk => (⟨hk, hk.2.2⟩ : _ ∧ k_ ≠ gb101))) (fun _ hk => hk.2) (.int .i64 ((rdOf ByteArray.empty t102 0).size : Int))) (fun _ hk => hk.2) (.int .i64 (t102.length : Int))) (fun _ hk => hk.2) (.slice Ao12 t107.length co12)) (fun _ hk => hk.1.1), by repeat (first | (with_reducible first | exact HB.out | apply below_alloc | apply pw_below_drewN | apply below_drew1 | refine below_set ?_ GE101.out) | exact HB.out)⟩
  · rw [if_neg c3] at H
    exact absurd H (by simp)
end Go.Proofs.YtdffgeoegdkiaaaGreatDoor.F

namespace Go.Proofs.YtdffgeoegdkiaaaGreatDoor
open Go.RowKit Go.Proofs.YtdffgeoegdkiaaaGreatDoorW.PrintWords Go.Proofs.YtdffgeoegdkiaaaGreatDoorW.PrintLast Go.Proofs.YtdffgeoegdkiaaaGreatDoorW.PrintMore Go.Lib
namespace Kx
def R (t : TypeId) (W : World) (base : Nat) (ok : Nat → Prop) (v : Value) (xs : List Int) : Prop :=
  (∀ k, v.ownBlock = some k → ok k) ∧ ∃ g cap cur lo hi, v = .slice (some ⟨g, 0, none⟩) xs.length cap ∧ base ≤ g ∧ W.heap[g]? = some (.cells cur t (lo, hi)) ∧ xs.length ≤ cap ∧ cap ≤ lo ∧ xs.length ≤ 9223372036854775807 ∧ ∀ j, j < xs.length → cur[j]? = some (.int .u8 (xs.getD j 0))
section
variable {t e e' base base' n cap g : Nat} {W w1 : World} {ok ok' : Nat → Prop} {u v : Value} {xs : List Int} {α : Type} {d : Kd α} {ys : List α}
theorem R_mono (h : R t W base ok v xs) (hok : ∀ k, ok k → ok' k) : R t W base ok' v xs := ⟨fun k hk => hok k (h.1 k hk), h.2⟩
theorem R_lower (h : R t W base ok v xs) (hb : base' ≤ base) : R t W base' ok v xs := by
  obtain ⟨h0, g, cap, cur, lo, hi, e, h1, r⟩ := h; exact ⟨h0, g, cap, cur, lo, hi, e, Nat.le_trans hb h1, r⟩
theorem R_move (h : R t W base ok v xs) (hm : ∀ k, v.ownBlock = some k → k < W.heap.size → w1.heap[k]? = W.heap[k]?) : R t w1 base ok v xs := by
  obtain ⟨h0, g, cap, cur, lo, hi, e, h1, h2, r⟩ := h
  exact ⟨h0, g, cap, cur, lo, hi, e, h1, (hm g (by rw [e]; rfl) (Array.getElem?_eq_some_iff.1 h2).1).trans h2, r⟩
theorem R_below (h : R t W base ok v xs) (hb : Below W.heap.size W w1) : R t w1 base ok v xs := R_move h (fun k _ hk => hb.block k hk)
theorem R_alloc (h : R t W base ok v xs) (o : Obj) : R t (W.alloc o) base ok v xs := R_below h ((Below.refl _ W).alloc (Nat.le_refl _) o)
theorem R_drewN (h : R t W base ok v xs) (m : Nat) : R t (W.drewN m) base ok v xs := h
theorem R_drew (h : R t W base ok v xs) : R t W.drew base ok v xs := h
theorem R_far (h : R t W base ok v xs) {p : Addr} (hok : ∀ k, ok k → k ≠ p.block) (u : Value) : R t (W.setCell p u) base ok v xs := R_move h (fun k hk _ => Below.heap_setCell W p u k (hok k (h.1 k hk)))
theorem R_blk (h : R t W base ok v xs) : ∀ k, v.ownBlock = some k → ∃ cells m, W.heap[k]? = some (.cells cells t m) := by
  obtain ⟨_, g, cap, cur, lo, hi, e, h1, h2, _⟩ := h
  intro k hk
  rw [e] at hk
  obtain rfl : g = k := Option.some.inj hk
  exact ⟨cur, _, h2⟩
theorem R_types (h : R t W base ok v xs) {cells : Array Value} (hb : W.heap[g]? = some (.cells cells e (0, 0))) (ht : t ≠ e) : R t W base (fun k => ok k ∧ k ≠ g) v xs :=
  ⟨fun k hk => ⟨h.1 k hk, by
    rintro rfl
    obtain ⟨c, m, hc⟩ := R_blk h k hk
    rw [hb] at hc
    injection hc with hc
    injection hc with _ hc
    exact ht hc.symm⟩, h.2⟩
theorem R_ne (h : R t W base ok v xs) {cells : Array Value} (hb : W.heap[g]? = some (.cells cells e (0, 0))) (ht : t ≠ e) : some g ≠ v.ownBlock := fun hk => ((R_types h hb ht).1 g hk.symm).2 rfl
theorem R_apart' (h : R t W base ok v xs) (hty : ∀ k, u.ownBlock = some k → ∃ cells, W.heap[k]? = some (.cells cells e' (0, 0))) (ht : t ≠ e') : R t W base (fun k => ok k ∧ some k ≠ u.ownBlock) v xs :=
  ⟨fun k hk => ⟨h.1 k hk, fun hu => by
    obtain ⟨c, hc⟩ := hty k hu.symm
    exact R_ne h hc ht hk.symm⟩, h.2⟩
theorem R_tight (_h : (0 : Nat) = 0) (h : R t W base ok v xs) : R t W base (fun k => some k = v.ownBlock) v xs := ⟨fun k hk => hk.symm, h.2⟩
theorem R_slice (h : R t W base ok v xs) : ∃ A c, v = .slice A xs.length c := by
  obtain ⟨_, g, cap, cur, lo, hi, e, _⟩ := h; exact ⟨_, _, e⟩
theorem R_form (h : R t W base ok v xs) (_hp : 0 < xs.length) : ∃ g cap, v = .slice (some ⟨g, 0, none⟩) xs.length cap ∧ base ≤ g ∧ g < W.heap.size ∧ ∃ cells, ∃ m, W.heap[g]? = some (.cells cells t m) := by
  obtain ⟨_, g, cap, cur, lo, hi, e, h1, h2, _⟩ := h; exact ⟨g, cap, e, h1, (Array.getElem?_eq_some_iff.1 h2).1, cur, _, h2⟩
theorem R_parts (h : R t W base ok (.slice (some ⟨g, 0, none⟩) n cap) xs) : n = xs.length ∧ base ≤ g ∧ ∃ cur lo hi, W.heap[g]? = some (.cells cur t (lo, hi)) ∧ xs.length ≤ cap ∧ cap ≤ lo ∧ xs.length ≤ 9223372036854775807 ∧ ∀ j, j < xs.length → cur[j]? = some (.int .u8 (xs.getD j 0)) := by
  obtain ⟨_, g', cap', cur, lo, hi, e, h1, r⟩ := h
  injection e with e1 e2 e3
  injection e1 with e1
  injection e1 with e1
  subst e1 e3
  exact ⟨e2, h1, cur, lo, hi, r⟩
theorem R_celln (d : Int) (h : R t W base ok (.slice (some ⟨g, 0, none⟩) n cap) xs) (i : Int) (h0 : 0 ≤ i) (hi : i < n) : W.cell? ⟨g, i.toNat, none⟩ = some (.int .u8 (rdOf d xs i)) ∧ W.frozen? ⟨g, i.toNat, none⟩ = false := by
  obtain ⟨rfl, hb, cur, lo, hi', h2, h3, h4, h5, h6⟩ := R_parts h
  have hil : i.toNat < xs.length := by omega
  refine ⟨(cell_of_row W g i.toNat cur t _ h2).trans ((h6 _ hil).trans ?_), ?_⟩
  · unfold rdOf
    rw [List.getD_eq_getElem?_getD, List.getD_eq_getElem?_getD, List.getElem?_eq_getElem hil]; rfl
  · simp [World.frozen?, h2]
    omega
theorem R_putg (h : R t W base ok (.slice (some ⟨g, 0, none⟩) n cap) xs) (i : Int) (x : Int) : R t (W.setCell ⟨g, i.toNat, none⟩ (.int .u8 x)) base ok (.slice (some ⟨g, 0, none⟩) n cap) (xs.set i.toNat x) ∧ W.grownBy (W.setCell ⟨g, i.toNat, none⟩ (.int .u8 x)) (some g) := by
  have h0 := h.1
  obtain ⟨rfl, hb, cur, lo, hi, h2, h3, h4, h5, h6⟩ := R_parts h
  refine ⟨⟨h0, g, cap, cur.setIfInBounds i.toNat (.int .u8 x), lo, hi, by rw [List.length_set], hb, ?_, by rw [List.length_set]; exact h3, h4, by rw [List.length_set]; exact h5, fun j hj => ?_⟩, ?_⟩
  · simp [World.setCell, Array.getElem?_modify, h2]
  · rw [List.length_set] at hj
    have hc := h6 j hj
    have hjs := (Array.getElem?_eq_some_iff.1 hc).1
    by_cases e : i.toNat = j
    · subst e
      rw [Array.getElem?_setIfInBounds_self, if_pos hjs, List.getD_eq_getElem?_getD, List.getElem?_set_self hj]; rfl
    · rw [Array.getElem?_setIfInBounds_ne e, hc, List.getD_eq_getElem?_getD, List.getD_eq_getElem?_getD, List.getElem?_set_ne e]
  · exact ⟨rfl, rfl, rfl, by rw [World.size_setCell]; exact Nat.le_refl _, fun k hk hne => Below.heap_setCell W _ _ k (fun e => hne (by rw [e]))⟩
theorem R_over' (h : d.R e W base ok u ys) (hty : ∀ k, v.ownBlock = some k → ∃ cells m, W.heap[k]? = some (.cells cells e' m)) (ht : ∀ q, q ∈ e :: d.E → q ≠ e') (hg : W.grownBy w1 v.ownBlock) : d.R e w1 base ok u ys := by
  refine Kd.R_mono (Kd.R_move (Kd.R_bound h) (fun k hk => hg.block k hk.2.2.1 (fun he => ?_))) (fun _ hk => hk.1)
  obtain ⟨_, _, _, q, hq, cells, hc⟩ := hk
  obtain ⟨cells', m, hc'⟩ := hty k he.symm
  rw [hc] at hc'
  injection hc' with hc'
  injection hc' with _ hc'
  exact ht q hq hc'
theorem R_V (h : R t W base ok v xs) : Kd.V (Kd.int .u8) t W base' ok v xs := by
  obtain ⟨h0, g, cap, cur, lo, hi, rfl, h1, h2, h3, h4, h5, h6⟩ := h
  refine ⟨_, cap, rfl, h3, fun W' hW => ?_⟩
  have h2' : W'.heap[g]? = some (.cells cur t (lo, hi)) := (hW g (h0 g rfl) (Array.getElem?_eq_some_iff.1 h2).1).trans h2
  refine Kd.C_of_reads (enc := Value.int .u8) (d := (0 : Int)) (h1 := fun _ => rfl) ⟨rfl, h5, fun _ => ⟨_, rfl, fun j hj => ?_⟩⟩
  have := (cell_of_row W' g j cur t _ h2').trans (h6 j hj)
  rwa [show (Addr.add ⟨g, 0, none⟩ j) = ⟨g, j, none⟩ from by cases j <;> simp [Addr.add]]
end
end Kx
namespace F
open Go.Proofs.YtdffgeoegdkiaaaGreatDoor
def impl_readS.f (a0 : ByteArray) : Option (Int × Int × List Int) := impl_read.f a0
theorem impl_readS.calls (a0 : ByteArray) (r1 : Int) (r2 : Int) (r3 : List Int) (w : World) (h : impl_readS.f a0 = some (r1, r2, r3)) :
    Calls Tryz.prog 89 #[.string a0] w fun e w' => ∃ v2_ : Value, e = .returned (.agg #[.int .i64 r1, .int .i64 r2, v2_]) ∧ Kx.R 5 w' w.heap.size (fun _ => True) v2_ r3 ∧ Below w.heap.size w w' := by
  refine (impl_read.callsS a0 r1 r2 r3 w h).mono ?_
  rintro e w' ⟨v2, rfl, ⟨g, cap, cur, lo, hi, e, h1, h2, h3, h4, h5, h6⟩, hb⟩
  exact ⟨v2, rfl, ⟨fun _ _ => trivial, g, cap, cur, lo, hi, e, h1, h2, h3, h4, h5, h6⟩, hb⟩
end F
end Go.Proofs.YtdffgeoegdkiaaaGreatDoor

namespace Go.Proofs.YtdffgeoegdkiaaaGreatDoor.F
open Go.Proofs.YtdffgeoegdkiaaaGreatDoor
open Go.RowKit Go.Proofs.YtdffgeoegdkiaaaGreatDoorW.PrintWords Go.Proofs.YtdffgeoegdkiaaaGreatDoorW.PrintLast Go.Proofs.YtdffgeoegdkiaaaGreatDoorW.PrintMore
attribute [local go_sem] max2_int min2_int max_two min_two max_three min_three max_four min_four
def impl_isOpen.f (a0 : Int) : Option (Bool) := some (a0 != 35)
set_option maxHeartbeats 8000000 in
set_option maxRecDepth 100000 in
theorem impl_isOpen.calls (a0 : Int) (r : Bool) (w : World) (h : impl_isOpen.f a0 = some r) :
  Calls Tryz.prog 117 #[.int .u8 a0] w fun e w' => e = .returned (.bool r) ∧ Drawn0 w w' := by
 have H : (some (a0 != 35)) = some r := h
 clear h
 obtain rfl := Option.some.inj H
 go_enter Tryz.func117, Tryz.ntmps117
 go_wp2
 go_ret
 exact ⟨aq6, aq14⟩
def impl_tray_indices__impl_isOpen.l0 : Nat → List Int → List Int → Int → Int → Option (List Int)
 | 0, _, _, _, _ => none
 | k + 1, x5, x10, x11, x12 => if x12 < x11 then (if 0 ≤ x12 then (if x12 < (x10.length : Int) then ((impl_isOpen.f (rd x10 x12)).bind fun t106 => (if t106 = true then (if x5.length < 17592186044416 then (impl_tray_indices__impl_isOpen.l0 k (x5 ++ [x12]) x10 x11 (wrap64 (x12 + 1))) else (none)) else (impl_tray_indices__impl_isOpen.l0 k x5 x10 x11 (wrap64 (x12 + 1))))) else (none)) else (none)) else (some x5)
def impl_tray_indices__impl_isOpen.f (k : Nat) (a0_0 : Int) (a0_1 : Int) (l0_2 : List Int)  : Option (List Int) := impl_tray_indices__impl_isOpen.l0 k (([] : List Int)) l0_2 (l0_2.length : Int) 0
theorem impl_tray_indices__impl_isOpen.mono_l : ∀ k, (∀ y0 y1 y2 y3, LeO (impl_tray_indices__impl_isOpen.l0 k y0 y1 y2 y3) (impl_tray_indices__impl_isOpen.l0 (k + 1) y0 y1 y2 y3))
 | 0 => fun _ _ _ _ r h => by simp [impl_tray_indices__impl_isOpen.l0] at h
 | k + 1 => by
  have ih0 := impl_tray_indices__impl_isOpen.mono_l k
  ·intro y0 y1 y2 y3
   unfold impl_tray_indices__impl_isOpen.l0
   exact mo
theorem impl_tray_indices__impl_isOpen.mono : ∀ a0 a1 a2 k, LeO (impl_tray_indices__impl_isOpen.f k a0 a1 a2) (impl_tray_indices__impl_isOpen.f (k + 1) a0 a1 a2) := by
 intro a0 a1 a2 k
 have ih0 := impl_tray_indices__impl_isOpen.mono_l k
 unfold impl_tray_indices__impl_isOpen.f
 exact mo
set_option maxHeartbeats 8000000 in
set_option maxRecDepth 100000 in
theorem impl_tray_indices__impl_isOpen.calls (k : Nat) (a0_0 : Int) (a0_1 : Int) (A0_2 : Option Addr) (c0_2 : Nat) (l0_2 : List Int)  (r : List Int) (w : World) (hr0_2 : Kd.C (Kd.int .u8) w A0_2 l0_2.length l0_2) (hc0_2 : l0_2.length ≤ c0_2) (h : impl_tray_indices__impl_isOpen.f k a0_0 a0_1 l0_2 = some r) :
  Calls Tryz.prog 106 #[.agg #[.int .i64 a0_0, .int .i64 a0_1, .slice A0_2 l0_2.length c0_2], .func (.func 117) #[] #[]] w fun e w' => ∃ v0_ : Value, e = .returned (v0_) ∧ Kd.R (Kd.int .i64) 3 w' w.heap.size (fun _ => True) v0_ r ∧ Below w.heap.size w w' := by
 have hu93 := Tryz.underlying93
 have HR0_2 := am hr0_2
 have HC0_2 := am hc0_2
 clear hr0_2 hc0_2
 have HB := am (Below.refl w.heap.size w)
 have H : (impl_tray_indices__impl_isOpen.l0 k (([] : List Int)) l0_2 (l0_2.length : Int) 0) = some r := h
 clear h
 obtain ⟨y102, hy_⟩ : ∃ y_ : List Int, y_ = (([] : List Int)) := ⟨_, rfl⟩
 replace H : (impl_tray_indices__impl_isOpen.l0 k y102 l0_2 (l0_2.length : Int) 0) = some r := aq3
 have Ny102 := am hy_
 clear hy_
 have H' := am H
 clear H
 go_enter Tryz.func106, Tryz.ntmps106
 go_wp2_with (first | ((with_reducible refine gate_dst (N := 2) rfl ?_); refine box_event ?hg (N := 2) ?hd (cs := #[.int .i64 a0_0, .int .i64 a0_1, .slice A0_2 l0_2.length c0_2]) (t := 93) ?hr ?_; (case hd => rfl); (case hg => rfl); (case hr => exact aq19); intro gb101 hg w3 hbox hb; have n0_ := am (below_step aq1 hb); have n1_ := am (hbox); have n2_ := am ((by rw [hg]; exact (below_size aq1) : w.heap.size ≤ gb101)); have n3_ := am ((by rw [hg]; exact (below_size aq1) : w.heap.size ≤ gb101)); clear HB; have HB := n0_; have BK101 := n1_; have GW101 := n2_; have GE101 := n3_; clear n0_ n1_ n2_ n3_; clear hb hbox hg) | ((with_reducible refine gate_dst (N := 8) rfl ?_); refine Kd.R_lit (Kd.int .i64) _ 3 ?hg (N := 8) ?hd (xs := ([] : List Int)) (inner := []) (ok := fun _ => True) (okp := fun _ => True) ?hr ?hp (fun _ hk => hk) trivial (Below.refl _ _) (Nat.le_refl _) (by simp) ?_; (case hd => rfl); (case hg => rfl); (case hr => exact aq19); (case hp => exact aq102); intro v103 w4 ho5 hb hg_ hnew_; clear hg_ hnew_; (first | rw [← Ny102.out] at ho5 | (simp only [Int.reduceToNat] at ho5; rw [← Ny102.out] at ho5)); have n0_ := am (Kd.R_lower ho5 (below_size aq0)); have n1_ := am (blk_below (g := gb101) (o := .cells #[.int .i64 a0_0, .int .i64 a0_1, .slice A0_2 l0_2.length c0_2] 93 (0, 0)) aq2 hb); have n2_ := am (below_step aq0 hb); clear BK101; clear HB; have HO104 := n0_; have BK101 := n1_; have HB := n2_; clear n0_ n1_ n2_; clear hb ho5; obtain ⟨hcz6_0, hcz6_1, hcz6_2, hfz6_0, hfz6_1, hfz6_2⟩ := blk3_ BK101.out))
 go_loopg [5, 12] k (fun kq v5 v12 w' => ∃ (x5_1 : List Int) (x12_1 : Int), v12 = .int .i64 x12_1 ∧ Aside0 (impl_tray_indices__impl_isOpen.l0 kq x5_1 l0_2 (l0_2.length : Int) x12_1 = some r) ∧ Aside0 (kq ≤ k) ∧ Aside0 (Kd.R (Kd.int .i64) 3 w' w.heap.size (fun _ => True) v5 x5_1) ∧ Aside0 (w'.heap[gb101]? = some (.cells #[.int .i64 a0_0, .int .i64 a0_1, (.slice A0_2 l0_2.length c0_2)] 93 (0, 0))) ∧ Aside0 (Below w.heap.size w w'))
 case atStart => exact ⟨(y102), (0), aq6, H', ⟨Nat.le_refl _⟩, ⟨aq48⟩, ⟨aq2⟩, ⟨aq0⟩⟩
 case round =>
  clear H'
  try clear c1
  try clear p2
  try clear hcz6_0
  try clear hcz6_1
  try clear hcz6_2
  try clear hfz6_0
  try clear hfz6_1
  try clear hfz6_2
  obtain ⟨x5_1, x12_1, rfl, HA, HK1, HO_5, BK101, HB⟩ := hrel
  cases gk with
  | zero => exact absurd HA.out (by simp [impl_tray_indices__impl_isOpen.l0])
  | succ k1 =>
   have H := HA.out
   clear HA
   simp only [impl_tray_indices__impl_isOpen.l0] at H
   by_cases c7 : x12_1 < (l0_2.length : Int)
   ·rw [if_pos c7] at H
    have c7b0 := decide_eq_true c7
    clear c7
    by_cases c8 : 0 ≤ x12_1
    ·rw [if_pos c8] at H
     have c8b0 := decide_eq_true c8
     clear c8
     by_cases c9 : x12_1 < (l0_2.length : Int)
     ·rw [if_pos c9] at H
      have c9b0 := decide_eq_true c9
      clear c9
      obtain ⟨t106, A100, H⟩ := Option.bind_eq_some_iff.mp H
      have A10 := am A100
      clear A100
      by_cases c11 : t106 = true
      ·subst c11
       rw [if_pos rfl] at H
       by_cases c12 : x5_1.length < 17592186044416
       ·rw [if_pos c12] at H
        have LMc12 := am c12
        clear c12
        obtain ⟨y107, hy_⟩ : ∃ y_ : List Int, y_ = (x5_1 ++ [x12_1]) := ⟨_, rfl⟩
        replace H : (impl_tray_indices__impl_isOpen.l0 k1 y107 l0_2 (l0_2.length : Int) (wrap64 (x12_1 + 1))) = some r := aq3
        have Ny107 := am hy_
        clear hy_
        have H' := am H
        clear H
        have p105 : 0 ≤ (x12_1 : Int) := of_decide_eq_true aq5
        have q105 : x12_1 < (l0_2.length : Int) := of_decide_eq_true aq5
        obtain ⟨ad105, e105, hx105_0⟩ := Kd.at_int HR0_2.out x12_1 p105 q105
        cases e105
        try replace hx105_0 := (HB.out.cell (World.block_lt_of_cell? w _ hx105_0)).trans hx105_0
        replace p105 := eq_true p105
        replace q105 := eq_true q105
        go_wp2_with (first | ((with_reducible refine gate_dst (N := 19) rfl ?_); refine goesT_ (x := .tmp 17) (some 19) rfl rfl Tryz.func117 (by kernel_rfl) rfl #[.int .u8 (rd l0_2 x12_1)] rfl rfl aq4 ?_; (with_reducible refine (impl_isOpen.calls (rd l0_2 x12_1) true _ A10.out).mono ?_); rintro e w' ⟨rfl, ⟨nd, rfl⟩⟩; refine ⟨_, rfl, ?_⟩) | ((with_reducible refine gate_builtin (b := .append) (xs := #[.tmp 20, .tmp 22]) rfl ?_); at_builtin; refine Kd.R_append (Kd.int .i64) (w0 := w) w.heap.size rfl (.tmp 20) (.tmp 22) 28 3 (.int .i64 0) 8 rfl Tryz.underlying28 info3 rfl (by decide) (by omega) u5 x5_1 x12_1 [.int .i64 x12_1] (fun _ => True) (fun _ => False) rfl rfl ?aP (fun _ hk => hk.elim) ?aF ?aO ?aB ?aS ?aL ?_; (case aP => exact rfl); (case aB => exact aq0); (case aF => exact aq75); (case aO => exact aq41); (case aS => exact aq74); (case aL => have := LMc12.out; omega); intro v108 w13 ho hb hg hat; rw [← Ny107.out] at ho; have n0_ := am (blk_grown (g := gb101) (o := .cells #[.int .i64 a0_0, .int .i64 a0_1, .slice (some ad105) l0_2.length c0_2] 93 (0, 0)) aq2 hg (Kd.R_ne HO_5.out BK101.out (by decide))); have n1_ := am (hb); have n2_ := am (ho); clear BK101; clear HB; clear HO_5; have BK101 := n0_; have HB := n1_; have HO109 := n2_; clear n0_ n1_ n2_; clear ho hb hg hat))
        go_roundg k1
        case measure => have := HK1.out; omega
        case rel => exact ⟨(y107), (wrap64 (x12_1 + 1)), aq6, H', ⟨aq65⟩, ⟨by (with_reducible repeat (first | apply Kd.R_alloc | apply Kd.R_drewN | apply Kd.R_drew)); exact HO109.out⟩, ⟨aq2⟩, ⟨aq0⟩⟩
       ·rw [if_neg c12] at H
        exact absurd H (by simp)
      ·replace c11 := Bool.eq_false_iff.mpr c11
       subst c11
       rw [if_neg Bool.false_ne_true] at H
       have H' := am H
       clear H
       have p105 : 0 ≤ (x12_1 : Int) := of_decide_eq_true aq5
       have q105 : x12_1 < (l0_2.length : Int) := of_decide_eq_true aq5
       obtain ⟨ad105, e105, hx105_0⟩ := Kd.at_int HR0_2.out x12_1 p105 q105
       cases e105
       try replace hx105_0 := (HB.out.cell (World.block_lt_of_cell? w _ hx105_0)).trans hx105_0
       replace p105 := eq_true p105
       replace q105 := eq_true q105
       go_wp2_with (first | ((with_reducible refine gate_dst (N := 19) rfl ?_); refine goesT_ (x := .tmp 17) (some 19) rfl rfl Tryz.func117 (by kernel_rfl) rfl #[.int .u8 (rd l0_2 x12_1)] rfl rfl aq4 ?_; (with_reducible refine (impl_isOpen.calls (rd l0_2 x12_1) false _ A10.out).mono ?_); rintro e w' ⟨rfl, ⟨nd, rfl⟩⟩; refine ⟨_, rfl, ?_⟩))
       go_roundg k1
       case measure => have := HK1.out; omega
       case rel => exact ⟨(x5_1), (wrap64 (x12_1 + 1)), aq6, H', ⟨aq65⟩, ⟨aq41⟩, ⟨aq2⟩, ⟨aq0⟩⟩
     ·rw [if_neg c9] at H
      exact absurd H (by simp)
    ·rw [if_neg c8] at H
     exact absurd H (by simp)
   ·rw [if_neg c7] at H
    have c7b0 := decide_eq_false c7
    clear c7
    obtain rfl := Option.some.inj H
    go_wp2
    go_ret
    exact ⟨_, aq8, aq41, aq0⟩
end Go.Proofs.YtdffgeoegdkiaaaGreatDoor.F

namespace Go.Proofs.YtdffgeoegdkiaaaGreatDoor
open Go.RowKit Go.Proofs.YtdffgeoegdkiaaaGreatDoorW.PrintWords Go.Proofs.YtdffgeoegdkiaaaGreatDoorW.PrintLast Go.Proofs.YtdffgeoegdkiaaaGreatDoorW.PrintMore Go.Lib Go.Proofs.YtdffgeoegdkiaaaGreatDoor.F
attribute [local go_sem] max2_int min2_int
def flStep (n i : Nat) (k : Int) (s : List Int × Int) : List Int × Int := if n / 2 ^ i % 2 = 1 then (s.1.set k.toNat 111, s.2 + 1) else s
def flGo (n : Nat) : List Int → Nat → List Int × Int → List Int × Int
  | [], _, s => s
  | k :: l, i, s => flGo n l (i + 1) (flStep n i k s)
theorem flStep_len (n i : Nat) (k : Int) (s : List Int × Int) : (flStep n i k s).1.length = s.1.length := by
  unfold flStep; split <;> simp
theorem flGo_len (n : Nat) : ∀ (l : List Int) (i : Nat) (s : List Int × Int), (flGo n l i s).1.length = s.1.length
  | [], _, _ => rfl
  | k :: l, i, s => by unfold flGo; rw [flGo_len n l, flStep_len]
def flRun {σ : Type} (step : σ → List Int → Int → Option σ) (cs list : List Int) : Nat → Nat → σ → Option σ
  | 0, _, s => some s
  | m + 1, n, s => (step s (flGo n list 0 (cs, 0)).1 (flGo n list 0 (cs, 0)).2).bind fun s' => flRun step cs list m (n + 1) s'
theorem flRun_mono {σ : Type} {f g : σ → List Int → Int → Option σ} (h : ∀ s x n, LeO (f s x n) (g s x n)) (cs list : List Int) : ∀ (m n : Nat) (s : σ), LeO (flRun f cs list m n s) (flRun g cs list m n s)
  | 0, _, s => LeO.refl _
  | m + 1, n, s => LeO.bind (h s _ _) (fun s' => flRun_mono h cs list m (n + 1) s')
def fillF {σ : Type} (k : Nat) (step : σ → Int → Int → List Int → Int → Option σ) (t : ByteArray) (s : σ) : Option σ :=
  (impl_readS.f t).bind fun r => (impl_tray_indices__impl_isOpen.f k r.1 r.2.1 r.2.2).bind fun list =>
    if list.length ≤ 20 ∧ (∀ x ∈ list, 0 ≤ x ∧ x < (r.2.2.length : Int)) then flRun (fun s c n => step s r.1 r.2.1 c n) r.2.2 list (2 ^ list.length) 0 s else none
theorem fillF_mono {σ : Type} {k : Nat} {f g : σ → Int → Int → List Int → Int → Option σ} (h : ∀ s w h c n, LeO (f s w h c n) (g s w h c n)) (t : ByteArray) (s : σ) : LeO (fillF k f t s) (fillF (k + 1) g t s) := by
  unfold fillF
  exact LeO.bind (LeO.refl _) (fun r => LeO.bind (impl_tray_indices__impl_isOpen.mono _ _ _ _) (fun list => LeO.ite (flRun_mono (fun s c n => h s _ _ c n) _ _ _ _ _) (LeO.refl _)))
theorem wraps_i64_63 (n : Int) (h₀ : 0 ≤ n) (h₁ : n < 2 ^ 63) : IntKind.i64.wrap n = n := by rw [IntKind.wrap_i64]; omega
theorem and_one (n i : Nat) (h : n ≤ 1048576) : bits BinOp.and IntKind.i64 ((n : Int) / 2 ^ i) 1 = ((n / 2 ^ i % 2 : Nat) : Int) := by
  have hle : n / 2 ^ i ≤ 1048576 := Nat.le_trans (Nat.div_le_self _ _) h
  have e : ((n : Int) / 2 ^ i) = ((n / 2 ^ i : Nat) : Int) := by rw [Int.natCast_ediv, Int.natCast_pow]; rfl
  rw [e]
  have h1 := (bits_nat .i64 63 (by decide) wraps_i64_63 (n / 2 ^ i) 1 (by omega) (by decide)).1
  rw [Nat.and_one_is_mod] at h1
  exact h1
theorem pow_wrap {n p : Nat} (h : 2 ^ n = p) (hp : p ≤ 1048576) : wrap64 (2 ^ n) = (p : Int) := by
  have h1 : ((2 : Int) ^ n) = (p : Int) := by rw [← h]; exact (Int.natCast_pow 2 n).symm
  rw [h1, ← i64_w, IntKind.wrap_i64]; omega
set_option maxRecDepth 100000 in
set_option maxHeartbeats 8000000 in
theorem fillings_calls {σ : Type} (step : σ → Int → Int → List Int → Int → Option σ) (Inv : σ → (Nat → Prop) → World → Prop) (f : FuncId) (cap : Array Value)
    (he : ∀ args w, (callFunc f args).run Tryz.prog w = .ok (.enter f args) w)
    (hlt : ∀ s F W, Inv s F W → ∀ k, F k → k < W.heap.size)
    (hcl : ∀ s F W w h A c cs n s', Inv s F W → Kd.C (Kd.int .u8) W A cs.length cs → cs.length ≤ c → step s w h cs n = some s' → Calls Tryz.prog f (#[.agg #[.int .i64 w, .int .i64 h, .slice A cs.length c], .int .i64 n] ++ cap) W fun e W' => e = .returned (.tuple #[]) ∧ ∃ F', Inv s' F' W' ∧ Held F W W' ∧ ∀ k, F' k → F k ∨ W.heap.size ≤ k)
    (k : Nat) (t : ByteArray) (s0 s1 : σ) (F0 : Nat → Prop) (w : World) (hst : ∀ s F W W', Inv s F W → Held (fun k => ¬ F k ∧ w.heap.size ≤ k) W W' → Inv s F W') (hi : Inv s0 F0 w) (hw : fillF k step t s0 = some s1) :
    Calls Tryz.prog 135 #[.string t, .func (.func f) #[] cap] w fun e w' => e = .returned (.tuple #[]) ∧ ∃ F', Inv s1 F' w' ∧ Held F0 w w' ∧ ∀ k, F' k → F0 k ∨ w.heap.size ≤ k := by
  unfold fillF at hw
  obtain ⟨⟨r1, r2, r3⟩, hR, hw⟩ := Option.bind_eq_some_iff.mp hw
  obtain ⟨list, hL, hw⟩ := Option.bind_eq_some_iff.mp hw
  simp only at hL hw
  split at hw
  case isFalse => cases hw
  rename_i hc
  have HE := am he
  have HLT := am hlt
  have HST := am hst
  have HCL := am hcl
  have HI := am hi
  have HR := am (show impl_readS.f t = some (r1, r2, r3) from hR)
  have HL := am hL
  have HC := am hc
  have HW := am hw
  have hpw : 2 ^ list.length ≤ 1048576 := Nat.le_trans (Nat.pow_le_pow_right (by decide) hc.1) (by decide)
  have HPW := am hpw
  obtain ⟨P2, hP2⟩ : ∃ P2 : Nat, 2 ^ list.length = P2 := ⟨_, rfl⟩
  have hjz : wrap64 (2 ^ list.length) = (P2 : Int) := pow_wrap hP2 (by omega)
  have HP2 := am hP2
  clear he hlt hst hcl hi hR hL hw hpw hP2
  go_enter Tryz.func135, Tryz.ntmps135
  have hl20 := hc.1
  clear hc
  go_wp2_with (first
    | (go_at_call 89; refine (impl_readS.calls t r1 r2 r3 _ HR.out).mono ?_; rintro e w1 ⟨v1, rfl, ho, hb⟩; obtain ⟨A1, c1, rfl⟩ := Kx.R_slice ho; have HC1 := am (Kd.V_reads' (Kx.R_V (base' := 0) ho)).2; have HI1 := am (HST.out _ _ _ _ HI.out (Held.of_below hb)); have HH1 := am (Held.of_below (F := F0) hb); clear ho hb HI)
    | (go_at_call 106; refine (impl_tray_indices__impl_isOpen.calls k r1 r2 A1 c1 r3 list _ HC1.out.2 HC1.out.1 HL.out).mono ?_; rintro e w2 ⟨v2, rfl, ho, hb⟩; obtain ⟨A2, c2, rfl⟩ := Kd.R_slice ho; have HO2 := am (show (Kd.int .i64).R 3 w2 w.heap.size (fun k => ¬ F0 k ∧ True) (.slice A2 list.length c2) list from Kd.R_lower (Kd.R_mono (Kd.R_bound ho) (fun k hk => ⟨fun hf => by have h1 := HLT.out _ _ _ HI1.out k hf; have h2 := hk.2.1; omega, trivial⟩)) HH1.out.size); have HI2 := am (HST.out _ _ _ _ HI1.out (Held.of_below hb)); have HH2 := am (Held.trans HH1.out (Held.of_below (F := F0) hb) (fun k hk => .inl hk)); clear ho hb HI1 HH1 HC1))
  rw [hjz]
  go_loopw [16] (fun v16 wr => ∃ (n : Nat) (s : σ) (F : Nat → Prop), n ≤ P2 ∧ v16 = .int .i64 n ∧ Aside0 (flRun (fun s c n => step s r1 r2 c n) r3 list (P2 - n) n s = some s1) ∧ Aside0 (Inv s F wr) ∧ Aside0 (∀ k, F k → F0 k ∨ w.heap.size ≤ k) ∧ Aside0 (Held F0 w wr) ∧ Aside0 ((Kd.int .i64).R 3 wr w.heap.size (fun k => ¬ F k ∧ True) (.slice A2 list.length c2) list)) (fun v16 _ => P2 - (intOf v16).toNat)
  case atStart => exact ⟨0, s0, F0, Nat.zero_le _, rfl, ⟨by have := HW.out; rw [HP2.out] at this; exact this⟩, HI2, ⟨fun k hk => .inl hk⟩, HH2, HO2⟩
  case round =>
    clear HI2 HH2 HO2
    obtain ⟨n, s, F, hn, rfl, HA, HI, HS, HH, HO⟩ := hrel
    by_cases hltn : n < P2
    · have hltI : (n : Int) < (P2 : Int) := by omega
      have hA : flRun (fun s c n => step s r1 r2 c n) r3 list (P2 - (n + 1) + 1) n s = some s1 := by rw [show P2 - (n + 1) + 1 = P2 - n by omega]; exact HA.out
      obtain ⟨s', hs', hA⟩ := Option.bind_eq_some_iff.mp (show (step s r1 r2 (flGo n list 0 (r3, 0)).1 (flGo n list 0 (r3, 0)).2).bind (fun s' => flRun (fun s c n => step s r1 r2 c n) r3 list (P2 - (n + 1)) (n + 1) s') = some s1 from hA)
      have HSS := am hs'
      have HA2 := am hA
      have HLT2 := am hltn
      clear hs' hA HA hltn hn
      go_wp2_with (first
        | (go_at_call 89; refine (impl_readS.calls t r1 r2 r3 _ HR.out).mono ?_; rintro e w3 ⟨v3, rfl, ho, hb⟩; have HX3 := am ho; obtain ⟨_, g, c3, cur3, lo3, hi3, rfl, hg1, hg2, _⟩ := ho; have HG3 := am hg1; have HGL := am (show g < w3.heap.size from (Array.getElem?_eq_some_iff.1 hg2).1); have HI3 := am (HST.out _ _ _ _ HI.out (Held.of_below hb)); have HH3 := am (Held.trans HH.out (Held.of_below (F := F) hb) HS.out); have HO3 := am (Kd.R_below HO.out hb); have HB4 := am (show w.heap.size ≤ wr.heap.size from HH.out.size); have HF3 := am (show ¬ F g from fun hf => by have h1 := HLT.out _ _ _ HI.out g hf; omega); clear hb hg1 hg2 HI HH HO))
      have hal : Below w3.heap.size w3 (w3.alloc (.cells #[.int .i64 r1, .int .i64 r2, .slice (some ⟨g, 0, none⟩) r3.length c3] 93)) := (Below.refl _ w3).alloc (Nat.le_refl _) _
      go_loopw [7, 23] (fun v7 v23 wr => ∃ (i : Nat) (cs : List Int) (bal : Int), i ≤ list.length ∧ v7 = .int .i64 bal ∧ v23 = .int .i64 i ∧ Aside0 (flGo n (list.drop i) i (cs, bal) = flGo n list 0 (r3, 0)) ∧ Aside0 (cs.length = r3.length ∧ 0 ≤ bal ∧ bal ≤ i) ∧ Aside0 (Inv s F wr) ∧ Aside0 (Held F0 w wr) ∧ Aside0 ((Kd.int .i64).R 3 wr w.heap.size (fun k => ¬ F k ∧ True) (.slice A2 list.length c2) list) ∧ Aside0 (Kx.R 5 wr w.heap.size (fun k => ¬ F k) (.slice (some ⟨g, 0, none⟩) r3.length c3) cs) ∧ Aside0 (wr.heap[w3.heap.size]? = some (.cells #[.int .i64 r1, .int .i64 r2, .slice (some ⟨g, 0, none⟩) r3.length c3] 93 (0, 0)))) (fun _ v23 _ => list.length - (intOf v23).toNat)
      case atStart => exact ⟨0, r3, 0, Nat.zero_le _, rfl, rfl, ⟨by rw [List.drop_zero]⟩, ⟨rfl, by omega, by omega⟩, ⟨HST.out _ _ _ _ HI3.out (Held.of_below hal)⟩, ⟨Held.trans HH3.out (Held.of_below (F := F) hal) HS.out⟩, ⟨Kd.R_below HO3.out hal⟩, ⟨Kx.R_below (Kx.R_lower ⟨fun k hk => by injection hk with hk; subst hk; exact HF3.out, HX3.out.2⟩ HB4.out) hal⟩, ⟨heap_alloc_new _ _⟩⟩
      case round =>
        clear HI3 HH3 HO3 HX3 hal
        obtain ⟨i, cs, bal, hi, rfl, rfl, HA, HN, HI, HH, HO, HX, HD⟩ := hrel
        by_cases hlti : i < list.length
        · have hltiI : (i : Int) < (list.length : Int) := by omega
          obtain ⟨ad, e1, hx⟩ := Kd.at_int (Kd.R_reads' HO.out).2.2 (i : Int) (by omega) hltiI
          simp only [Int.toNat_natCast] at hx
          have hrd : rd list (i : Int) = list[i] := by unfold rd; rw [Int.toNat_natCast, List.getD_eq_getElem?_getD, List.getElem?_eq_getElem hlti]; rfl
          have hA := HA.out
          rw [List.drop_eq_getElem_cons hlti] at hA
          rw [hrd] at hx
          have hk := HC.out.2 _ (List.getElem_mem hlti)
          generalize list[i] = kk at *
          subst e1
          have hA' : flGo n (list.drop (i + 1)) (i + 1) (flStep n i kk (cs, bal)) = flGo n list 0 (r3, 0) := hA
          have hbt := and_one n i (by have := HLT2.out; have := HPW.out; have := HP2.out; omega)
          have HK := am hk
          have HLI := am hlti
          have hi20 : i ≤ 20 := by omega
          have hiw : IntKind.i64.wrap ((i : Int) + 1) = ((i + 1 : Nat) : Int) := by rw [IntKind.wrap_i64]; omega
          unfold flStep at hA'
          by_cases hb1 : n / 2 ^ i % 2 = 1
          · rw [if_pos hb1] at hA'
            have hbI : bits BinOp.and IntKind.i64 ((n : Int) / 2 ^ i) 1 = 1 := by rw [hbt, hb1]; rfl
            have HA' := am hA'
            have hkn : kk.toNat < r3.length := by omega
            obtain ⟨hcl1, hfr1⟩ := Kx.R_celln 0 HX.out kk hk.1 hk.2
            have hput := Kx.R_putg HX.out kk 111
            have HPUT := am hput
            have z2 : wr.cell? ⟨w3.heap.size, 2, none⟩ = some (.slice (some ⟨g, 0, none⟩) r3.length c3) := (blk_cell HD.out 2).trans rfl
            obtain ⟨hk0, hk1⟩ := hk
            have hbw : wrap64 (bal + 1) = bal + 1 := by have := HN.out; rw [← i64_w, IntKind.wrap_i64]; omega
            clear hrd hA HA hi hlti hbt hb1 hA' hput
            have hgw : w.heap.size ≤ g := Nat.le_trans HB4.out HG3.out
            have HGW := am hgw
            clear hgw
            go_wp2
            go_roundw
            case rel => exact ⟨i + 1, cs.set kk.toNat 111, bal + 1, by have := HLI.out; omega, by rw [hbw], by first | rfl | simp, HA', ⟨by have := HN.out; rw [List.length_set]; omega⟩, ⟨HST.out _ _ _ _ HI.out (Held.setCell (Held.refl _ _) _ ⟨HF3.out, HGW.out⟩)⟩, ⟨Held.trans HH.out (Held.setCell (F := fun k => k = g) (Held.refl _ _) _ rfl) (fun k hk => by subst hk; exact .inr HGW.out)⟩, ⟨Kx.R_over' HO.out (Kx.R_blk HX.out) (by decide) HPUT.out.2⟩, ⟨HPUT.out.1⟩, ⟨(Below.heap_setCell wr _ _ _ (fun e => Nat.lt_irrefl _ (e ▸ HGL.out))).trans HD.out⟩⟩
            case measure => have := HLI.out; simp [intOf]; omega
          · rw [if_neg hb1] at hA'
            have hbI : bits BinOp.and IntKind.i64 ((n : Int) / 2 ^ i) 1 = 0 := by rw [hbt, show n / 2 ^ i % 2 = 0 by omega]; rfl
            have HA' := am hA'
            clear hrd hA HA hi hlti hbt hb1 hA' hk
            go_wp2
            go_roundw
            case rel => exact ⟨i + 1, cs, bal, by have := HLI.out; omega, rfl, by first | rfl | simp, HA', ⟨by have := HN.out; omega⟩, HI, HH, HO, HX, HD⟩
            case measure => have := HLI.out; simp [intOf]; omega
        · have hge : ¬ (i : Int) < (list.length : Int) := by omega
          have hA := HA.out
          rw [List.drop_eq_nil_of_le (by omega)] at hA
          have hs2 := HSS.out
          rw [← (show (cs, bal) = flGo n list 0 (r3, 0) from hA)] at hs2
          have HS2 := am (show step s r1 r2 cs bal = some s' from hs2)
          have hv := Kd.V_reads' (Kx.R_V (base' := 0) HX.out)
          have hcl := HCL.out s F wr r1 r2 (some ⟨g, 0, none⟩) c3 cs bal s' HI.out hv.2.2 (by rw [HN.out.1]; exact hv.2.1) HS2.out
          rw [HN.out.1] at hcl
          have HCC := am hcl
          have z0 : wr.cell? ⟨w3.heap.size, 0, none⟩ = some (.int .i64 r1) := (blk_cell HD.out 0).trans rfl
          have z1 : wr.cell? ⟨w3.heap.size, 1, none⟩ = some (.int .i64 r2) := (blk_cell HD.out 1).trans rfl
          have z2 : wr.cell? ⟨w3.heap.size, 2, none⟩ = some (.slice (some ⟨g, 0, none⟩) r3.length c3) := (blk_cell HD.out 2).trans rfl
          have hnw : IntKind.i64.wrap ((n : Int) + 1) = ((n + 1 : Nat) : Int) := by rw [IntKind.wrap_i64]; have := HLT2.out; have := HPW.out; have := HP2.out; omega
          clear hA HA hs2 hv hcl
          go_wp2_with (first
            | (rw [HE.out, Oper.upon_enter]; refine HCC.out.mono ?_; rintro e w5 ⟨rfl, F', hinv, hheld, hsub⟩; have HI5 := am hinv; have HS5 := am (show ∀ k, F' k → F0 k ∨ w.heap.size ≤ k from fun k hk => (hsub k hk).elim (HS.out k) (fun h => .inr (Nat.le_trans HH.out.size h))); have HH5 := am (Held.trans HH.out hheld HS.out); have HO5 := am (R_held HO.out hheld hsub); clear hinv hheld hsub))
          go_roundw
          case rel => exact ⟨n + 1, s', F', by have := HLT2.out; omega, by first | rfl | simp, HA2, HI5, HS5, HH5, HO5⟩
          case measure => have := HLT2.out; simp [intOf]; omega
    · have hge : ¬ (n : Int) < (P2 : Int) := by omega
      have hA := HA.out
      rw [show P2 - n = 0 by omega] at hA
      obtain rfl : s = s1 := Option.some.inj hA
      clear hA
      go_wp2
      go_end0
      exact ⟨rfl, F, HI.out, HH.out, HS.out⟩
end Go.Proofs.YtdffgeoegdkiaaaGreatDoor

namespace Go.Proofs.YtdffgeoegdkiaaaGreatDoor

end Go.Proofs.YtdffgeoegdkiaaaGreatDoor

namespace Go.Proofs.YtdffgeoegdkiaaaGreatDoor
open Go.RowKit Go.Proofs.YtdffgeoegdkiaaaGreatDoorW.PrintWords Go.Proofs.YtdffgeoegdkiaaaGreatDoorW.PrintLast Go.Proofs.YtdffgeoegdkiaaaGreatDoorW.PrintMore Go.Lib Go.Shelf Go.Sort
section
variable {α : Type} [Inhabited α] {enc : α → Value} {h1 : ∀ x, (enc x).oneCell' = true} {e base : Nat} {W : World} {ok : Nat → Prop} {v : Value} {xs : List α}
theorem row_sorted (h : (Kd.scalar enc h1).R e W base ok v xs) : (∃ A c, v = .slice A 0 c ∧ xs = []) ∨
    ∃ g cap, v = .slice (some ⟨g, 0, none⟩) xs.length cap ∧ xs.length ≤ cap ∧ base ≤ g ∧ g < W.heap.size ∧ Holds enc W g 0 xs.toArray ∧
      ∀ (ds : List α) (m n : Nat) (os : Array Obj), ds.length = xs.length → m ≤ ds.length → (Kd.scalar enc h1).R e (Go.Sort.grow (putRow enc (Sort.ahead W n) g 0 ds.toArray) os) base ok (.slice (some ⟨g, 0, none⟩) m cap) (ds.take m) := by
  obtain ⟨h0, ho⟩ := h
  have ho' := Kd.own_of_R ⟨h0, ho⟩
  obtain ⟨hl, ⟨rfl, hx⟩ | ⟨g, cap, cur, rfl, hg, hrow, hcl, hcm, hsz, htk⟩⟩ := ho'
  · exact .inl ⟨none, 0, rfl, List.eq_nil_of_length_eq_zero hx⟩
  · rw [Nat.mul_one] at hsz htk
    by_cases hz : xs = []
    · subst hz; exact .inl ⟨_, cap, rfl, rfl⟩
    refine .inr ⟨g, cap, rfl, hcl, hg, blk_lt hrow, ?_, ?_⟩
    · intro j hj
      have hj' : j < xs.length := by simpa using hj
      refine ⟨(blk_cell hrow (0 + j)).trans ?_, blk_frozen hrow _⟩
      rw [Nat.zero_add, ← Array.getElem?_toList]
      have : (encs enc xs)[j]? = cur.toList[j]? := by
        rw [← htk, List.getElem?_take, if_pos hj']
      rw [← this, encs_get (d := default) xs j hj']
      congr 2
      rw [getElem!_pos xs.toArray j hj, List.getD_eq_getElem?_getD, List.getElem?_eq_getElem hj']; simp
    · intro ds m n os hds hm
      refine Kd.R_of_own (enc := enc) (h1 := h1) ?_ (fun k hk => h0 k hk)
      have hlen : (ds.take m).length = m := by rw [List.length_take]; omega
      refine ⟨by rw [encs_length, hlen]; omega, .inr ⟨g, cap, putCells enc 0 ds.toArray cur, by rw [hlen], hg, ?_, by rw [hlen]; omega, hcm, ?_, ?_⟩⟩
      · have := sortWorld_heap enc W g n g ds.toArray os (blk_lt hrow)
        unfold sortWorld at this
        rw [this, if_pos rfl, hrow]; rfl
      · rw [Nat.mul_one, ← hsz]; unfold putCells; simp
      · rw [Nat.mul_one, hlen]
        unfold putCells encs
        apply List.ext_getElem
        · simp; omega
        · intro i h1 h2
          have hi : i < m := by rw [List.length_map, hlen] at h2; exact h2
          have hid : i < ds.length := by omega
          simp [hid]
end
theorem sort_below {α : Type} [Inhabited α] (enc : α → Value) {w W : World} (g m : Nat) (d : Array α) (os : Array Obj) (hW : Go.RowKit.Below w.heap.size w W) (hg : w.heap.size ≤ g) : Go.RowKit.Below w.heap.size w (Go.Sort.grow (putRow enc (Sort.ahead W m) g 0 d) os) := sortWorld_below enc g m d os hW hg
theorem sort_other {α : Type} [Inhabited α] (enc : α → Value) (W : World) (g m k : Nat) (d : Array α) (os : Array Obj) (hk : k < W.heap.size) (hne : k ≠ g) : (Go.Sort.grow (putRow enc (Sort.ahead W m) g 0 d) os).heap[k]? = W.heap[k]? := by
  have := sortWorld_heap enc W g m k d os hk
  rw [if_neg (fun e => hne e.symm)] at this
  exact this
end Go.Proofs.YtdffgeoegdkiaaaGreatDoor
