/- The proof that the law's row holds, part 2: the kit's words, the printed walks and the plain law. No conditions beyond the card's own. -/
import Derived.Test.YtdffgeoegdkiaaaGreatDoorM0
import Derived.Test.YtdffgeoegdkiaaaGreatDoorM1
set_option linter.unusedVariables false
set_option linter.unusedSimpArgs false
namespace Go.Proofs.YtdffgeoegdkiaaaGreatDoor.F
open Go.Proofs.YtdffgeoegdkiaaaGreatDoor
open Go.RowKit Go.Proofs.YtdffgeoegdkiaaaGreatDoorW.PrintWords Go.Proofs.YtdffgeoegdkiaaaGreatDoorW.PrintLast Go.Proofs.YtdffgeoegdkiaaaGreatDoorW.PrintMore
attribute [local go_sem] max2_int min2_int max_two min_two max_three min_three max_four min_four
def spec_l1Least.f (a0 : Int) (a1 : Int) : Option (Int) := if a0 < a1 then (some a0) else (some a1)
set_option maxHeartbeats 8000000 in
set_option maxRecDepth 100000 in
theorem spec_l1Least.calls (a0 : Int) (a1 : Int) (r : Int) (w : World) (h : spec_l1Least.f a0 a1 = some r) :
  Calls Tryz.prog 193 #[.int .i64 a0, .int .i64 a1] w fun e w' => e = .returned (.int .i64 r) ∧ Drawn0 w w' := by
 have H : (if a0 < a1 then (some a0) else (some a1)) = some r := h
 clear h
 by_cases c3 : a0 < a1
 ·rw [if_pos c3] at H
  have c3b0 := decide_eq_true c3
  clear c3
  obtain rfl := Option.some.inj H
  go_enter Tryz.func193, Tryz.ntmps193
  go_wp2
  go_ret
  exact ⟨aq6, aq14⟩
 ·rw [if_neg c3] at H
  have c3b0 := decide_eq_false c3
  clear c3
  obtain rfl := Option.some.inj H
  go_enter Tryz.func193, Tryz.ntmps193
  go_wp2
  go_ret
  exact ⟨aq6, aq14⟩
def spec_tiFirst.l0 : Nat → Int → List Int → Int → Int → Option (Int)
 | 0, _, _, _, _ => none
 | k + 1, x3, x9, x10, x11 => if x11 < x10 then (if 0 ≤ x11 then (if x11 < (x9.length : Int) then ((spec_l1Least.f x3 (rd x9 x11)).bind fun t103 => (spec_tiFirst.l0 k t103 x9 x10 (wrap64 (x11 + 1)))) else (none)) else (none)) else (some x3)
def spec_tiFirst.f (k : Nat) (l0 : List Int) : Option (Int) := if 0 < (l0.length : Int) then (spec_tiFirst.l0 k (rd l0 0) l0 (l0.length : Int) 0) else (none)
theorem spec_tiFirst.mono_l : ∀ k, (∀ y0 y1 y2 y3, LeO (spec_tiFirst.l0 k y0 y1 y2 y3) (spec_tiFirst.l0 (k + 1) y0 y1 y2 y3))
 | 0 => fun _ _ _ _ r h => by simp [spec_tiFirst.l0] at h
 | k + 1 => by
  have ih0 := spec_tiFirst.mono_l k
  ·intro y0 y1 y2 y3
   unfold spec_tiFirst.l0
   exact mo
theorem spec_tiFirst.mono : ∀ a0 k, LeO (spec_tiFirst.f k a0) (spec_tiFirst.f (k + 1) a0) := by
 intro a0 k
 have ih0 := spec_tiFirst.mono_l k
 unfold spec_tiFirst.f
 exact mo
set_option maxHeartbeats 8000000 in
set_option maxRecDepth 100000 in
theorem spec_tiFirst.calls (k : Nat) (A0 : Option Addr) (c0 : Nat) (l0 : List Int) (r : Int) (w : World) (hr0 : Kd.C (Kd.int .i64) w A0 l0.length l0) (hc0 : l0.length ≤ c0) (h : spec_tiFirst.f k l0 = some r) :
  Calls Tryz.prog 166 #[.slice A0 l0.length c0] w fun e w' => e = .returned (.int .i64 r) ∧ Drawn0 w w' := by
 have HR0 := am hr0
 have HC0 := am hc0
 clear hr0 hc0
 have H : (if 0 < (l0.length : Int) then (spec_tiFirst.l0 k (rd l0 0) l0 (l0.length : Int) 0) else (none)) = some r := h
 clear h
 by_cases c2 : 0 < (l0.length : Int)
 ·rw [if_pos c2] at H
  have c2b0 := decide_eq_true c2
  have c2b1 : decide (0 < l0.length) = true := decide_eq_true (by omega)
  clear c2
  have H' := am H
  clear H
  have p101 : 0 ≤ (0 : Int) := (by omega)
  have q101 : 0 < (l0.length : Int) := of_decide_eq_true aq5
  obtain ⟨ad101, e101, hx101_0⟩ := Kd.at_int HR0.out 0 p101 q101
  cases e101
  have qi101 : (0 < l0.length) = True := eq_true (by omega)
  (try rw [show ((0 : Int)).toNat = 0 from rfl] at hx101_0)
  (try rw [Addr.add_zero'] at hx101_0)
  replace p101 := eq_true p101
  replace q101 := eq_true q101
  go_enter Tryz.func166, Tryz.ntmps166
  go_wp2
  go_loopg [3, 11] k (fun kq v3 v11 w' => ∃ (x3_1 : Int) (x11_1 : Int), v3 = .int .i64 x3_1 ∧ v11 = .int .i64 x11_1 ∧ Aside0 (spec_tiFirst.l0 kq x3_1 l0 (l0.length : Int) x11_1 = some r) ∧ Aside0 (kq ≤ k) ∧ Drawn0 w w')
  case atStart => exact ⟨(rd l0 0), (0), aq6, aq6, H', ⟨Nat.le_refl _⟩, aq14⟩
  case round =>
   clear H'
   try clear c1
   try clear p1
   try clear q1
   try clear hx1
   try clear qi1
   try clear c2
   try clear c2b0
   try clear c2b1
   try clear p2
   try clear hx101_0
   try clear p101
   try clear q101
   obtain ⟨x3_1, x11_1, rfl, rfl, HA, HK1, ⟨m1, rfl⟩⟩ := hrel
   cases gk with
   | zero => exact absurd HA.out (by simp [spec_tiFirst.l0])
   | succ k1 =>
    have H := HA.out
    clear HA
    simp only [spec_tiFirst.l0] at H
    by_cases c3 : x11_1 < (l0.length : Int)
    ·rw [if_pos c3] at H
     have c3b0 := decide_eq_true c3
     clear c3
     by_cases c4 : 0 ≤ x11_1
     ·rw [if_pos c4] at H
      have c4b0 := decide_eq_true c4
      clear c4
      by_cases c5 : x11_1 < (l0.length : Int)
      ·rw [if_pos c5] at H
       have c5b0 := decide_eq_true c5
       clear c5
       obtain ⟨t103, A60, H⟩ := Option.bind_eq_some_iff.mp H
       have A6 := am A60
       clear A60
       have H' := am H
       clear H
       have p102 : 0 ≤ (x11_1 : Int) := of_decide_eq_true aq5
       have q102 : x11_1 < (l0.length : Int) := of_decide_eq_true aq5
       obtain ⟨ad102, e102, hx102_0⟩ := Kd.at_int HR0.out x11_1 p102 q102
       obtain rfl : ad101 = ad102 := (by injection e102)
       replace p102 := eq_true p102
       replace q102 := eq_true q102
       go_wp2_with (first | ((with_reducible refine gate_callee (f := 193) rfl ?_); refine goesL_ (some 17) rfl rfl Tryz.func193 (by kernel_rfl) rfl #[.int .i64 x3_1, .int .i64 (rd l0 x11_1)] rfl aq4 ?_; (with_reducible refine (spec_l1Least.calls x3_1 (rd l0 x11_1) t103 _ A6.out).mono ?_); rintro e w' ⟨rfl, ⟨nd, rfl⟩⟩; refine ⟨_, rfl, ?_⟩))
       go_roundg k1
       case measure => have := HK1.out; omega
       case rel => exact ⟨(t103), (wrap64 (x11_1 + 1)), aq6, aq6, H', ⟨aq65⟩, aq14⟩
      ·rw [if_neg c5] at H
       exact absurd H (by simp)
     ·rw [if_neg c4] at H
      exact absurd H (by simp)
    ·rw [if_neg c3] at H
     have c3b0 := decide_eq_false c3
     clear c3
     obtain rfl := Option.some.inj H
     go_wp2
     go_ret
     exact ⟨aq6, aq14⟩
 ·rw [if_neg c2] at H
  exact absurd H (by simp)
mutual
def spec_tiStretches.l0 : Nat → Int → List (List Int) → List Int → Int → Int → Int → Int → List Int → Option ((List (List Int)))
 | 0, _, _, _, _, _, _, _, _ => none
 | k + 1, x1, x5, x13, x14, x15, x102000, x102001, x102002 => if x15 < x14 then (if 0 ≤ x15 then (if x15 < (x13.length : Int) then (if (rd x13 x15) = 35 then (spec_tiStretches.j1 k x1 x5 x15 x13 x14 x15 true x102000 x102001 x102002) else ((spec_tiAhead.f x102000 x102001 x102002 x15 x1).bind fun t103 => (spec_tiStretches.j1 k x1 x5 x15 x13 x14 x15 (decide (t103 ≥ 0)) x102000 x102001 x102002))) else (none)) else (none)) else (some x5)
def spec_tiStretches.j1 : Nat → Int → List (List Int) → Int → List Int → Int → Int → Bool → Int → Int → List Int → Option ((List (List Int)))
 | 0, _, _, _, _, _, _, _, _, _, _ => none
 | k + 1, x1, x5, x6, x13, x14, x15, x28, x102000, x102001, x102002 => if x28 = true then (spec_tiStretches.l0 k x1 x5 x13 x14 (wrap64 (x15 + 1)) x102000 x102001 x102002) else ((spec_tiAhead.f x102000 x102001 x102002 x6 (Int.tmod (wrap64 (x1 + 2)) 4)).bind fun t107 => (spec_tiStretches.l1 k x1 x5 (([x6] : List Int)) t107 x13 x14 x15 x102000 x102001 x102002))
def spec_tiStretches.l1 : Nat → Int → List (List Int) → List Int → Int → List Int → Int → Int → Int → Int → List Int → Option ((List (List Int)))
 | 0, _, _, _, _, _, _, _, _, _, _ => none
 | k + 1, x1, x5, x8, x9, x13, x14, x15, x102000, x102001, x102002 => if x9 ≥ 0 then (if x8.length < 17592186044416 then ((spec_tiAhead.f x102000 x102001 x102002 x9 (Int.tmod (wrap64 (x1 + 2)) 4)).bind fun t111 => (spec_tiStretches.l1 k x1 x5 (x8 ++ [x9]) t111 x13 x14 x15 x102000 x102001 x102002)) else (none)) else (spec_tiStretches.l2 k x1 x5 x8 0 x13 x14 x15 x102000 x102001 x102002)
def spec_tiStretches.l2 : Nat → Int → List (List Int) → List Int → Int → List Int → Int → Int → Int → Int → List Int → Option ((List (List Int)))
 | 0, _, _, _, _, _, _, _, _, _, _ => none
 | k + 1, x1, x5, x8, x10, x13, x14, x15, x102000, x102001, x102002 => if x10 < (x5.length : Int) then (if 0 ≤ x10 then ((spec_tiFirst.f k (rd_L3 x5 x10)).bind fun t113 => ((spec_tiFirst.f k x8).bind fun t114 => (if t113 < t114 then (spec_tiStretches.l2 k x1 x5 x8 (wrap64 (x10 + 1)) x13 x14 x15 x102000 x102001 x102002) else ((some (([] : List (List Int)) : List (List Int))).bind fun y115 => (if x10 ≤ (x5.length : Int) then ((some (x5.take (x10 : Int).toNat : List (List Int))).bind fun y118 => (if y115.length + y118.length < 5864062014805 then ((some (y115 ++ y118 : List (List Int))).bind fun y123 => (if y123.length < 5864062014805 then ((some (y123 ++ [x8] : List (List Int))).bind fun y126 => ((some (x5.drop (x10 : Int).toNat : List (List Int))).bind fun y129 => (if y126.length + y129.length < 5864062014805 then (spec_tiStretches.l0 k x1 (y126 ++ y129) x13 x14 (wrap64 (x15 + 1)) x102000 x102001 x102002) else (none)))) else (none))) else (none))) else (none)))))) else (none)) else ((some (([] : List (List Int)) : List (List Int))).bind fun y137 => (if 0 ≤ x10 then (if x10 ≤ (x5.length : Int) then ((some (x5.take (x10 : Int).toNat : List (List Int))).bind fun y140 => (if y137.length + y140.length < 5864062014805 then ((some (y137 ++ y140 : List (List Int))).bind fun y145 => (if y145.length < 5864062014805 then ((some (y145 ++ [x8] : List (List Int))).bind fun y148 => ((some (x5.drop (x10 : Int).toNat : List (List Int))).bind fun y151 => (if y148.length + y151.length < 5864062014805 then (spec_tiStretches.l0 k x1 (y148 ++ y151) x13 x14 (wrap64 (x15 + 1)) x102000 x102001 x102002) else (none)))) else (none))) else (none))) else (none)) else (none)))
end
def spec_tiStretches.f (k : Nat) (a0_0 : Int) (a0_1 : Int) (l0_2 : List Int) (a1 : Int) : Option ((List (List Int))) := spec_tiStretches.l0 k a1 ([] : List (List Int)) l0_2 (l0_2.length : Int) 0 a0_0 a0_1 l0_2
theorem spec_tiStretches.mono_l : ∀ k, (∀ y0 y1 y2 y3 y4 y5 y6 y7, LeO (spec_tiStretches.l0 k y0 y1 y2 y3 y4 y5 y6 y7) (spec_tiStretches.l0 (k + 1) y0 y1 y2 y3 y4 y5 y6 y7)) ∧ (∀ y0 y1 y2 y3 y4 y5 y6 y7 y8 y9, LeO (spec_tiStretches.j1 k y0 y1 y2 y3 y4 y5 y6 y7 y8 y9) (spec_tiStretches.j1 (k + 1) y0 y1 y2 y3 y4 y5 y6 y7 y8 y9)) ∧ (∀ y0 y1 y2 y3 y4 y5 y6 y7 y8 y9, LeO (spec_tiStretches.l1 k y0 y1 y2 y3 y4 y5 y6 y7 y8 y9) (spec_tiStretches.l1 (k + 1) y0 y1 y2 y3 y4 y5 y6 y7 y8 y9)) ∧ (∀ y0 y1 y2 y3 y4 y5 y6 y7 y8 y9, LeO (spec_tiStretches.l2 k y0 y1 y2 y3 y4 y5 y6 y7 y8 y9) (spec_tiStretches.l2 (k + 1) y0 y1 y2 y3 y4 y5 y6 y7 y8 y9))
 | 0 => ⟨fun _ _ _ _ _ _ _ _ r h => by simp [spec_tiStretches.l0] at h, fun _ _ _ _ _ _ _ _ _ _ r h => by simp [spec_tiStretches.j1] at h, fun _ _ _ _ _ _ _ _ _ _ r h => by simp [spec_tiStretches.l1] at h, fun _ _ _ _ _ _ _ _ _ _ r h => by simp [spec_tiStretches.l2] at h⟩
 | k + 1 => by
  obtain ⟨ih0, ih1, ih2, ih3⟩ := spec_tiStretches.mono_l k
  refine ⟨?_, ?_, ?_, ?_⟩
  ·intro y0 y1 y2 y3 y4 y5 y6 y7
   unfold spec_tiStretches.l0
   have im0 := @spec_tiFirst.mono; exact mo
  ·intro y0 y1 y2 y3 y4 y5 y6 y7 y8 y9
   unfold spec_tiStretches.j1
   have im0 := @spec_tiFirst.mono; exact mo
  ·intro y0 y1 y2 y3 y4 y5 y6 y7 y8 y9
   unfold spec_tiStretches.l1
   have im0 := @spec_tiFirst.mono; exact mo
  ·intro y0 y1 y2 y3 y4 y5 y6 y7 y8 y9
   unfold spec_tiStretches.l2
   have im0 := @spec_tiFirst.mono; exact mo
theorem spec_tiStretches.mono : ∀ a0 a1 a2 a3 k, LeO (spec_tiStretches.f k a0 a1 a2 a3) (spec_tiStretches.f (k + 1) a0 a1 a2 a3) := by
 intro a0 a1 a2 a3 k
 obtain ⟨ih0, ih1, ih2, ih3⟩ := spec_tiStretches.mono_l k
 unfold spec_tiStretches.f
 have im0 := @spec_tiFirst.mono; exact mo
set_option maxHeartbeats 8000000 in
set_option maxRecDepth 100000 in
theorem spec_tiStretches.calls (k : Nat) (a0_0 : Int) (a0_1 : Int) (A0_2 : Option Addr) (c0_2 : Nat) (l0_2 : List Int) (a1 : Int) (r : List (List Int)) (w : World) (hr0_2 : Kd.C (Kd.int .u8) w A0_2 l0_2.length l0_2) (hc0_2 : l0_2.length ≤ c0_2) (h : spec_tiStretches.f k a0_0 a0_1 l0_2 a1 = some r) :
  Calls Tryz.prog 125 #[.agg #[.int .i64 a0_0, .int .i64 a0_1, .slice A0_2 l0_2.length c0_2], .int .i64 a1] w fun e w' => ∃ v0_ : Value, e = .returned (v0_) ∧ Kd.N (Kd.slice 3 (Kd.int .i64)) 28 w' w.heap.size (fun k_ => (w.heap.size ≤ k_)) v0_ r ∧ Below w.heap.size w w' := by
 have hu62 := Tryz.underlying62
 have HR0_2 := am hr0_2
 have HC0_2 := am hc0_2
 clear hr0_2 hc0_2
 have HB := am (Below.refl w.heap.size w)
 have H : (spec_tiStretches.l0 k a1 ([] : List (List Int)) l0_2 (l0_2.length : Int) 0 a0_0 a0_1 l0_2) = some r := h
 clear h
 have H' := am H
 clear H
 go_enter Tryz.func125, Tryz.ntmps125
 go_wp2_with (first | ((with_reducible refine gate_dst (N := 2) rfl ?_); refine box_event ?hg (N := 2) ?hd (cs := #[.int .i64 a0_0, .int .i64 a0_1, .slice A0_2 l0_2.length c0_2]) (t := 62) ?hr ?_; (case hd => rfl); (case hg => rfl); (case hr => exact aq19); intro gb101 hg w3 hbox hb; have n0_ := am (below_step aq1 hb); have n1_ := am (hbox); have n2_ := am ((by rw [hg]; exact (below_size aq1) : w.heap.size ≤ gb101)); have n3_ := am ((by rw [hg]; exact (below_size aq1) : w.heap.size ≤ gb101)); clear HB; have HB := n0_; have BK101 := n1_; have GW101 := n2_; have GE101 := n3_; clear n0_ n1_ n2_ n3_; clear hb hbox hg; obtain ⟨hcz4_0, hcz4_1, hcz4_2, hfz4_0, hfz4_1, hfz4_2⟩ := blk3_ BK101.out))
 go_loopg [5, 15] k (fun kq v5 v15 w' => ∃ (x5_1 : List (List Int)) (x15_1 : Int), v15 = .int .i64 x15_1 ∧ Aside0 (spec_tiStretches.l0 kq a1 x5_1 l0_2 (l0_2.length : Int) x15_1 a0_0 a0_1 l0_2 = some r) ∧ Aside0 (kq ≤ k) ∧ Aside0 (Kd.N (Kd.slice 3 (Kd.int .i64)) 28 w' w.heap.size (fun k_ => (w.heap.size ≤ k_) ∧ k_ ≠ gb101) v5 x5_1) ∧ Aside0 (w'.heap[gb101]? = some (.cells #[.int .i64 a0_0, .int .i64 a0_1, (.slice A0_2 l0_2.length c0_2)] 62 (0, 0))) ∧ Aside0 (Below w.heap.size w w'))
 case atStart => exact ⟨(([] : List (List Int))), (0), aq6, H', ⟨Nat.le_refl _⟩, ⟨by first | exact Kd.S_nil _ _ _ _ _ | exact Kd.N_nil _ _ _ _ _ | exact Kd.V_nil _ _ _ _ _ | exact Kd.Q_nil _ _ _ _ _ | exact Kd.R_nil _ _ _ _ _⟩, ⟨aq2⟩, ⟨aq0⟩⟩
 case round =>
  clear H'
  try clear c1
  try clear p2
  try clear hcz4_0
  try clear hcz4_1
  try clear hcz4_2
  try clear hfz4_0
  try clear hfz4_1
  try clear hfz4_2
  obtain ⟨x5_1, x15_1, rfl, HA, HK1, HO_5, BK101, HB⟩ := hrel
  cases gk with
  | zero => exact absurd HA.out (by simp [spec_tiStretches.l0])
  | succ k1 =>
   have H := HA.out
   clear HA
   simp only [spec_tiStretches.l0] at H
   by_cases c5 : x15_1 < (l0_2.length : Int)
   ·rw [if_pos c5] at H
    have c5b0 := decide_eq_true c5
    clear c5
    by_cases c6 : 0 ≤ x15_1
    ·rw [if_pos c6] at H
     have c6b0 := decide_eq_true c6
     clear c6
     by_cases c7 : x15_1 < (l0_2.length : Int)
     ·rw [if_pos c7] at H
      have c7b0 := decide_eq_true c7
      clear c7
      have HC8 := am H
      clear H
      have p102 : 0 ≤ (x15_1 : Int) := of_decide_eq_true aq5
      have q102 : x15_1 < (l0_2.length : Int) := of_decide_eq_true aq5
      obtain ⟨ad102, e102, hx102_0⟩ := Kd.at_int HR0_2.out x15_1 p102 q102
      cases e102
      try replace hx102_0 := (HB.out.cell (World.block_lt_of_cell? w _ hx102_0)).trans hx102_0
      replace p102 := eq_true p102
      replace q102 := eq_true q102
      go_upto_region 5 with (fail)
      go_cut [28] (fun v28 wc => ∃ (kq : Nat) (x28_7 : Bool), v28 = .bool x28_7 ∧ Aside0 (spec_tiStretches.j1 kq a1 x5_1 x15_1 l0_2 (l0_2.length : Int) x15_1 x28_7 a0_0 a0_1 l0_2 = some r) ∧ Aside0 (kq ≤ k1) ∧ Aside0 (Kd.N (Kd.slice 3 (Kd.int .i64)) 28 wc w.heap.size (fun k_ => (w.heap.size ≤ k_) ∧ k_ ≠ gb101) u5 x5_1) ∧ Aside0 (wc.heap[gb101]? = some (.cells #[.int .i64 a0_0, .int .i64 a0_1, (.slice (some ad102) l0_2.length c0_2)] 62 (0, 0))) ∧ Aside0 (Below w.heap.size w wc))
      case first =>
       have H := HC8.out
       clear HC8
       by_cases c9 : (rd l0_2 x15_1) = 35
       ·rw [if_pos c9] at H
        have c9b0 := beq_iff_eq.mpr c9
        have c9b1 := bne_eq_false_iff_eq.mpr c9
        clear c9
        (first | rw [c9b0] | (simp only [i64_w, i32_w]; rw [c9b0]) | skip)
        have H' := am H
        clear H
        go_wp2
        go_meet
        case rel => exact ⟨_, (true), aq6, H', ⟨aq71⟩, ⟨aq21⟩, ⟨aq2⟩, ⟨aq0⟩⟩
       ·rw [if_neg c9] at H
        have c9b0 := beq_eq_false_iff_ne.mpr c9
        have c9b1 := bne_iff_ne.mpr c9
        (first | rw [c9b0] | (simp only [i64_w, i32_w]; rw [c9b0]) | skip)
        obtain ⟨t103, A100, H⟩ := Option.bind_eq_some_iff.mp H
        have A10 := am A100
        clear A100
        have H' := am H
        clear H
        obtain ⟨hcz11_0, hcz11_1, hcz11_2, hfz11_0, hfz11_1, hfz11_2⟩ := blk3_ BK101.out
        go_wp2_with (first | (go_at_call 165; (with_reducible refine (spec_tiAhead.calls a0_0 a0_1 _ _ l0_2 x15_1 a1 t103 _ ?side1 ?side2 A10.out).mono ?_); (case side1 => exact aq10); (case side2 => exact HC0_2.out); rintro e w12 ⟨rfl, hb⟩; have n0_ := am (Kd.N_below aq21 hb); have n1_ := am (blk_below (g := gb101) (o := .cells #[.int .i64 a0_0, .int .i64 a0_1, .slice (some ad102) l0_2.length c0_2] 62 (0, 0)) aq2 hb); have n2_ := am (below_step aq0 hb); clear HO_5; clear BK101; clear HB; have HO_5 := n0_; have BK101 := n1_; have HB := n2_; clear n0_ n1_ n2_; (try clear hb); (try clear hb2); (try clear hk); (try clear hi)))
        go_meet
        case rel => exact ⟨_, (decide (t103 ≥ 0)), aq6, H', ⟨aq71⟩, ⟨aq21⟩, ⟨aq2⟩, ⟨aq0⟩⟩
      case rest =>
       clear HC8
       try clear c1
       try clear p1
       try clear q1
       try clear hx1
       try clear p2
       try clear c5
       try clear c5b0
       try clear c6
       try clear c6b0
       try clear c7
       try clear c7b0
       try clear c9
       try clear c9b0
       try clear c9b1
       try clear p10
       try clear q10
       try clear hx10
       try clear c12
       try clear hcz11_0
       try clear hcz11_1
       try clear hcz11_2
       try clear hcz4_0
       try clear hcz4_1
       try clear hcz4_2
       try clear hfz11_0
       try clear hfz11_1
       try clear hfz11_2
       try clear hfz4_0
       try clear hfz4_1
       try clear hfz4_2
       try clear hx102_0
       try clear p102
       try clear p2
       try clear q102
       obtain ⟨kq, x28_7, rfl, HA, HJ7, HO_5, BK101, HB⟩ := hcut
       cases kq with
       | zero => exact absurd HA.out (by simp [spec_tiStretches.j1])
       | succ kj7 =>
        have H := HA.out
        clear HA
        simp only [spec_tiStretches.j1] at H
        by_cases c13 : x28_7 = true
        ·subst c13
         rw [if_pos rfl] at H
         have H' := am H
         clear H
         go_wp2
         go_roundg kj7
         case measure => have := HK1.out; have := HJ7.out; omega
         case rel => exact ⟨(x5_1), (wrap64 (x15_1 + 1)), aq6, H', ⟨by have := HK1.out; have := HJ7.out; omega⟩, ⟨aq21⟩, ⟨aq2⟩, ⟨aq0⟩⟩
        ·replace c13 := Bool.eq_false_iff.mpr c13
         subst c13
         rw [if_neg Bool.false_ne_true] at H
         obtain ⟨y104, hy_⟩ : ∃ y_ : List Int, y_ = (([x15_1] : List Int)) := ⟨_, rfl⟩
         replace H : ((spec_tiAhead.f a0_0 a0_1 l0_2 x15_1 (Int.tmod (wrap64 (a1 + 2)) 4)).bind fun t107 => (spec_tiStretches.l1 kj7 a1 x5_1 y104 t107 l0_2 (l0_2.length : Int) x15_1 a0_0 a0_1 l0_2)) = some r := aq3
         have Ny104 := am hy_
         clear hy_
         obtain ⟨t107, A140, H⟩ := Option.bind_eq_some_iff.mp H
         have A14 := am A140
         clear A140
         have H' := am H
         clear H
         go_wp2_with (first | ((with_reducible refine gate_dst (N := 30) rfl ?_); refine Kd.R_lit (Kd.int .i64) _ 3 ?hg (N := 30) ?hd (xs := ([x15_1] : List Int)) (inner := [.int .i64 x15_1]) (ok := fun _ => True) (okp := fun _ => True) ?hr ?hp (fun _ hk => hk) trivial (Below.refl _ _) (Nat.le_refl _) (by simp) ?_; (case hd => rfl); (case hg => rfl); (case hr => exact aq19); (case hp => exact (Reps.one (show Kd.M (Kd.int .i64) _ _ _ x15_1 [.int .i64 x15_1] from rfl) (Reps.none _ _))); intro v105 w15 ho16 hb hg_ hnew_; clear hg_ hnew_; (first | rw [← Ny104.out] at ho16 | (simp only [Int.reduceToNat] at ho16; rw [← Ny104.out] at ho16)); have n0_ := am (Kd.N_elder' aq21 (Kd.R_base ho16) hb); have n1_ := am (Kd.R_lower (Kd.R_newM (M := fun k_ => (w.heap.size ≤ k_)) ho16 (below_size aq0) (fun k_ h_ => h_)) (below_size aq0)); have n2_ := am (blk_below (g := gb101) (o := .cells #[.int .i64 a0_0, .int .i64 a0_1, .slice (some ad102) l0_2.length c0_2] 62 (0, 0)) aq2 hb); have n3_ := am (below_step aq0 hb); clear HO_5; clear BK101; clear HB; have HO_5 := n0_; have HO106 := n1_; have BK101 := n2_; have HB := n3_; clear n0_ n1_ n2_ n3_; clear hb ho16; obtain ⟨hcz17_0, hcz17_1, hcz17_2, hfz17_0, hfz17_1, hfz17_2⟩ := blk3_ BK101.out) | ((with_reducible refine gate_callee (f := 165) rfl ?_); refine goesL_ (some 36) rfl rfl Tryz.func165 (by kernel_rfl) rfl #[.agg #[.int .i64 a0_0, .int .i64 a0_1, .slice (some ad102) l0_2.length c0_2], .int .i64 x15_1, .int .i64 (Int.tmod (wrap64 (a1 + 2)) 4)] rfl aq4 ?_; (with_reducible refine (spec_tiAhead.calls a0_0 a0_1 _ _ l0_2 x15_1 (Int.tmod (wrap64 (a1 + 2)) 4) t107 _ ?side1 ?side2 A14.out).mono ?_); (case side1 => exact aq10); (case side2 => exact HC0_2.out); rintro e w18 ⟨rfl, hb⟩; refine ⟨_, rfl, ?_⟩; have n0_ := am (Kd.N_below aq21 hb); have n1_ := am (Kd.R_below aq40 hb); have n2_ := am (blk_below (g := gb101) (o := .cells #[.int .i64 a0_0, .int .i64 a0_1, .slice (some ad102) l0_2.length c0_2] 62 (0, 0)) aq2 hb); have n3_ := am (below_step aq0 hb); clear HO_5; clear HO106; clear BK101; clear HB; have HO_5 := n0_; have HO106 := n1_; have BK101 := n2_; have HB := n3_; clear n0_ n1_ n2_ n3_; (try clear hb); (try clear hb2); (try clear hk); (try clear hi)))
         go_loopg [8, 9] kj7 (fun kq v8 v9 w' => ∃ (x8_3 : List Int) (x9_3 : Int), v9 = .int .i64 x9_3 ∧ Aside0 (spec_tiStretches.l1 kq a1 x5_1 x8_3 x9_3 l0_2 (l0_2.length : Int) x15_1 a0_0 a0_1 l0_2 = some r) ∧ Aside0 (kq ≤ kj7) ∧ Aside0 (Kd.N (Kd.slice 3 (Kd.int .i64)) 28 w' w.heap.size (fun k_ => (w.heap.size ≤ k_) ∧ some k_ ≠ (v8 : Value).ownBlock ∧ k_ ≠ gb101) u5 x5_1) ∧ Aside0 (Kd.R (Kd.int .i64) 3 w' w.heap.size (fun k_ => (w.heap.size ≤ k_)) v8 x8_3) ∧ Aside0 (w'.heap[gb101]? = some (.cells #[.int .i64 a0_0, .int .i64 a0_1, (.slice (some ad102) l0_2.length c0_2)] 62 (0, 0))) ∧ Aside0 (Below w.heap.size w w'))
         case atStart => exact ⟨(y104), (t107), aq6, H', ⟨Nat.le_refl _⟩, ⟨aq95⟩, ⟨by (with_reducible repeat (first | apply Kd.R_alloc | apply Kd.R_drewN | apply Kd.R_drew)); exact Kd.R_mono HO106.out (fun _ hk => hk.1)⟩, ⟨aq2⟩, ⟨aq0⟩⟩
         case round =>
          clear H'
          try clear c1
          try clear p1
          try clear q1
          try clear hx1
          try clear p2
          try clear c5
          try clear c5b0
          try clear c6
          try clear c6b0
          try clear p6
          try clear c7
          try clear c7b0
          try clear c9
          try clear c9b0
          try clear c9b1
          try clear p10
          try clear q10
          try clear hx10
          try clear c12
          try clear c13
          try clear c16
          try clear hcz11_0
          try clear hcz11_1
          try clear hcz11_2
          try clear hcz17_0
          try clear hcz17_1
          try clear hcz17_2
          try clear hcz4_0
          try clear hcz4_1
          try clear hcz4_2
          try clear hfz11_0
          try clear hfz11_1
          try clear hfz11_2
          try clear hfz17_0
          try clear hfz17_1
          try clear hfz17_2
          try clear hfz4_0
          try clear hfz4_1
          try clear hfz4_2
          try clear hx102_0
          try clear p1
          try clear p10
          try clear p102
          try clear p2
          try clear q1
          try clear q10
          try clear q102
          obtain ⟨x8_3, x9_3, rfl, HA, HK3, HO_5, HO_8, BK101, HB⟩ := hrel
          cases gk with
          | zero => exact absurd HA.out (by simp [spec_tiStretches.l1])
          | succ k3 =>
           have H := HA.out
           clear HA
           simp only [spec_tiStretches.l1] at H
           by_cases c19 : x9_3 ≥ 0
           ·rw [if_pos c19] at H
            have c19b0 := decide_eq_true c19
            clear c19
            by_cases c20 : x8_3.length < 17592186044416
            ·rw [if_pos c20] at H
             have LMc20 := am c20
             clear c20
             obtain ⟨y108, hy_⟩ : ∃ y_ : List Int, y_ = (x8_3 ++ [x9_3]) := ⟨_, rfl⟩
             replace H : ((spec_tiAhead.f a0_0 a0_1 l0_2 x9_3 (Int.tmod (wrap64 (a1 + 2)) 4)).bind fun t111 => (spec_tiStretches.l1 k3 a1 x5_1 y108 t111 l0_2 (l0_2.length : Int) x15_1 a0_0 a0_1 l0_2)) = some r := aq3
             have Ny108 := am hy_
             clear hy_
             obtain ⟨t111, A210, H⟩ := Option.bind_eq_some_iff.mp H
             have A21 := am A210
             clear A210
             have H' := am H
             clear H
             go_wp2_with (first | ((with_reducible refine gate_builtin (b := .append) (xs := #[.tmp 45, .tmp 47]) rfl ?_); at_builtin; refine Kd.R_append (Kd.int .i64) (w0 := w) w.heap.size rfl (.tmp 45) (.tmp 47) 28 3 (.int .i64 0) 8 rfl Tryz.underlying28 info3 rfl (by decide) (by omega) u8 x8_3 x9_3 [.int .i64 x9_3] (fun k_ => (w.heap.size ≤ k_)) (fun _ => False) rfl rfl ?aP (fun _ hk => hk.elim) ?aF ?aO ?aB ?aS ?aL ?_; (case aP => exact rfl); (case aB => exact aq0); (case aF => exact (fun k_ hk => (Nat.le_trans (below_size aq0) hk))); (case aO => exact aq26); (case aS => exact aq74); (case aL => have := LMc20.out; omega); intro v109 w22 ho hb hg hat; rw [← Ny108.out] at ho; have n0_ := am (Kd.N_afterv (ok := (fun k_ => (w.heap.size ≤ k_) ∧ k_ ≠ gb101)) (by (with_reducible repeat (first | apply Kd.N_alloc | apply Kd.N_drewN | apply Kd.N_drew)); exact Kd.N_mono HO_5.out (fun _ hk => ⟨⟨hk.1, hk.2.2⟩, hk.2.1⟩)) hg hat); have n1_ := am (blk_grown (g := gb101) (o := .cells #[.int .i64 a0_0, .int .i64 a0_1, .slice (some ad102) l0_2.length c0_2] 62 (0, 0)) aq2 hg (Kd.R_ne HO_8.out BK101.out (by decide))); have n2_ := am (hb); have n3_ := am (ho); clear HO_5; clear BK101; clear HB; clear HO_8; have HO_5 := n0_; have BK101 := n1_; have HB := n2_; have HO110 := n3_; clear n0_ n1_ n2_ n3_; clear ho hb hg hat; obtain ⟨hcz23_0, hcz23_1, hcz23_2, hfz23_0, hfz23_1, hfz23_2⟩ := blk3_ BK101.out) | ((with_reducible refine gate_callee (f := 165) rfl ?_); refine goesL_ (some 44) rfl rfl Tryz.func165 (by kernel_rfl) rfl #[.agg #[.int .i64 a0_0, .int .i64 a0_1, .slice (some ad102) l0_2.length c0_2], .int .i64 x9_3, .int .i64 (Int.tmod (wrap64 (a1 + 2)) 4)] rfl aq4 ?_; (with_reducible refine (spec_tiAhead.calls a0_0 a0_1 _ _ l0_2 x9_3 (Int.tmod (wrap64 (a1 + 2)) 4) t111 _ ?side1 ?side2 A21.out).mono ?_); (case side1 => exact aq10); (case side2 => exact HC0_2.out); rintro e w24 ⟨rfl, hb⟩; refine ⟨_, rfl, ?_⟩; have n0_ := am (Kd.N_below aq21 hb); have n1_ := am (Kd.R_below (by (with_reducible repeat (first | apply Kd.R_alloc | apply Kd.R_drewN | apply Kd.R_drew)); exact HO110.out) hb); have n2_ := am (blk_below (g := gb101) (o := .cells #[.int .i64 a0_0, .int .i64 a0_1, .slice (some ad102) l0_2.length c0_2] 62 (0, 0)) aq2 hb); have n3_ := am (below_step aq0 hb); clear HO_5; clear HO110; clear BK101; clear HB; have HO_5 := n0_; have HO110 := n1_; have BK101 := n2_; have HB := n3_; clear n0_ n1_ n2_ n3_; (try clear hb); (try clear hb2); (try clear hk); (try clear hi)))
             go_roundg k3
             case measure => have := HK1.out; have := HJ7.out; have := HK3.out; omega
             case rel => exact ⟨(y108), (t111), aq6, H', ⟨by have := HK1.out; have := HJ7.out; have := HK3.out; omega⟩, ⟨aq95⟩, ⟨by (with_reducible repeat (first | apply Kd.R_alloc | apply Kd.R_drewN | apply Kd.R_drew)); exact HO110.out⟩, ⟨aq2⟩, ⟨aq0⟩⟩
            ·rw [if_neg c20] at H
             exact absurd H (by simp)
           ·rw [if_neg c19] at H
            have c19b0 := decide_eq_false c19
            clear c19
            have H' := am H
            clear H
            go_wp2
            go_loopg [10] k3 (fun kq v10 w' => ∃ (x10_4 : Int), v10 = .int .i64 x10_4 ∧ Aside0 (spec_tiStretches.l2 kq a1 x5_1 x8_3 x10_4 l0_2 (l0_2.length : Int) x15_1 a0_0 a0_1 l0_2 = some r) ∧ Aside0 (kq ≤ k3) ∧ Aside0 (Kd.N (Kd.slice 3 (Kd.int .i64)) 28 w' w.heap.size (fun k_ => (w.heap.size ≤ k_) ∧ some k_ ≠ (u8 : Value).ownBlock ∧ k_ ≠ gb101) u5 x5_1) ∧ Aside0 (Kd.R (Kd.int .i64) 3 w' w.heap.size (fun k_ => (w.heap.size ≤ k_)) u8 x8_3) ∧ Aside0 (w'.heap[gb101]? = some (.cells #[.int .i64 a0_0, .int .i64 a0_1, (.slice (some ad102) l0_2.length c0_2)] 62 (0, 0))) ∧ Aside0 (Below w.heap.size w w'))
            case atStart => exact ⟨(0), aq6, H', ⟨Nat.le_refl _⟩, ⟨aq21⟩, ⟨aq26⟩, ⟨aq2⟩, ⟨aq0⟩⟩
            case round =>
             clear H'
             try clear c1
             try clear p1
             try clear q1
             try clear hx1
             try clear c2
             try clear p2
             try clear c5
             try clear c5b0
             try clear c6
             try clear c6b0
             try clear p6
             try clear c7
             try clear c7b0
             try clear c9
             try clear c9b0
             try clear c9b1
             try clear p10
             try clear q10
             try clear hx10
             try clear c12
             try clear c13
             try clear c16
             try clear c19
             try clear c19b0
             try clear c20
             try clear hcz11_0
             try clear hcz11_1
             try clear hcz11_2
             try clear hcz17_0
             try clear hcz17_1
             try clear hcz17_2
             try clear hcz23_0
             try clear hcz23_1
             try clear hcz23_2
             try clear hcz4_0
             try clear hcz4_1
             try clear hcz4_2
             try clear hfz11_0
             try clear hfz11_1
             try clear hfz11_2
             try clear hfz17_0
             try clear hfz17_1
             try clear hfz17_2
             try clear hfz23_0
             try clear hfz23_1
             try clear hfz23_2
             try clear hfz4_0
             try clear hfz4_1
             try clear hfz4_2
             try clear hx102_0
             try clear p1
             try clear p10
             try clear p102
             try clear p2
             try clear p6
             try clear q1
             try clear q10
             try clear q102
             obtain ⟨x10_4, rfl, HA, HK4, HO_5, HO_8, BK101, HB⟩ := hrel
             cases gk with
             | zero => exact absurd HA.out (by simp [spec_tiStretches.l2])
             | succ k4 =>
              have H := HA.out
              clear HA
              simp only [spec_tiStretches.l2] at H
              by_cases c25 : x10_4 < (x5_1.length : Int)
              ·rw [if_pos c25] at H
               have c25b0 := decide_eq_true c25
               clear c25
               by_cases c26 : 0 ≤ x10_4
               ·rw [if_pos c26] at H
                have c26b0 := decide_eq_true c26
                clear c26
                obtain ⟨t113, A270, H⟩ := Option.bind_eq_some_iff.mp H
                have A27 := am A270
                clear A270
                obtain ⟨t114, A280, H⟩ := Option.bind_eq_some_iff.mp H
                have A28 := am A280
                clear A280
                by_cases c29 : t113 < t114
                ·rw [if_pos c29] at H
                 have c29b0 := decide_eq_true c29
                 clear c29
                 have H' := am H
                 clear H
                 obtain ⟨Ao30, co30, eo30⟩ := Kd.N_slice HO_5.out
                 subst eo30
                 have p112 : 0 ≤ (x10_4 : Int) := of_decide_eq_true aq5
                 have q112 : x10_4 < (x5_1.length : Int) := of_decide_eq_true aq5
                 obtain ⟨ad112, A112_0, c112_0, e112, hx112_0, hl112_0, hi112_0⟩ := at_L3 (Kd.N_reads' HO_5.out).2.2 x10_4 p112 q112
                 cases e112
                 obtain ⟨ce112, hce112, hMe112, hcc112⟩ := Kd.N_get HO_5.out [] x10_4 p112 (by first | exact q112 | exact of_decide_eq_true aq5 | (have e_ := (Kd.N_reads' HO_5.out).1; omega))
                 obtain ⟨ua112_0, uc112_0, rfl, ul112_0, ge112_0⟩ := Kd.FK_slice_open hMe112
                 have hv112_0 := hcc112 0 _ rfl
                 rw [Nat.add_zero, show ((Kd.slice 3 (Kd.int .i64))).sz = 1 from rfl, Nat.mul_one] at hv112_0
                 replace hv112_0 := Option.some.inj (hv112_0.symm.trans hx112_0)
                 injection hv112_0 with hva_ hvn_ hvc_
                 rw [hva_] at ge112_0
                 rw [hvc_] at ul112_0
                 have HL112_0 := am (show Kd.V (Kd.int .i64) 3 _ w.heap.size _ _ (rd_L3 x5_1 x10_4) from Kd.V_mk ul112_0 ge112_0)
                 clear hva_ hvn_ hvc_ ge112_0 ul112_0
                 clear hcc112 hce112
                 have HR112_0 := am hi112_0
                 have HC112_0 := am hl112_0
                 clear hi112_0 hl112_0
                 replace p112 := eq_true p112
                 replace q112 := eq_true q112
                 go_wp2_with (first | (go_at_call 166; (with_reducible refine (spec_tiFirst.calls k4 _ _ (rd_L3 x5_1 x10_4) t113 _ ?side1 ?side2 A27.out).mono ?_); (case side1 => exact aq101); (case side2 => exact HC112_0.out); rintro e w' ⟨rfl, ⟨nd, rfl⟩⟩; obtain ⟨Ao31, co31, eo31⟩ := Kd.R_slice HO_8.out; subst eo31) | (go_at_call 166; (with_reducible refine (spec_tiFirst.calls k4 _ _ x8_3 t114 _ ?side1 ?side2 A28.out).mono ?_); (case side1 => exact aq88); (case side2 => exact (Kd.R_reads' HO_8.out).2.1); rintro e w' ⟨rfl, ⟨nd, rfl⟩⟩))
                 go_roundg k4
                 case measure => have := HK1.out; have := HJ7.out; have := HK3.out; have := HK4.out; omega
                 case rel => exact ⟨(wrap64 (x10_4 + 1)), aq6, H', ⟨aq93⟩, ⟨aq21⟩, ⟨aq26⟩, ⟨aq2⟩, ⟨aq0⟩⟩
                ·rw [if_neg c29] at H
                 have c29b0 := decide_eq_false c29
                 clear c29
                 obtain ⟨y115, hy_⟩ : ∃ y_ : List (List Int), y_ = (([] : List (List Int))) := ⟨_, rfl⟩
                 replace H : (if x10_4 ≤ (x5_1.length : Int) then ((some (x5_1.take (x10_4 : Int).toNat : List (List Int))).bind fun y118 => (if y115.length + y118.length < 5864062014805 then ((some (y115 ++ y118 : List (List Int))).bind fun y123 => (if y123.length < 5864062014805 then ((some (y123 ++ [x8_3] : List (List Int))).bind fun y126 => ((some (x5_1.drop (x10_4 : Int).toNat : List (List Int))).bind fun y129 => (if y126.length + y129.length < 5864062014805 then (spec_tiStretches.l0 k4 a1 (y126 ++ y129) l0_2 (l0_2.length : Int) (wrap64 (x15_1 + 1)) a0_0 a0_1 l0_2) else (none)))) else (none))) else (none))) else (none)) = some r := aq3
                 have Ny115 := am hy_
                 clear hy_
                 have c32b0 := eq_true (of_decide_eq_true aq5 : 0 ≤ x10_4)
                 by_cases c33 : x10_4 ≤ (x5_1.length : Int)
                 ·rw [if_pos c33] at H
                  have c33b0 := eq_true c33
                  have c33b1 := decide_eq_true c33
                  clear c33
                  obtain ⟨y118, hy_⟩ : ∃ y_ : List (List Int), y_ = (x5_1.take (x10_4 : Int).toNat) := ⟨_, rfl⟩
                  replace H : (if y115.length + y118.length < 5864062014805 then ((some (y115 ++ y118 : List (List Int))).bind fun y123 => (if y123.length < 5864062014805 then ((some (y123 ++ [x8_3] : List (List Int))).bind fun y126 => ((some (x5_1.drop (x10_4 : Int).toNat : List (List Int))).bind fun y129 => (if y126.length + y129.length < 5864062014805 then (spec_tiStretches.l0 k4 a1 (y126 ++ y129) l0_2 (l0_2.length : Int) (wrap64 (x15_1 + 1)) a0_0 a0_1 l0_2) else (none)))) else (none))) else (none)) = some r := aq3
                  have Ny118 := am hy_
                  clear hy_
                  by_cases c34 : y115.length + y118.length < 5864062014805
                  ·rw [if_pos c34] at H
                   have LMc34 := am c34
                   clear c34
                   obtain ⟨y123, hy_⟩ : ∃ y_ : List (List Int), y_ = (y115 ++ y118) := ⟨_, rfl⟩
                   replace H : (if y123.length < 5864062014805 then ((some (y123 ++ [x8_3] : List (List Int))).bind fun y126 => ((some (x5_1.drop (x10_4 : Int).toNat : List (List Int))).bind fun y129 => (if y126.length + y129.length < 5864062014805 then (spec_tiStretches.l0 k4 a1 (y126 ++ y129) l0_2 (l0_2.length : Int) (wrap64 (x15_1 + 1)) a0_0 a0_1 l0_2) else (none)))) else (none)) = some r := aq3
                   have Ny123 := am hy_
                   clear hy_
                   by_cases c35 : y123.length < 5864062014805
                   ·rw [if_pos c35] at H
                    have LMc35 := am c35
                    clear c35
                    obtain ⟨y126, hy_⟩ : ∃ y_ : List (List Int), y_ = (y123 ++ [x8_3]) := ⟨_, rfl⟩
                    replace H : ((some (x5_1.drop (x10_4 : Int).toNat : List (List Int))).bind fun y129 => (if y126.length + y129.length < 5864062014805 then (spec_tiStretches.l0 k4 a1 (y126 ++ y129) l0_2 (l0_2.length : Int) (wrap64 (x15_1 + 1)) a0_0 a0_1 l0_2) else (none))) = some r := aq3
                    have Ny126 := am hy_
                    clear hy_
                    have c36b0 := eq_true (of_decide_eq_true aq5 : 0 ≤ x10_4)
                    have c37b0 := eq_true (of_decide_eq_true aq5 : x10_4 ≤ (x5_1.length : Int))
                    obtain ⟨y129, hy_⟩ : ∃ y_ : List (List Int), y_ = (x5_1.drop (x10_4 : Int).toNat) := ⟨_, rfl⟩
                    replace H : (if y126.length + y129.length < 5864062014805 then (spec_tiStretches.l0 k4 a1 (y126 ++ y129) l0_2 (l0_2.length : Int) (wrap64 (x15_1 + 1)) a0_0 a0_1 l0_2) else (none)) = some r := aq3
                    have Ny129 := am hy_
                    clear hy_
                    by_cases c38 : y126.length + y129.length < 5864062014805
                    ·rw [if_pos c38] at H
                     have LMc38 := am c38
                     clear c38
                     obtain ⟨y134, hy_⟩ : ∃ y_ : List (List Int), y_ = (y126 ++ y129) := ⟨_, rfl⟩
                     replace H : (spec_tiStretches.l0 k4 a1 y134 l0_2 (l0_2.length : Int) (wrap64 (x15_1 + 1)) a0_0 a0_1 l0_2) = some r := aq3
                     have Ny134 := am hy_
                     clear hy_
                     have H' := am H
                     clear H
                     obtain ⟨Ao39, co39, eo39⟩ := Kd.N_slice HO_5.out
                     subst eo39
                     have p112 : 0 ≤ (x10_4 : Int) := of_decide_eq_true aq5
                     have q112 : x10_4 < (x5_1.length : Int) := of_decide_eq_true aq5
                     obtain ⟨ad112, A112_0, c112_0, e112, hx112_0, hl112_0, hi112_0⟩ := at_L3 (Kd.N_reads' HO_5.out).2.2 x10_4 p112 q112
                     cases e112
                     obtain ⟨ce112, hce112, hMe112, hcc112⟩ := Kd.N_get HO_5.out [] x10_4 p112 (by first | exact q112 | exact of_decide_eq_true aq5 | (have e_ := (Kd.N_reads' HO_5.out).1; omega))
                     obtain ⟨ua112_0, uc112_0, rfl, ul112_0, ge112_0⟩ := Kd.FK_slice_open hMe112
                     have hv112_0 := hcc112 0 _ rfl
                     rw [Nat.add_zero, show ((Kd.slice 3 (Kd.int .i64))).sz = 1 from rfl, Nat.mul_one] at hv112_0
                     replace hv112_0 := Option.some.inj (hv112_0.symm.trans hx112_0)
                     injection hv112_0 with hva_ hvn_ hvc_
                     rw [hva_] at ge112_0
                     rw [hvc_] at ul112_0
                     have HL112_0 := am (show Kd.V (Kd.int .i64) 3 _ w.heap.size _ _ (rd_L3 x5_1 x10_4) from Kd.V_mk ul112_0 ge112_0)
                     clear hva_ hvn_ hvc_ ge112_0 ul112_0
                     clear hcc112 hce112
                     have HR112_0 := am hi112_0
                     have HC112_0 := am hl112_0
                     clear hi112_0 hl112_0
                     replace p112 := eq_true p112
                     replace q112 := eq_true q112
                     go_wp2_with (first | (go_at_call 166; (with_reducible refine (spec_tiFirst.calls k4 _ _ (rd_L3 x5_1 x10_4) t113 _ ?side1 ?side2 A27.out).mono ?_); (case side1 => exact aq101); (case side2 => exact HC112_0.out); rintro e w' ⟨rfl, ⟨nd, rfl⟩⟩; obtain ⟨Ao40, co40, eo40⟩ := Kd.R_slice HO_8.out; subst eo40) | (go_at_call 166; (with_reducible refine (spec_tiFirst.calls k4 _ _ x8_3 t114 _ ?side1 ?side2 A28.out).mono ?_); (case side1 => exact aq88); (case side2 => exact (Kd.R_reads' HO_8.out).2.1); rintro e w' ⟨rfl, ⟨nd, rfl⟩⟩) | ((with_reducible refine gate_dst (N := 65) rfl ?_); refine Kd.N_lit (Kd.slice 3 (Kd.int .i64)) _ 28 ?hg (N' := 65) ?hd (xs := ([] : List (List Int))) (inner := []) (ok := (fun k_ => (w.heap.size ≤ k_) ∧ some k_ ≠ (.slice (some ad112) x5_1.length co39 : Value).ownBlock ∧ some k_ ≠ (.slice Ao40 x8_3.length co40 : Value).ownBlock ∧ k_ ≠ gb101)) (okp := (fun k_ => (w.heap.size ≤ k_) ∧ some k_ ≠ (.slice (some ad112) x5_1.length co39 : Value).ownBlock ∧ some k_ ≠ (.slice Ao40 x8_3.length co40 : Value).ownBlock ∧ k_ ≠ gb101)) ?hr ?hp (fun _ hk => hk) ((show ∀ k_, wr.heap.size ≤ k_ → (fun k_ => (w.heap.size ≤ k_) ∧ some k_ ≠ (.slice (some ad112) x5_1.length co39 : Value).ownBlock ∧ some k_ ≠ (.slice Ao40 x8_3.length co40 : Value).ownBlock ∧ k_ ≠ gb101) k_ from fun k_ hk => ⟨(Nat.le_trans (below_size aq0) hk), Kd.fresh' (Kd.N_lt aq21) k_ hk, Kd.fresh' (Kd.R_lt aq26) k_ hk, Kd.freshB (g := gb101) (o := .cells #[.int .i64 a0_0, .int .i64 a0_1, .slice (some ad102) l0_2.length c0_2] 62 (0, 0)) aq2 k_ hk⟩) _ (Nat.le_refl _)) (Below.refl _ _) (Nat.le_refl _) (by simp) ?_; (case hd => rfl); (case hg => rfl); (case hr => exact aq19); (case hp => exact aq102); intro v116 w41 ho42 hb hg_ hnew_; clear hg_ hnew_; (first | rw [← Ny115.out] at ho42 | (simp only [Int.reduceToNat] at ho42; rw [← Ny115.out] at ho42)); have n0_ := am (Kd.N_elder' aq21 (Kd.N_base ho42) hb); have n1_ := am (Kd.R_below aq26 hb); have n2_ := am (Kd.V_elder' (by (with_reducible repeat (first | apply Kd.V_alloc | apply Kd.V_drewN | apply Kd.V_drew)); exact HL112_0.out) (Kd.N_base ho42) hb); have n3_ := am (Kd.N_lower ho42 (below_size aq0)); have n4_ := am (blk_below (g := gb101) (o := .cells #[.int .i64 a0_0, .int .i64 a0_1, .slice (some ad102) l0_2.length c0_2] 62 (0, 0)) aq2 hb); have n5_ := am (Kd.C_below aq58 hb); have n6_ := am (below_step aq0 hb); clear HO_5; clear HO_8; clear HL112_0; clear BK101; clear HR112_0; clear HB; have HO_5 := n0_; have HO_8 := n1_; have HL112_0 := n2_; have HO117 := n3_; have BK101 := n4_; have HR112_0 := n5_; have HB := n6_; clear n0_ n1_ n2_ n3_ n4_ n5_ n6_; clear hb ho42; have q43 : (x10_4 : Int) ≤ ((x5_1.length : Int) : Int) := of_decide_eq_true aq5; obtain ⟨i043, hi043, _, hsz43, _⟩ := info_parts info28; have hroom43 : x5_1.length ≤ co39 := (Kd.N_reads' HO_5.out).2.1; have hC43 : Kd.F (Kd.slice 3 (Kd.int .i64)) _ _ (some ad112) x5_1.length x5_1 := (Kd.V_at (base := w.heap.size) (Kd.N_V HO_5.out)).2.2; have hcut43 := cut_to (P := Tryz.prog) 40 28 .i64 Tryz.underlying40 hi043 (some ad112) x5_1.length co39 x10_4 (of_decide_eq_true aq5) q43 hroom43; have hr43 := Kd.F_take (m := (x10_4 : Int).toNat) hC43 (by omega); have hy43 : y118.length = (x10_4 : Int).toNat := (by rw [Ny118.out, List.length_take]; omega); rw [← Ny118.out] at hr43; rw [← hy43] at hcut43; have HO122 := am (show Kd.V (Kd.slice 3 (Kd.int .i64)) 28 _ w.heap.size _ (.slice (some ad112) y118.length co39) y118 from Kd.V_mk (by omega) hr43); have HC122 := am (show y118.length ≤ co39 from by omega); clear hr43 hC43 hroom43 hi043 hsz43; have KY43 := am hy43; clear hy43; replace q43 := eq_true q43) | ((with_reducible refine gate_builtin (b := .append) (xs := #[.tmp 65, .tmp 68]) rfl ?_); at_builtin; refine Kd.N_append_rows (Kd.slice 3 (Kd.int .i64)) (w0 := w) w.heap.size rfl (.tmp 65) (.tmp 68) 40 28 (.slice none 0 0) 24 rfl Tryz.underlying40 info28 rfl (by decide) (by omega) v116 y115 y118 _ _ _ (fun k_ => (w.heap.size ≤ k_) ∧ some k_ ≠ (.slice Ao40 x8_3.length co40 : Value).ownBlock ∧ k_ ≠ gb101) (fun k_ => ((fun k_ => (w.heap.size ≤ k_) ∧ some k_ ≠ (.slice Ao40 x8_3.length co40 : Value).ownBlock ∧ k_ ≠ gb101)) k_ ∧ some k_ ≠ (v116 : Value).ownBlock) rfl rfl ?aO ?aR (fun _ hk => hk) ?aF ?aB ?aS ?aL ?_; (case aR => exact (by skip; exact Kd.V_F (Kd.V_mono (ok' := (fun k_ => ((fun k_ => (w.heap.size ≤ k_) ∧ some k_ ≠ (.slice Ao40 x8_3.length co40 : Value).ownBlock ∧ k_ ≠ gb101)) k_ ∧ some k_ ≠ (v116 : Value).ownBlock)) (HO122.out) (fun k_ hk => ⟨⟨hk.1.1, ⟨hk.1.2.1, hk.1.2.2⟩⟩, hk.2⟩)))); (case aB => exact aq0); (case aF => exact aq79); (case aO => exact (by (with_reducible repeat (first | apply Kd.N_alloc | apply Kd.N_drewN | apply Kd.N_drew)); exact Kd.N_mono HO117.out (fun _ hk => ⟨hk.1, ⟨hk.2.2.1, hk.2.2.2⟩⟩))); (case aS => exact aq74); (case aL => have := LMc34.out; omega); intro v124 w44 ho hb hg hat; rw [← Ny123.out] at ho; have n0_ := am (Kd.N_afterv (ok := (fun k_ => (w.heap.size ≤ k_) ∧ some k_ ≠ (.slice Ao40 x8_3.length co40 : Value).ownBlock ∧ k_ ≠ gb101)) aq21 hg hat); have n1_ := am (Kd.R_over' aq26 (Kd.N_typed (by (with_reducible repeat (first | apply Kd.N_alloc | apply Kd.N_drewN | apply Kd.N_drew)); exact HO117.out)) (by decide) hg); have n2_ := am (blk_grown (g := gb101) (o := .cells #[.int .i64 a0_0, .int .i64 a0_1, .slice (some ad102) l0_2.length c0_2] 62 (0, 0)) aq2 hg (Kd.N_ne HO117.out BK101.out (by decide))); have n3_ := am (Kd.V_afterv (ok := (fun k_ => (w.heap.size ≤ k_) ∧ some k_ ≠ (.slice (some ad112) x5_1.length co39 : Value).ownBlock ∧ some k_ ≠ (.slice Ao40 x8_3.length co40 : Value).ownBlock ∧ k_ ≠ gb101)) (by (with_reducible repeat (first | apply Kd.V_alloc | apply Kd.V_drewN | apply Kd.V_drew)); exact Kd.V_mono HL112_0.out (fun _ hk => ⟨⟨hk.1.1.1, ⟨hk.1.2, ⟨hk.1.1.2.1, hk.1.1.2.2⟩⟩⟩, hk.2⟩)) hg hat); have n4_ := am (Kd.V_afterv (ok := (fun k_ => (w.heap.size ≤ k_) ∧ some k_ ≠ (.slice Ao40 x8_3.length co40 : Value).ownBlock ∧ k_ ≠ gb101)) (by (with_reducible repeat (first | apply Kd.V_alloc | apply Kd.V_drewN | apply Kd.V_drew)); exact HO122.out) hg hat); have n5_ := am (hb); have n6_ := am (ho); clear HO_5; clear HO_8; clear BK101; clear HL112_0; clear HO122; clear HB; clear HO117; have HO_5 := n0_; have HO_8 := n1_; have BK101 := n2_; have HL112_0 := n3_; have HO122 := n4_; have HB := n5_; have HO125 := n6_; clear n0_ n1_ n2_ n3_ n4_ n5_ n6_; clear ho hb hg hat) | ((with_reducible refine gate_builtin (b := .append) (xs := #[.tmp 69, .tmp 71]) rfl ?_); at_builtin; refine Kd.N_append (Kd.slice 3 (Kd.int .i64)) (w0 := w) w.heap.size rfl (.tmp 69) (.tmp 71) 40 28 (.slice none 0 0) 24 rfl Tryz.underlying40 info28 rfl (by decide) (by omega) v124 y123 x8_3 [.slice Ao40 x8_3.length co40] (fun k_ => (w.heap.size ≤ k_) ∧ k_ ≠ gb101) (fun k_ => ((fun k_ => (w.heap.size ≤ k_) ∧ k_ ≠ gb101)) k_ ∧ some k_ ≠ (v124 : Value).ownBlock) rfl rfl ?aP (fun _ hk => hk) ?aF ?aO ?aB ?aS ?aL ?_; (case aP => exact (Kd.FK_slice_mk (Kd.R_reads' (Kd.R_mono (ok' := (fun k_ => ((fun k_ => (w.heap.size ≤ k_) ∧ k_ ≠ gb101)) k_ ∧ some k_ ≠ (v124 : Value).ownBlock)) (Kd.R_types (Kd.R_apart' (HO_8.out) (Kd.N_typed HO125.out) (by decide)) BK101.out (by decide)) (fun k_ hk => ⟨⟨hk.1.1, hk.2⟩, hk.1.2⟩))).2.1 (Kd.R_F (Kd.R_mono (ok' := (fun k_ => ((fun k_ => (w.heap.size ≤ k_) ∧ k_ ≠ gb101)) k_ ∧ some k_ ≠ (v124 : Value).ownBlock)) (Kd.R_types (Kd.R_apart' (HO_8.out) (Kd.N_typed HO125.out) (by decide)) BK101.out (by decide)) (fun k_ hk => ⟨⟨hk.1.1, hk.2⟩, hk.1.2⟩))))); (case aB => exact aq0); (case aF => exact aq50); (case aO => exact (by (with_reducible repeat (first | apply Kd.N_alloc | apply Kd.N_drewN | apply Kd.N_drew)); exact Kd.N_mono HO125.out (fun _ hk => ⟨hk.1, hk.2.2⟩))); (case aS => exact aq74); (case aL => have := LMc35.out; omega); intro v127 w45 ho hb hg hat; rw [← Ny126.out] at ho; have n0_ := am (Kd.N_afterv (ok := (fun k_ => (w.heap.size ≤ k_) ∧ some k_ ≠ (.slice Ao40 x8_3.length co40 : Value).ownBlock ∧ k_ ≠ gb101)) aq21 hg hat); have n1_ := am (blk_grown (g := gb101) (o := .cells #[.int .i64 a0_0, .int .i64 a0_1, .slice (some ad102) l0_2.length c0_2] 62 (0, 0)) aq2 hg (Kd.N_ne HO125.out BK101.out (by decide))); have n2_ := am (Kd.V_afterv (ok := (fun k_ => (w.heap.size ≤ k_) ∧ some k_ ≠ (.slice (some ad112) x5_1.length co39 : Value).ownBlock ∧ some k_ ≠ (.slice Ao40 x8_3.length co40 : Value).ownBlock ∧ k_ ≠ gb101)) (by (with_reducible repeat (first | apply Kd.V_alloc | apply Kd.V_drewN | apply Kd.V_drew)); exact HL112_0.out) hg hat); have n3_ := am (Kd.V_afterv (ok := (fun k_ => (w.heap.size ≤ k_) ∧ some k_ ≠ (.slice Ao40 x8_3.length co40 : Value).ownBlock ∧ k_ ≠ gb101)) (by (with_reducible repeat (first | apply Kd.V_alloc | apply Kd.V_drewN | apply Kd.V_drew)); exact HO122.out) hg hat); have n4_ := am (hb); have n5_ := am (ho); clear HO_5; clear BK101; clear HL112_0; clear HO122; clear HB; clear HO125; clear HO_8; have HO_5 := n0_; have BK101 := n1_; have HL112_0 := n2_; have HO122 := n3_; have HB := n4_; have HO128 := n5_; clear n0_ n1_ n2_ n3_ n4_ n5_; clear ho hb hg hat; have q46 : (x10_4 : Int) ≤ ((x5_1.length : Int) : Int) := of_decide_eq_true aq5; obtain ⟨i046, hi046, _, hsz46, _⟩ := info_parts info28; have hroom46 : x5_1.length ≤ co39 := (Kd.N_reads' HO_5.out).2.1; have hC46 : Kd.F (Kd.slice 3 (Kd.int .i64)) _ _ (some ad112) x5_1.length x5_1 := (Kd.V_at (base := w.heap.size) (Kd.N_V HO_5.out)).2.2; have q046 : (0 : Int) ≤ (x10_4 : Int) := of_decide_eq_true aq5; have hcut46 := cut_from (P := Tryz.prog) 40 28 .i64 Tryz.underlying40 hi046 1 hsz46 (some ad112) x5_1.length co39 x10_4 q046 q46; have hr46 := Kd.F_cut (m := (x10_4 : Int).toNat) (c := co39) hC46 (by omega) hroom46; obtain ⟨A46, hA46⟩ : ∃ A1, A1 = (if co39 = (x10_4 : Int).toNat then (some ad112) else ((some ad112) : Option Addr).map (·.add ((x10_4 : Int).toNat * 1))) := ⟨_, rfl⟩; obtain ⟨c46, hc46⟩ : ∃ c1, c1 = co39 - (x10_4 : Int).toNat := ⟨_, rfl⟩; have hy46 : y129.length = x5_1.length - (x10_4 : Int).toNat := (by rw [Ny129.out, List.length_drop] <;> omega); rw [show (x5_1).drop (x10_4 : Int).toNat = y129 from Ny129.out.symm] at hr46; replace hr46 : Kd.F (Kd.slice 3 (Kd.int .i64)) _ _ A46 y129.length y129 := (by rw [hA46]; exact hr46); rw [← hy46, ← hA46, ← hc46] at hcut46; have HO133 := am (show Kd.V (Kd.slice 3 (Kd.int .i64)) 28 _ w.heap.size _ (.slice A46 y129.length c46) y129 from Kd.V_mk (by rw [hy46, hc46]; exact Nat.sub_le_sub_right hroom46 _) hr46); have HC133 := am (show y129.length ≤ c46 from by rw [hy46, hc46]; exact Nat.sub_le_sub_right hroom46 _); clear hr46 hC46 hroom46 hi046 hsz46 hc46; have KY46 := am hy46; have KA46 := am hA46; clear hy46 hA46; replace q46 := eq_true q46) | ((with_reducible refine gate_builtin (b := .append) (xs := #[.tmp 73, .tmp 76]) rfl ?_); at_builtin; refine Kd.N_append_rows (Kd.slice 3 (Kd.int .i64)) (w0 := w) w.heap.size rfl (.tmp 73) (.tmp 76) 40 28 (.slice none 0 0) 24 rfl Tryz.underlying40 info28 rfl (by decide) (by omega) v127 y126 y129 _ _ _ (fun k_ => (w.heap.size ≤ k_) ∧ k_ ≠ gb101) (fun k_ => ((fun k_ => (w.heap.size ≤ k_) ∧ k_ ≠ gb101)) k_ ∧ some k_ ≠ (v127 : Value).ownBlock) rfl rfl ?aO ?aR (fun _ hk => hk) ?aF ?aB ?aS ?aL ?_; (case aR => exact (by skip; exact Kd.V_F (Kd.V_mono (ok' := (fun k_ => ((fun k_ => (w.heap.size ≤ k_) ∧ k_ ≠ gb101)) k_ ∧ some k_ ≠ (v127 : Value).ownBlock)) (HO133.out) (fun k_ hk => ⟨⟨hk.1.1, hk.1.2.2⟩, hk.2⟩)))); (case aB => exact aq0); (case aF => exact aq50); (case aO => exact (by (with_reducible repeat (first | apply Kd.N_alloc | apply Kd.N_drewN | apply Kd.N_drew)); exact HO128.out)); (case aS => exact aq74); (case aL => have := LMc38.out; omega); intro v135 w47 ho hb hg hat; rw [← Ny134.out] at ho; have n0_ := am (Kd.N_afterv (ok := (fun k_ => (w.heap.size ≤ k_) ∧ k_ ≠ gb101)) aq91 hg hat); have n1_ := am (blk_grown (g := gb101) (o := .cells #[.int .i64 a0_0, .int .i64 a0_1, .slice (some ad102) l0_2.length c0_2] 62 (0, 0)) aq2 hg (Kd.N_ne HO128.out BK101.out (by decide))); have n2_ := am (Kd.V_afterv (ok := (fun k_ => (w.heap.size ≤ k_) ∧ some k_ ≠ (.slice (some ad112) x5_1.length co39 : Value).ownBlock ∧ k_ ≠ gb101)) (by (with_reducible repeat (first | apply Kd.V_alloc | apply Kd.V_drewN | apply Kd.V_drew)); exact Kd.V_mono HL112_0.out (fun _ hk => ⟨⟨hk.1.1, ⟨hk.1.2.1, hk.1.2.2.2⟩⟩, hk.2⟩)) hg hat); have n3_ := am (Kd.V_afterv (ok := (fun k_ => (w.heap.size ≤ k_) ∧ k_ ≠ gb101)) (by (with_reducible repeat (first | apply Kd.V_alloc | apply Kd.V_drewN | apply Kd.V_drew)); exact Kd.V_mono HO122.out (fun _ hk => ⟨⟨hk.1.1, hk.1.2.2⟩, hk.2⟩)) hg hat); have n4_ := am (Kd.V_afterv (ok := (fun k_ => (w.heap.size ≤ k_) ∧ k_ ≠ gb101)) (by (with_reducible repeat (first | apply Kd.V_alloc | apply Kd.V_drewN | apply Kd.V_drew)); exact Kd.V_mono HO133.out (fun _ hk => ⟨⟨hk.1.1, hk.1.2.2⟩, hk.2⟩)) hg hat); have n5_ := am (hb); have n6_ := am (ho); clear HO_5; clear BK101; clear HL112_0; clear HO122; clear HO133; clear HB; clear HO128; have HO_5 := n0_; have BK101 := n1_; have HL112_0 := n2_; have HO122 := n3_; have HO133 := n4_; have HB := n5_; have HO136 := n6_; clear n0_ n1_ n2_ n3_ n4_ n5_ n6_; clear ho hb hg hat))
                     go_roundg k4
                     case measure => have := HK1.out; have := HJ7.out; have := HK3.out; have := HK4.out; omega
                     case rel => exact ⟨(y134), (wrap64 (x15_1 + 1)), aq6, H', ⟨aq93⟩, ⟨by (with_reducible repeat (first | apply Kd.N_alloc | apply Kd.N_drewN | apply Kd.N_drew)); exact HO136.out⟩, ⟨aq2⟩, ⟨aq0⟩⟩
                    ·rw [if_neg c38] at H
                     exact absurd H (by simp)
                   ·rw [if_neg c35] at H
                    exact absurd H (by simp)
                  ·rw [if_neg c34] at H
                   exact absurd H (by simp)
                 ·rw [if_neg c33] at H
                  exact absurd H (by simp)
               ·rw [if_neg c26] at H
                exact absurd H (by simp)
              ·rw [if_neg c25] at H
               have c25b0 := decide_eq_false c25
               clear c25
               obtain ⟨y137, hy_⟩ : ∃ y_ : List (List Int), y_ = (([] : List (List Int))) := ⟨_, rfl⟩
               replace H : (if 0 ≤ x10_4 then (if x10_4 ≤ (x5_1.length : Int) then ((some (x5_1.take (x10_4 : Int).toNat : List (List Int))).bind fun y140 => (if y137.length + y140.length < 5864062014805 then ((some (y137 ++ y140 : List (List Int))).bind fun y145 => (if y145.length < 5864062014805 then ((some (y145 ++ [x8_3] : List (List Int))).bind fun y148 => ((some (x5_1.drop (x10_4 : Int).toNat : List (List Int))).bind fun y151 => (if y148.length + y151.length < 5864062014805 then (spec_tiStretches.l0 k4 a1 (y148 ++ y151) l0_2 (l0_2.length : Int) (wrap64 (x15_1 + 1)) a0_0 a0_1 l0_2) else (none)))) else (none))) else (none))) else (none)) else (none)) = some r := aq3
               have Ny137 := am hy_
               clear hy_
               by_cases c48 : 0 ≤ x10_4
               ·rw [if_pos c48] at H
                have c48b0 := eq_true c48
                have c48b1 := decide_eq_true c48
                clear c48
                by_cases c49 : x10_4 ≤ (x5_1.length : Int)
                ·rw [if_pos c49] at H
                 have c49b0 := eq_true c49
                 have c49b1 := decide_eq_true c49
                 clear c49
                 obtain ⟨y140, hy_⟩ : ∃ y_ : List (List Int), y_ = (x5_1.take (x10_4 : Int).toNat) := ⟨_, rfl⟩
                 replace H : (if y137.length + y140.length < 5864062014805 then ((some (y137 ++ y140 : List (List Int))).bind fun y145 => (if y145.length < 5864062014805 then ((some (y145 ++ [x8_3] : List (List Int))).bind fun y148 => ((some (x5_1.drop (x10_4 : Int).toNat : List (List Int))).bind fun y151 => (if y148.length + y151.length < 5864062014805 then (spec_tiStretches.l0 k4 a1 (y148 ++ y151) l0_2 (l0_2.length : Int) (wrap64 (x15_1 + 1)) a0_0 a0_1 l0_2) else (none)))) else (none))) else (none)) = some r := aq3
                 have Ny140 := am hy_
                 clear hy_
                 by_cases c50 : y137.length + y140.length < 5864062014805
                 ·rw [if_pos c50] at H
                  have LMc50 := am c50
                  clear c50
                  obtain ⟨y145, hy_⟩ : ∃ y_ : List (List Int), y_ = (y137 ++ y140) := ⟨_, rfl⟩
                  replace H : (if y145.length < 5864062014805 then ((some (y145 ++ [x8_3] : List (List Int))).bind fun y148 => ((some (x5_1.drop (x10_4 : Int).toNat : List (List Int))).bind fun y151 => (if y148.length + y151.length < 5864062014805 then (spec_tiStretches.l0 k4 a1 (y148 ++ y151) l0_2 (l0_2.length : Int) (wrap64 (x15_1 + 1)) a0_0 a0_1 l0_2) else (none)))) else (none)) = some r := aq3
                  have Ny145 := am hy_
                  clear hy_
                  by_cases c51 : y145.length < 5864062014805
                  ·rw [if_pos c51] at H
                   have LMc51 := am c51
                   clear c51
                   obtain ⟨y148, hy_⟩ : ∃ y_ : List (List Int), y_ = (y145 ++ [x8_3]) := ⟨_, rfl⟩
                   replace H : ((some (x5_1.drop (x10_4 : Int).toNat : List (List Int))).bind fun y151 => (if y148.length + y151.length < 5864062014805 then (spec_tiStretches.l0 k4 a1 (y148 ++ y151) l0_2 (l0_2.length : Int) (wrap64 (x15_1 + 1)) a0_0 a0_1 l0_2) else (none))) = some r := aq3
                   have Ny148 := am hy_
                   clear hy_
                   have c52b0 := eq_true (of_decide_eq_true aq5 : 0 ≤ x10_4)
                   have c53b0 := eq_true (of_decide_eq_true aq5 : x10_4 ≤ (x5_1.length : Int))
                   obtain ⟨y151, hy_⟩ : ∃ y_ : List (List Int), y_ = (x5_1.drop (x10_4 : Int).toNat) := ⟨_, rfl⟩
                   replace H : (if y148.length + y151.length < 5864062014805 then (spec_tiStretches.l0 k4 a1 (y148 ++ y151) l0_2 (l0_2.length : Int) (wrap64 (x15_1 + 1)) a0_0 a0_1 l0_2) else (none)) = some r := aq3
                   have Ny151 := am hy_
                   clear hy_
                   by_cases c54 : y148.length + y151.length < 5864062014805
                   ·rw [if_pos c54] at H
                    have LMc54 := am c54
                    clear c54
                    obtain ⟨y156, hy_⟩ : ∃ y_ : List (List Int), y_ = (y148 ++ y151) := ⟨_, rfl⟩
                    replace H : (spec_tiStretches.l0 k4 a1 y156 l0_2 (l0_2.length : Int) (wrap64 (x15_1 + 1)) a0_0 a0_1 l0_2) = some r := aq3
                    have Ny156 := am hy_
                    clear hy_
                    have H' := am H
                    clear H
                    obtain ⟨Ao55, co55, eo55⟩ := Kd.N_slice HO_5.out
                    subst eo55
                    go_wp2_with (first | ((with_reducible refine gate_dst (N := 65) rfl ?_); refine Kd.N_lit (Kd.slice 3 (Kd.int .i64)) _ 28 ?hg (N' := 65) ?hd (xs := ([] : List (List Int))) (inner := []) (ok := (fun k_ => (w.heap.size ≤ k_) ∧ some k_ ≠ (.slice Ao55 x5_1.length co55 : Value).ownBlock ∧ some k_ ≠ (u8 : Value).ownBlock ∧ k_ ≠ gb101)) (okp := (fun k_ => (w.heap.size ≤ k_) ∧ some k_ ≠ (.slice Ao55 x5_1.length co55 : Value).ownBlock ∧ some k_ ≠ (u8 : Value).ownBlock ∧ k_ ≠ gb101)) ?hr ?hp (fun _ hk => hk) ((show ∀ k_, wr.heap.size ≤ k_ → (fun k_ => (w.heap.size ≤ k_) ∧ some k_ ≠ (.slice Ao55 x5_1.length co55 : Value).ownBlock ∧ some k_ ≠ (u8 : Value).ownBlock ∧ k_ ≠ gb101) k_ from fun k_ hk => ⟨(Nat.le_trans (below_size aq0) hk), Kd.fresh' (Kd.N_lt aq21) k_ hk, Kd.fresh' (Kd.R_lt aq26) k_ hk, Kd.freshB (g := gb101) (o := .cells #[.int .i64 a0_0, .int .i64 a0_1, .slice (some ad102) l0_2.length c0_2] 62 (0, 0)) aq2 k_ hk⟩) _ (Nat.le_refl _)) (Below.refl _ _) (Nat.le_refl _) (by simp) ?_; (case hd => rfl); (case hg => rfl); (case hr => exact aq19); (case hp => exact aq102); intro v138 w56 ho57 hb hg_ hnew_; clear hg_ hnew_; (first | rw [← Ny137.out] at ho57 | (simp only [Int.reduceToNat] at ho57; rw [← Ny137.out] at ho57)); have n0_ := am (Kd.N_elder' aq21 (Kd.N_base ho57) hb); have n1_ := am (Kd.R_below aq26 hb); have n2_ := am (Kd.N_lower ho57 (below_size aq0)); have n3_ := am (blk_below (g := gb101) (o := .cells #[.int .i64 a0_0, .int .i64 a0_1, .slice (some ad102) l0_2.length c0_2] 62 (0, 0)) aq2 hb); have n4_ := am (below_step aq0 hb); clear HO_5; clear HO_8; clear BK101; clear HB; have HO_5 := n0_; have HO_8 := n1_; have HO139 := n2_; have BK101 := n3_; have HB := n4_; clear n0_ n1_ n2_ n3_ n4_; clear hb ho57; have q58 : (x10_4 : Int) ≤ ((x5_1.length : Int) : Int) := of_decide_eq_true aq5; obtain ⟨i058, hi058, _, hsz58, _⟩ := info_parts info28; have hroom58 : x5_1.length ≤ co55 := (Kd.N_reads' HO_5.out).2.1; have hC58 : Kd.F (Kd.slice 3 (Kd.int .i64)) _ _ Ao55 x5_1.length x5_1 := (Kd.V_at (base := w.heap.size) (Kd.N_V HO_5.out)).2.2; have hcut58 := cut_to (P := Tryz.prog) 40 28 .i64 Tryz.underlying40 hi058 Ao55 x5_1.length co55 x10_4 (of_decide_eq_true aq5) q58 hroom58; have hr58 := Kd.F_take (m := (x10_4 : Int).toNat) hC58 (by omega); have hy58 : y140.length = (x10_4 : Int).toNat := (by rw [Ny140.out, List.length_take]; omega); rw [← Ny140.out] at hr58; rw [← hy58] at hcut58; have HO144 := am (show Kd.V (Kd.slice 3 (Kd.int .i64)) 28 _ w.heap.size _ (.slice Ao55 y140.length co55) y140 from Kd.V_mk (by omega) hr58); have HC144 := am (show y140.length ≤ co55 from by omega); clear hr58 hC58 hroom58 hi058 hsz58; have KY58 := am hy58; clear hy58; replace q58 := eq_true q58) | ((with_reducible refine gate_builtin (b := .append) (xs := #[.tmp 65, .tmp 68]) rfl ?_); at_builtin; refine Kd.N_append_rows (Kd.slice 3 (Kd.int .i64)) (w0 := w) w.heap.size rfl (.tmp 65) (.tmp 68) 40 28 (.slice none 0 0) 24 rfl Tryz.underlying40 info28 rfl (by decide) (by omega) v138 y137 y140 _ _ _ (fun k_ => (w.heap.size ≤ k_) ∧ some k_ ≠ (u8 : Value).ownBlock ∧ k_ ≠ gb101) (fun k_ => ((fun k_ => (w.heap.size ≤ k_) ∧ some k_ ≠ (u8 : Value).ownBlock ∧ k_ ≠ gb101)) k_ ∧ some k_ ≠ (v138 : Value).ownBlock) rfl rfl ?aO ?aR (fun _ hk => hk) ?aF ?aB ?aS ?aL ?_; (case aR => exact (by skip; exact Kd.V_F (Kd.V_mono (ok' := (fun k_ => ((fun k_ => (w.heap.size ≤ k_) ∧ some k_ ≠ (u8 : Value).ownBlock ∧ k_ ≠ gb101)) k_ ∧ some k_ ≠ (v138 : Value).ownBlock)) (HO144.out) (fun k_ hk => ⟨⟨hk.1.1, ⟨hk.1.2.1, hk.1.2.2⟩⟩, hk.2⟩)))); (case aB => exact aq0); (case aF => exact aq79); (case aO => exact (by (with_reducible repeat (first | apply Kd.N_alloc | apply Kd.N_drewN | apply Kd.N_drew)); exact Kd.N_mono HO139.out (fun _ hk => ⟨hk.1, ⟨hk.2.2.1, hk.2.2.2⟩⟩))); (case aS => exact aq74); (case aL => have := LMc50.out; omega); intro v146 w59 ho hb hg hat; rw [← Ny145.out] at ho; have n0_ := am (Kd.N_afterv (ok := (fun k_ => (w.heap.size ≤ k_) ∧ some k_ ≠ (u8 : Value).ownBlock ∧ k_ ≠ gb101)) aq21 hg hat); have n1_ := am (Kd.R_over' aq26 (Kd.N_typed (by (with_reducible repeat (first | apply Kd.N_alloc | apply Kd.N_drewN | apply Kd.N_drew)); exact HO139.out)) (by decide) hg); have n2_ := am (blk_grown (g := gb101) (o := .cells #[.int .i64 a0_0, .int .i64 a0_1, .slice (some ad102) l0_2.length c0_2] 62 (0, 0)) aq2 hg (Kd.N_ne HO139.out BK101.out (by decide))); have n3_ := am (Kd.V_afterv (ok := (fun k_ => (w.heap.size ≤ k_) ∧ some k_ ≠ (u8 : Value).ownBlock ∧ k_ ≠ gb101)) (by (with_reducible repeat (first | apply Kd.V_alloc | apply Kd.V_drewN | apply Kd.V_drew)); exact HO144.out) hg hat); have n4_ := am (hb); have n5_ := am (ho); clear HO_5; clear HO_8; clear BK101; clear HO144; clear HB; clear HO139; have HO_5 := n0_; have HO_8 := n1_; have BK101 := n2_; have HO144 := n3_; have HB := n4_; have HO147 := n5_; clear n0_ n1_ n2_ n3_ n4_ n5_; clear ho hb hg hat; obtain ⟨Ao61, co61, eo61⟩ := Kd.R_slice HO_8.out; subst eo61) | ((with_reducible refine gate_builtin (b := .append) (xs := #[.tmp 69, .tmp 71]) rfl ?_); at_builtin; refine Kd.N_append (Kd.slice 3 (Kd.int .i64)) (w0 := w) w.heap.size rfl (.tmp 69) (.tmp 71) 40 28 (.slice none 0 0) 24 rfl Tryz.underlying40 info28 rfl (by decide) (by omega) v146 y145 x8_3 [.slice Ao61 x8_3.length co61] (fun k_ => (w.heap.size ≤ k_) ∧ k_ ≠ gb101) (fun k_ => ((fun k_ => (w.heap.size ≤ k_) ∧ k_ ≠ gb101)) k_ ∧ some k_ ≠ (v146 : Value).ownBlock) rfl rfl ?aP (fun _ hk => hk) ?aF ?aO ?aB ?aS ?aL ?_; (case aP => exact (Kd.FK_slice_mk (Kd.R_reads' (Kd.R_mono (ok' := (fun k_ => ((fun k_ => (w.heap.size ≤ k_) ∧ k_ ≠ gb101)) k_ ∧ some k_ ≠ (v146 : Value).ownBlock)) (Kd.R_types (Kd.R_apart' (HO_8.out) (Kd.N_typed HO147.out) (by decide)) BK101.out (by decide)) (fun k_ hk => ⟨⟨hk.1.1, hk.2⟩, hk.1.2⟩))).2.1 (Kd.R_F (Kd.R_mono (ok' := (fun k_ => ((fun k_ => (w.heap.size ≤ k_) ∧ k_ ≠ gb101)) k_ ∧ some k_ ≠ (v146 : Value).ownBlock)) (Kd.R_types (Kd.R_apart' (HO_8.out) (Kd.N_typed HO147.out) (by decide)) BK101.out (by decide)) (fun k_ hk => ⟨⟨hk.1.1, hk.2⟩, hk.1.2⟩))))); (case aB => exact aq0); (case aF => exact aq50); (case aO => exact (by (with_reducible repeat (first | apply Kd.N_alloc | apply Kd.N_drewN | apply Kd.N_drew)); exact Kd.N_mono HO147.out (fun _ hk => ⟨hk.1, hk.2.2⟩))); (case aS => exact aq74); (case aL => have := LMc51.out; omega); intro v149 w60 ho hb hg hat; rw [← Ny148.out] at ho; have n0_ := am (Kd.N_afterv (ok := (fun k_ => (w.heap.size ≤ k_) ∧ some k_ ≠ (.slice Ao61 x8_3.length co61 : Value).ownBlock ∧ k_ ≠ gb101)) aq21 hg hat); have n1_ := am (blk_grown (g := gb101) (o := .cells #[.int .i64 a0_0, .int .i64 a0_1, .slice (some ad102) l0_2.length c0_2] 62 (0, 0)) aq2 hg (Kd.N_ne HO147.out BK101.out (by decide))); have n2_ := am (Kd.V_afterv (ok := (fun k_ => (w.heap.size ≤ k_) ∧ some k_ ≠ (.slice Ao61 x8_3.length co61 : Value).ownBlock ∧ k_ ≠ gb101)) (by (with_reducible repeat (first | apply Kd.V_alloc | apply Kd.V_drewN | apply Kd.V_drew)); exact HO144.out) hg hat); have n3_ := am (hb); have n4_ := am (ho); clear HO_5; clear BK101; clear HO144; clear HB; clear HO147; clear HO_8; have HO_5 := n0_; have BK101 := n1_; have HO144 := n2_; have HB := n3_; have HO150 := n4_; clear n0_ n1_ n2_ n3_ n4_; clear ho hb hg hat; have q62 : (x10_4 : Int) ≤ ((x5_1.length : Int) : Int) := of_decide_eq_true aq5; obtain ⟨i062, hi062, _, hsz62, _⟩ := info_parts info28; have hroom62 : x5_1.length ≤ co55 := (Kd.N_reads' HO_5.out).2.1; have hC62 : Kd.F (Kd.slice 3 (Kd.int .i64)) _ _ Ao55 x5_1.length x5_1 := (Kd.V_at (base := w.heap.size) (Kd.N_V HO_5.out)).2.2; have q062 : (0 : Int) ≤ (x10_4 : Int) := of_decide_eq_true aq5; have hcut62 := cut_from (P := Tryz.prog) 40 28 .i64 Tryz.underlying40 hi062 1 hsz62 Ao55 x5_1.length co55 x10_4 q062 q62; have hr62 := Kd.F_cut (m := (x10_4 : Int).toNat) (c := co55) hC62 (by omega) hroom62; obtain ⟨A62, hA62⟩ : ∃ A1, A1 = (if co55 = (x10_4 : Int).toNat then Ao55 else (Ao55 : Option Addr).map (·.add ((x10_4 : Int).toNat * 1))) := ⟨_, rfl⟩; obtain ⟨c62, hc62⟩ : ∃ c1, c1 = co55 - (x10_4 : Int).toNat := ⟨_, rfl⟩; have hy62 : y151.length = x5_1.length - (x10_4 : Int).toNat := (by rw [Ny151.out, List.length_drop] <;> omega); rw [show (x5_1).drop (x10_4 : Int).toNat = y151 from Ny151.out.symm] at hr62; replace hr62 : Kd.F (Kd.slice 3 (Kd.int .i64)) _ _ A62 y151.length y151 := (by rw [hA62]; exact hr62); rw [← hy62, ← hA62, ← hc62] at hcut62; have HO155 := am (show Kd.V (Kd.slice 3 (Kd.int .i64)) 28 _ w.heap.size _ (.slice A62 y151.length c62) y151 from Kd.V_mk (by rw [hy62, hc62]; exact Nat.sub_le_sub_right hroom62 _) hr62); have HC155 := am (show y151.length ≤ c62 from by rw [hy62, hc62]; exact Nat.sub_le_sub_right hroom62 _); clear hr62 hC62 hroom62 hi062 hsz62 hc62; have KY62 := am hy62; have KA62 := am hA62; clear hy62 hA62; replace q62 := eq_true q62) | ((with_reducible refine gate_builtin (b := .append) (xs := #[.tmp 73, .tmp 76]) rfl ?_); at_builtin; refine Kd.N_append_rows (Kd.slice 3 (Kd.int .i64)) (w0 := w) w.heap.size rfl (.tmp 73) (.tmp 76) 40 28 (.slice none 0 0) 24 rfl Tryz.underlying40 info28 rfl (by decide) (by omega) v149 y148 y151 _ _ _ (fun k_ => (w.heap.size ≤ k_) ∧ k_ ≠ gb101) (fun k_ => ((fun k_ => (w.heap.size ≤ k_) ∧ k_ ≠ gb101)) k_ ∧ some k_ ≠ (v149 : Value).ownBlock) rfl rfl ?aO ?aR (fun _ hk => hk) ?aF ?aB ?aS ?aL ?_; (case aR => exact (by skip; exact Kd.V_F (Kd.V_mono (ok' := (fun k_ => ((fun k_ => (w.heap.size ≤ k_) ∧ k_ ≠ gb101)) k_ ∧ some k_ ≠ (v149 : Value).ownBlock)) (HO155.out) (fun k_ hk => ⟨⟨hk.1.1, hk.1.2.2⟩, hk.2⟩)))); (case aB => exact aq0); (case aF => exact aq50); (case aO => exact (by (with_reducible repeat (first | apply Kd.N_alloc | apply Kd.N_drewN | apply Kd.N_drew)); exact HO150.out)); (case aS => exact aq74); (case aL => have := LMc54.out; omega); intro v157 w63 ho hb hg hat; rw [← Ny156.out] at ho; have n0_ := am (Kd.N_afterv (ok := (fun k_ => (w.heap.size ≤ k_) ∧ k_ ≠ gb101)) aq91 hg hat); have n1_ := am (blk_grown (g := gb101) (o := .cells #[.int .i64 a0_0, .int .i64 a0_1, .slice (some ad102) l0_2.length c0_2] 62 (0, 0)) aq2 hg (Kd.N_ne HO150.out BK101.out (by decide))); have n2_ := am (Kd.V_afterv (ok := (fun k_ => (w.heap.size ≤ k_) ∧ k_ ≠ gb101)) (by (with_reducible repeat (first | apply Kd.V_alloc | apply Kd.V_drewN | apply Kd.V_drew)); exact Kd.V_mono HO144.out (fun _ hk => ⟨⟨hk.1.1, hk.1.2.2⟩, hk.2⟩)) hg hat); have n3_ := am (Kd.V_afterv (ok := (fun k_ => (w.heap.size ≤ k_) ∧ k_ ≠ gb101)) (by (with_reducible repeat (first | apply Kd.V_alloc | apply Kd.V_drewN | apply Kd.V_drew)); exact Kd.V_mono HO155.out (fun _ hk => ⟨⟨hk.1.1, hk.1.2.2⟩, hk.2⟩)) hg hat); have n4_ := am (hb); have n5_ := am (ho); clear HO_5; clear BK101; clear HO144; clear HO155; clear HB; clear HO150; have HO_5 := n0_; have BK101 := n1_; have HO144 := n2_; have HO155 := n3_; have HB := n4_; have HO158 := n5_; clear n0_ n1_ n2_ n3_ n4_ n5_; clear ho hb hg hat))
                    go_roundg k4
                    case measure => have := HK1.out; have := HJ7.out; have := HK3.out; have := HK4.out; omega
                    case rel => exact ⟨(y156), (wrap64 (x15_1 + 1)), aq6, H', ⟨aq93⟩, ⟨by (with_reducible repeat (first | apply Kd.N_alloc | apply Kd.N_drewN | apply Kd.N_drew)); exact HO158.out⟩, ⟨aq2⟩, ⟨aq0⟩⟩
                   ·rw [if_neg c54] at H
                    exact absurd H (by simp)
                  ·rw [if_neg c51] at H
                   exact absurd H (by simp)
                 ·rw [if_neg c50] at H
                  exact absurd H (by simp)
                ·rw [if_neg c49] at H
                 exact absurd H (by simp)
               ·rw [if_neg c48] at H
                exact absurd H (by simp)
     ·rw [if_neg c7] at H
      exact absurd H (by simp)
    ·rw [if_neg c6] at H
     exact absurd H (by simp)
   ·rw [if_neg c5] at H
    have c5b0 := decide_eq_false c5
    clear c5
    obtain rfl := Option.some.inj H
    go_wp2
    go_ret
    exact ⟨_, aq8, by (with_reducible repeat (first | apply Kd.N_alloc | apply Kd.N_drewN | apply Kd.N_drew)); exact Kd.N_mono HO_5.out (fun _ hk => hk.1), aq0⟩
end Go.Proofs.YtdffgeoegdkiaaaGreatDoor.F

namespace Go.Proofs.YtdffgeoegdkiaaaGreatDoor
open Go.RowKit Go.Proofs.YtdffgeoegdkiaaaGreatDoorW.PrintWords Go.Proofs.YtdffgeoegdkiaaaGreatDoorW.PrintMore Go.Proofs.YtdffgeoegdkiaaaGreatDoor.F
theorem rd_cast (l : List Nat) (i : Nat) (h : i < l.length) : rd (castsI l) (i : Int) = ((l[i]'h : Nat) : Int) := by
  unfold rd
  rw [Int.toNat_natCast, List.getD_eq_getElem?_getD, castsI_getD l i h]; rfl
theorem casts_app (a b : List Nat) : castsI (a ++ b) = castsI a ++ castsI b := by simp [castsI]
theorem casts_one (i : Nat) : castsI [i] = [((i : Nat) : Int)] := rfl
theorem least_ev (x y : Nat) : spec_l1Least.f (x : Int) (y : Int) = some ((Nat.min x y : Nat) : Int) := by
  unfold spec_l1Least.f
  by_cases h : x < y
  · rw [if_pos (by omega), show Nat.min x y = x from Nat.min_eq_left (by omega)]
  · rw [if_neg (by omega), show Nat.min x y = y from Nat.min_eq_right (by omega)]
theorem tiFirst_l0 (L : List Nat) (hL : L.length < 1000000) : ∀ (n i m : Nat), i + n = L.length → Ev (fun k => spec_tiFirst.l0 k (m : Int) (castsI L) (L.length : Int) (i : Int)) (((L.drop i).foldl Nat.min m : Nat) : Int)
  | 0, i, m, h => by
    refine Ev.step (f := fun _ => some (m : Int)) (fun k => by rw [spec_tiFirst.l0, if_neg (by omega)]) ?_
    rw [List.drop_eq_nil_of_le (by omega)]
    exact Ev.now _
  | n + 1, i, m, h => by
    have hi : i < L.length := by omega
    have hw : wrap64 ((i : Int) + 1) = ((i + 1 : Nat) : Int) := by rw [w64 (by omega) (by omega)]; rfl
    refine Ev.step (f := fun k => spec_tiFirst.l0 k ((Nat.min m (L[i]'hi) : Nat) : Int) (castsI L) (L.length : Int) ((i + 1 : Nat) : Int)) (fun k => by
      rw [spec_tiFirst.l0, if_pos (by omega), if_pos (by omega), castsI_length, if_pos (by omega), rd_cast L i hi, least_ev, Option.bind_some, hw]) ?_
    rw [List.drop_eq_getElem_cons hi, List.foldl_cons]
    exact tiFirst_l0 L hL n (i + 1) _ (by omega)
theorem tiFirst_ev {L : List Nat} (hne : L ≠ []) (hL : L.length < 1000000) : Ev (fun k => spec_tiFirst.f k (castsI L)) ((leastL L : Nat) : Int) := by
  obtain ⟨a, t, rfl⟩ : ∃ a t, L = a :: t := by cases L with | nil => exact absurd rfl hne | cons a t => exact ⟨a, t, rfl⟩
  have h0 := tiFirst_l0 (a :: t) hL (a :: t).length 0 a (by omega)
  have e : ((a :: t).drop 0).foldl Nat.min a = leastL (a :: t) := by
    rw [List.drop_zero, List.foldl_cons, show Nat.min a a = a from Nat.min_self a]; rfl
  rw [e] at h0
  refine Ev.congr (fun k => ?_) h0
  unfold spec_tiFirst.f
  rw [castsI_length, if_pos (by simp only [List.length_cons]; omega), show rd (castsI (a :: t)) 0 = (a : Int) from rfl]; rfl
theorem tyCell_eq {w h : Nat} (hw : 1 ≤ w ∧ w ≤ 7) (hh : 1 ≤ h ∧ h ≤ 7) (cs : List Int) (X Y : Int) : spec_tyCell.f w h cs X Y = some (decide ((0 ≤ X ∧ X < (w : Int)) ∧ 0 ≤ Y ∧ Y < (h : Int))) := by
  unfold spec_tyCell.f spec_l1In.f
  rw [w64 (show -9223372036854775808 ≤ (w : Int) - 1 by omega) (by omega), w64 (show -9223372036854775808 ≤ (h : Int) - 1 by omega) (by omega)]
  by_cases h1 : X ≥ 0
  · rw [if_pos h1, Option.bind_some]
    by_cases h2 : X ≤ (w : Int) - 1
    · rw [if_pos (decide_eq_true h2)]
      by_cases h3 : Y ≥ 0
      · rw [if_pos h3, Option.bind_some]
        congr 1
        rw [Bool.eq_iff_iff, decide_eq_true_iff, decide_eq_true_iff]
        omega
      · rw [if_neg h3, Option.bind_some]
        congr 1
        exact (decide_eq_false (by omega)).symm
    · rw [if_neg (by simp [h2])]
      congr 1
      exact (decide_eq_false (by omega)).symm
  · rw [if_neg h1, Option.bind_some, if_neg Bool.false_ne_true]
    congr 1
    exact (decide_eq_false (by omega)).symm
def lookI (w h : Nat) (cs : List Int) (X Y : Int) : Int := if (0 ≤ X ∧ X < (w : Int)) ∧ 0 ≤ Y ∧ Y < (h : Int) then (if openAt cs (Y.toNat * w + X.toNat) = true then ((Y.toNat * w + X.toNat : Nat) : Int) else -1) else -1
theorem look_eq {w h : Nat} (hw : 1 ≤ w ∧ w ≤ 7) (hh : 1 ≤ h ∧ h ≤ 7) {cs : List Int} (hl : cs.length = w * h) (X Y : Int) :
    ((spec_tyCell.f w h cs X Y).bind fun t => if t = true then (if 0 ≤ wrap64 (wrap64 (Y * w) + X) then (if wrap64 (wrap64 (Y * w) + X) < (cs.length : Int) then (if rd cs (wrap64 (wrap64 (Y * w) + X)) = 35 then some (-1) else some (wrap64 (wrap64 (Y * w) + X))) else none) else none) else some (-1)) = some (lookI w h cs X Y) := by
  rw [tyCell_eq hw hh, Option.bind_some]
  unfold lookI
  by_cases hc : (0 ≤ X ∧ X < (w : Int)) ∧ 0 ≤ Y ∧ Y < (h : Int)
  · rw [if_pos (decide_eq_true hc), if_pos hc]
    obtain ⟨⟨x, rfl⟩, ⟨y, rfl⟩⟩ : (∃ x : Nat, X = x) ∧ (∃ y : Nat, Y = y) := ⟨⟨X.toNat, by omega⟩, ⟨Y.toNat, by omega⟩⟩
    have hx : x < w := by omega
    have hy : y < h := by omega
    have hlt : y * w + x < w * h := (place_lt hx hy)
    have h49 : w * h ≤ 7 * 7 := Nat.mul_le_mul hw.2 hh.2
    have e1 : (y : Int) * (w : Int) = ((y * w : Nat) : Int) := by rw [Int.natCast_mul]
    have e : wrap64 (wrap64 ((y : Int) * (w : Int)) + (x : Int)) = ((y * w + x : Nat) : Int) := by
      have e0 : wrap64 ((y * w : Nat) : Int) = ((y * w : Nat) : Int) := w64 (by omega) (by omega)
      rw [e1, e0, ← Int.natCast_add]; exact w64 (by omega) (by omega)
    rw [e, if_pos (by omega), if_pos (by omega), Int.toNat_natCast, Int.toNat_natCast]
    unfold rd openAt isOpenC
    rw [Int.toNat_natCast]
    by_cases h35 : cs.getD (y * w + x) 0 = 35
    · rw [if_pos h35, h35, if_neg (by decide)]
    · rw [if_neg h35, if_pos (by simpa using h35)]
  · rw [if_neg (by simp only [decide_eq_true_eq]; exact hc), if_neg hc]
theorem tiAhead_eq {w h : Nat} (hw : 1 ≤ w ∧ w ≤ 7) (hh : 1 ≤ h ∧ h ≤ 7) {cs : List Int} (hl : cs.length = w * h) {i d : Nat} (hi : i < w * h) (hd : d < 4) : spec_tiAhead.f w h cs i d = some (aheadI w h cs i d) := by
  have h49 : w * h ≤ 7 * 7 := Nat.mul_le_mul hw.2 hh.2
  have e1 : Int.tdiv (i : Int) (w : Int) = ((i / w : Nat) : Int) := rfl
  have e2 : Int.tmod (i : Int) (w : Int) = ((i % w : Nat) : Int) := rfl
  have b1 : i / w ≤ i := Nat.div_le_self _ _
  have b2 : i % w ≤ i := Nat.mod_le _ _
  unfold spec_tiAhead.f aheadI
  rw [if_neg (by omega), e1, e2]
  generalize i / w = y at *
  generalize i % w = x at *
  rw [w64 (n := (y : Int)) (by omega) (by omega), w64 (n := (y : Int) - 1) (by omega) (by omega), w64 (n := (y : Int) + 1) (by omega) (by omega), w64 (n := (x : Int) - 1) (by omega) (by omega), w64 (n := (x : Int) + 1) (by omega) (by omega)]
  rcases dir4 hd with rfl | rfl | rfl | rfl
  · rw [if_pos (by rfl)]
    exact look_eq hw hh hl (x : Int) ((y : Int) - 1)
  · rw [if_neg (by decide), if_pos (by rfl)]
    exact look_eq hw hh hl ((x : Int) + 1) (y : Int)
  · rw [if_neg (by decide), if_neg (by decide), if_pos (by rfl)]
    exact look_eq hw hh hl (x : Int) ((y : Int) + 1)
  · rw [if_neg (by decide), if_neg (by decide), if_neg (by decide)]
    exact look_eq hw hh hl ((x : Int) - 1) (y : Int)
def nxtI (w h d : Nat) (cs : List Int) (a b : Nat) : Int := if (decide (b + 1 < lnK w h d) && openAt cs (pos w h d a (b + 1))) = true then (pos w h d a (b + 1) : Int) else -1
def restD (w h d : Nat) (cs : List Int) (a b : Nat) : List Nat := ((lineD w h d a).drop b).takeWhile (openAt cs)
theorem lineD_length (w h d a : Nat) : (lineD w h d a).length = lnK w h d := by simp [lineD]
theorem restD_end {w h d a b : Nat} {cs : List Int} (hb : lnK w h d ≤ b) : restD w h d cs a b = [] := by
  unfold restD; rw [List.drop_eq_nil_of_le (by rw [lineD_length]; exact hb)]; rfl
theorem restD_cons {w h d a b : Nat} {cs : List Int} (hb : b < lnK w h d) : restD w h d cs a b = if openAt cs (pos w h d a b) = true then pos w h d a b :: restD w h d cs a (b + 1) else [] := by
  unfold restD
  rw [List.drop_eq_getElem_cons (by rw [lineD_length]; exact hb), List.takeWhile_cons]
  have e : (lineD w h d a)[b]'(by rw [lineD_length]; exact hb) = pos w h d a b := by simp [lineD]
  rw [e]
theorem restD_length (w h d a b : Nat) (cs : List Int) : (restD w h d cs a b).length ≤ lnK w h d := by
  unfold restD
  exact Nat.le_trans (List.takeWhile_sublist _).length_le (by rw [List.length_drop, lineD_length]; omega)
theorem lnK_le {w h d : Nat} (hw : w ≤ 7) (hh : h ≤ 7) : lnK w h d ≤ 7 := by unfold lnK; split <;> omega
theorem opp_eq {d : Nat} (hd : d < 4) : Int.tmod (wrap64 ((d : Int) + 2)) 4 = (((d + 2) % 4 : Nat) : Int) := by
  rw [w64 (by omega) (by omega)]; rfl
section
variable {w h d : Nat} {cs : List Int} (hw : 1 ≤ w ∧ w ≤ 7) (hh : 1 ≤ h ∧ h ≤ 7) (hl : cs.length = w * h) (hd : d < 4)
include hw hh hl hd
theorem follow_l1 (x5 : List (List Int)) (x13 : List Int) (x14 x15 : Int) (r : List (List Int)) {a : Nat} (ha : a < lnM w h d) : ∀ (n b : Nat) (x8 : List Nat), b + n + 1 = lnK w h d → x8.length ≤ b + 1 →
    Ev (fun k => spec_tiStretches.l2 k d x5 (castsI (x8 ++ restD w h d cs a (b + 1))) 0 x13 x14 x15 w h cs) r →
    Ev (fun k => spec_tiStretches.l1 k d x5 (castsI x8) (nxtI w h d cs a b) x13 x14 x15 w h cs) r
  | 0, b, x8, hb, hx, hr => by
    have hneg : nxtI w h d cs a b = -1 := by unfold nxtI; rw [decide_eq_false (by omega), Bool.false_and, if_neg Bool.false_ne_true]
    rw [restD_end (by omega), List.append_nil] at hr
    rw [hneg]
    exact Ev.step (fun k => by rw [spec_tiStretches.l1, if_neg (by omega)]) hr
  | n + 1, b, x8, hb, hx, hr => by
    have hK := lnK_le (d := d) hw.2 hh.2
    rw [restD_cons (by omega)] at hr
    unfold nxtI
    by_cases ho : openAt cs (pos w h d a (b + 1)) = true
    · rw [if_pos ho] at hr
      rw [decide_eq_true (show b + 1 < lnK w h d by omega), ho, Bool.true_and, if_pos rfl]
      have hp := (pos_lt hd ha (show b + 1 < lnK w h d by omega)).2.2
      have hA := tiAhead_eq hw hh hl hp (d := (d + 2) % 4) (by omega)
      rw [back_pos hd ha (show b + 1 < lnK w h d by omega)] at hA
      refine Ev.step (fun k => ?_) (follow_l1 x5 x13 x14 x15 r ha n (b + 1) (x8 ++ [pos w h d a (b + 1)]) (by omega) (by rw [List.length_append]; simp; omega) (by rw [List.append_assoc]; exact hr))
      rw [spec_tiStretches.l1, if_pos (by omega), if_pos (by rw [castsI_length]; omega), opp_eq hd, hA, Option.bind_some, casts_app, casts_one]; rfl
    · rw [if_neg ho, List.append_nil] at hr
      rw [show openAt cs (pos w h d a (b + 1)) = false by simpa using ho, Bool.and_false, if_neg Bool.false_ne_true]
      exact Ev.step (fun k => by rw [spec_tiStretches.l1, if_neg (by omega)]) hr
end
theorem rows_at (L : List (List Nat)) (i : Nat) (h : i < L.length) : rd_L3 (L.map castsI) (i : Int) = castsI (L[i]'h) := by
  unfold rd_L3
  rw [Int.toNat_natCast, List.getD_eq_getElem?_getD, List.getElem?_map, List.getElem?_eq_getElem h]; rfl
theorem place_l2 {w h d : Nat} {cs : List Int} (x13 : List Int) (x14 x15 : Int) (r : List (List Int)) (st : List Nat) (hne : st ≠ []) (hst : st.length < 1000000) : ∀ (rest pre : List (List Nat)), pre.length + rest.length < 1000000 → (∀ y ∈ rest, y ≠ [] ∧ y.length < 1000000) →
    Ev (fun k => spec_tiStretches.l0 k d ((pre ++ insK st rest).map castsI) x13 x14 (wrap64 (x15 + 1)) w h cs) r →
    Ev (fun k => spec_tiStretches.l2 k d ((pre ++ rest).map castsI) (castsI st) (pre.length : Int) x13 x14 x15 w h cs) r
  | [], pre, hlen, _, hr => by
    refine Ev.step (fun k => ?_) hr
    have e1 : ((pre ++ []).map castsI).take ((pre.length : Int)).toNat = pre.map castsI := by rw [List.append_nil, Int.toNat_natCast, List.take_of_length_le (by simp)]
    have e2 : ((pre ++ []).map castsI).drop ((pre.length : Int)).toNat = [] := by rw [List.append_nil, Int.toNat_natCast, List.drop_eq_nil_of_le (by simp)]
    simp only [List.length_nil, Nat.add_zero] at hlen
    rw [spec_tiStretches.l2, if_neg (by simp), Option.bind_some, if_pos (by omega), if_pos (by simp), e1, e2, Option.bind_some, if_pos (by simp; omega), Option.bind_some, if_pos (by simp; omega), Option.bind_some, Option.bind_some, if_pos (by simp; omega)]
    simp [insK]
  | y :: ys, pre, hlen, hall, hr => by
    have hL : ((pre ++ y :: ys).map castsI).length = pre.length + ys.length + 1 := by simp; omega
    simp only [List.length_cons] at hlen
    have hy := hall y List.mem_cons_self
    have hrow : rd_L3 ((pre ++ y :: ys).map castsI) (pre.length : Int) = castsI y := by
      rw [rows_at _ _ (by simp)]
      congr 1
      simp
    have hstep : ∀ k, spec_tiStretches.l2 (k + 1) d ((pre ++ y :: ys).map castsI) (castsI st) (pre.length : Int) x13 x14 x15 w h cs =
        (spec_tiFirst.f k (castsI y)).bind fun t113 => (spec_tiFirst.f k (castsI st)).bind fun t114 => if t113 < t114 then spec_tiStretches.l2 k d ((pre ++ y :: ys).map castsI) (castsI st) ((pre.length + 1 : Nat) : Int) x13 x14 x15 w h cs else spec_tiStretches.l0 k d ((pre ++ (st :: y :: ys)).map castsI) x13 x14 (wrap64 (x15 + 1)) w h cs := by
      intro k
      have e1 : ((pre ++ y :: ys).map castsI).take ((pre.length : Int)).toNat = pre.map castsI := by rw [Int.toNat_natCast, List.map_append, List.take_left' (by simp)]
      have e2 : ((pre ++ y :: ys).map castsI).drop ((pre.length : Int)).toNat = (y :: ys).map castsI := by rw [Int.toNat_natCast, List.map_append, List.drop_left' (by simp)]
      rw [spec_tiStretches.l2, if_pos (by omega), if_pos (by omega), hrow]
      congr 1
      funext t113
      congr 1
      funext t114
      by_cases ht : t113 < t114
      · rw [if_pos ht, if_pos ht, w64 (by omega) (by omega)]; rfl
      · rw [if_neg ht, if_neg ht, Option.bind_some, if_pos (by omega), e1, e2, Option.bind_some, if_pos (by simp; omega), Option.bind_some, if_pos (by simp; omega), Option.bind_some, Option.bind_some, if_pos (by simp; omega)]
        simp
    refine Ev.step hstep (Ev.bind (tiFirst_ev hy.1 hy.2) (Ev.bind (tiFirst_ev hne hst) ?_))
    unfold insK at hr
    by_cases hlt : leastL y < leastL st
    · rw [if_pos hlt] at hr
      refine Ev.congr (fun k => if_pos (by omega)) ?_
      have := place_l2 x13 x14 x15 r st hne hst ys (pre ++ [y]) (by simp; omega) (fun z hz => hall z (List.mem_cons_of_mem _ hz)) (by rw [List.append_assoc]; exact hr)
      rw [List.append_assoc, List.length_append] at this
      exact this
    · rw [if_neg hlt] at hr
      exact Ev.congr (fun k => if_neg (by omega)) hr
theorem tail_head {w h d i : Nat} {cs : List Int} (hd : d < 4) (hi : i < w * h) (ho : openAt cs i = true) : tailD w h d cs i = i :: restD w h d cs (lnA w d i) (lnB w h d i + 1) := by
  obtain ⟨h1, h2, h3⟩ := inv_pos hd hi
  show restD w h d cs (lnA w d i) (lnB w h d i) = _
  rw [restD_cons h2, h3, if_pos ho]
section
variable {w h d : Nat} {cs : List Int} (hw : 1 ≤ w ∧ w ≤ 7) (hh : 1 ≤ h ∧ h ≤ 7) (hl : cs.length = w * h) (hd : d < 4)
include hw hh hl hd
theorem cells_l0 : ∀ (n i : Nat) (out : List (List Nat)), i + n = w * h → out.length ≤ i → (∀ y ∈ out, y ≠ [] ∧ y.length < 1000000) →
    Ev (fun k => spec_tiStretches.l0 k d (out.map castsI) cs (cs.length : Int) i w h cs) (((((List.range' i n).filter (endD w h d cs)).map (tailD w h d cs)).foldl (fun o x => insK x o) out).map castsI)
  | 0, i, out, hi, ho, hall => Ev.step (fun k => by rw [spec_tiStretches.l0, if_neg (by omega)]; rfl) (Ev.now _)
  | n + 1, i, out, hi, ho, hall => by
    have h49 : w * h ≤ 7 * 7 := Nat.mul_le_mul hw.2 hh.2
    have hil : i < w * h := by omega
    have hK := lnK_le (d := d) hw.2 hh.2
    obtain ⟨q1, q2, q3⟩ := inv_pos hd hil
    have HWR : Aside0 (wrap64 ((i : Int) + 1) = ((i + 1 : Nat) : Int)) := ⟨by rw [w64 (by omega) (by omega)]; rfl⟩
    have hrd : rd cs (i : Int) = cs.getD i 0 := by unfold rd; rw [Int.toNat_natCast]
    have hend := end_ahead hd hil cs
    have hA := tiAhead_eq hw hh hl hil hd
    have hB := tiAhead_eq hw hh hl hil (d := (d + 2) % 4) (by omega)
    have hback := back_pos hd q1 q2 cs
    rw [q3] at hback
    rw [hback] at hB
    have hskip : endD w h d cs i = false → Ev (fun k => spec_tiStretches.l0 k d (out.map castsI) cs (cs.length : Int) ((i + 1 : Nat) : Int) w h cs) (((((List.range' i (n + 1)).filter (endD w h d cs)).map (tailD w h d cs)).foldl (fun o x => insK x o) out).map castsI) := fun he => by
      rw [List.range'_succ, List.filter_cons, he, if_neg Bool.false_ne_true]
      exact cells_l0 n (i + 1) out (by omega) (by omega) hall
    by_cases h35 : cs.getD i 0 = 35
    · have hop : openAt cs i = false := by unfold openAt isOpenC; rw [h35]; rfl
      have he : endD w h d cs i = false := by rw [hend, hop, Bool.false_and]
      refine Ev.step (f := fun k => spec_tiStretches.j1 k d (out.map castsI) i cs (cs.length : Int) i true w h cs) (fun k => by rw [spec_tiStretches.l0, if_pos (by omega), if_pos (by omega), if_pos (by omega), hrd, if_pos h35]) ?_
      exact Ev.step (fun k => by rw [spec_tiStretches.j1, if_pos rfl, HWR.out]) (hskip he)
    · have hop : openAt cs i = true := by unfold openAt isOpenC; simpa using h35
      rw [hop, Bool.true_and] at hend
      refine Ev.step (f := fun k => spec_tiStretches.j1 k d (out.map castsI) i cs (cs.length : Int) i (decide (aheadI w h cs i d ≥ 0)) w h cs) (fun k => by rw [spec_tiStretches.l0, if_pos (by omega), if_pos (by omega), if_pos (by omega), hrd, if_neg h35, hA, Option.bind_some]) ?_
      by_cases hah : aheadI w h cs i d ≥ 0
      · have he : endD w h d cs i = false := by rw [hend]; exact decide_eq_false (by omega)
        rw [decide_eq_true hah]
        exact Ev.step (fun k => by rw [spec_tiStretches.j1, if_pos rfl, HWR.out]) (hskip he)
      · have he : endD w h d cs i = true := by rw [hend]; exact decide_eq_true (by omega)
        rw [decide_eq_false hah]
        refine Ev.step (f := fun k => spec_tiStretches.l1 k d (out.map castsI) (castsI [i]) (nxtI w h d cs (lnA w d i) (lnB w h d i)) cs (cs.length : Int) i w h cs) (fun k => by
          rw [spec_tiStretches.j1, if_neg Bool.false_ne_true, opp_eq hd, hB, Option.bind_some]; rfl) ?_
        refine follow_l1 hw hh hl hd (out.map castsI) cs (cs.length : Int) i _ q1 (lnK w h d - 1 - lnB w h d i) (lnB w h d i) [i] (by omega) (by simp) ?_
        have ht := tail_head hd hil hop
        rw [show [i] ++ restD w h d cs (lnA w d i) (lnB w h d i + 1) = tailD w h d cs i from ht.symm]
        have htl : (tailD w h d cs i).length < 1000000 := by
          have := restD_length w h d (lnA w d i) (lnB w h d i + 1) cs
          rw [ht, List.length_cons]; omega
        have htn : tailD w h d cs i ≠ [] := by rw [ht]; exact List.cons_ne_nil _ _
        refine place_l2 (d := d) cs (cs.length : Int) i _ (tailD w h d cs i) htn htl out [] (by simp; omega) hall ?_
        rw [List.nil_append, HWR.out, List.range'_succ, List.filter_cons, he, if_pos rfl, List.map_cons, List.foldl_cons]
        have hp := insK_perm (tailD w h d cs i) out
        refine cells_l0 n (i + 1) (insK (tailD w h d cs i) out) (by omega) (by rw [hp.length_eq, List.length_cons]; omega) (fun y hy => ?_)
        rcases List.mem_cons.1 (hp.mem_iff.1 hy) with rfl | hy
        · exact ⟨htn, htl⟩
        · exact hall y hy
theorem tiStretches_ev : Ev (fun k => spec_tiStretches.f k w h cs d) ((strD w h d cs).map castsI) := by
  have h0 := cells_l0 hw hh hl hd (w * h) 0 [] (by omega) (by simp) (fun y hy => by cases hy)
  rw [← List.range_eq_range'] at h0
  exact h0
end
end Go.Proofs.YtdffgeoegdkiaaaGreatDoor

namespace Go.Proofs.YtdffgeoegdkiaaaGreatDoor.F
open Go.Proofs.YtdffgeoegdkiaaaGreatDoor
open Go.RowKit Go.Proofs.YtdffgeoegdkiaaaGreatDoorW.PrintWords Go.Proofs.YtdffgeoegdkiaaaGreatDoorW.PrintLast Go.Proofs.YtdffgeoegdkiaaaGreatDoorW.PrintMore
attribute [local go_sem] max2_int min2_int max_two min_two max_three min_three max_four min_four
def spec_tyIs.f (a0 : Int) : Option (Bool) := if a0 = 35 then (some true) else (if a0 = 46 then (some true) else ((spec_tyBall.f a0).bind fun t101 => (some t101)))
set_option maxHeartbeats 8000000 in
set_option maxRecDepth 100000 in
theorem spec_tyIs.calls (a0 : Int) (r : Bool) (w : World) (h : spec_tyIs.f a0 = some r) :
  Calls Tryz.prog 97 #[.int .u8 a0] w fun e w' => e = .returned (.bool r) ∧ Drawn0 w w' := by
 have H : (if a0 = 35 then (some true) else (if a0 = 46 then (some true) else ((spec_tyBall.f a0).bind fun t101 => (some t101)))) = some r := h
 clear h
 by_cases c2 : a0 = 35
 ·rw [if_pos c2] at H
  have c2b0 := beq_iff_eq.mpr c2
  have c2b1 := bne_eq_false_iff_eq.mpr c2
  clear c2
  obtain rfl := Option.some.inj H
  go_enter Tryz.func97, Tryz.ntmps97
  go_wp2
  go_ret
  exact ⟨aq6, aq14⟩
 ·rw [if_neg c2] at H
  have c2b0 := beq_eq_false_iff_ne.mpr c2
  have c2b1 := bne_iff_ne.mpr c2
  by_cases c3 : a0 = 46
  ·rw [if_pos c3] at H
   have c3b0 := beq_iff_eq.mpr c3
   have c3b1 := bne_eq_false_iff_eq.mpr c3
   clear c3
   obtain rfl := Option.some.inj H
   go_enter Tryz.func97, Tryz.ntmps97
   go_wp2
   go_ret
   exact ⟨aq6, aq14⟩
  ·rw [if_neg c3] at H
   have c3b0 := beq_eq_false_iff_ne.mpr c3
   have c3b1 := bne_iff_ne.mpr c3
   obtain ⟨t101, A40, H⟩ := Option.bind_eq_some_iff.mp H
   have A4 := am A40
   clear A40
   obtain rfl := Option.some.inj H
   go_enter Tryz.func97, Tryz.ntmps97
   go_wp2_with (first | (go_at_call 100; (with_reducible refine (spec_tyBall.calls a0 t101 _ A4.out).mono ?_); rintro e w' ⟨rfl, ⟨nd, rfl⟩⟩))
   go_ret
   exact ⟨aq6, aq14⟩
mutual
def spec_tyRead.l0 : Nat → ByteArray → Int → Int → Int → Int → List Int → Option (Int × Int × List Int × Bool)
 | 0, _, _, _, _, _, _ => none
 | k + 1, x0, x5, x6, x103000, x103001, x103002 => if x6 ≤ (x0.size : Int) then (if x6 < (x0.size : Int) then (if 0 ≤ x6 then (spec_tyRead.j1 k x0 x5 x6 ((bt x0 x6) != 47) x103000 x103001 x103002) else (none)) else (spec_tyRead.j1 k x0 x5 x6 false x103000 x103001 x103002)) else (if x103000 > 7 then (spec_tyRead.j2 k true x103000 x103001 x103002) else (if x103001 > 7 then (spec_tyRead.j2 k true x103000 x103001 x103002) else (spec_tyRead.j2 k (decide ((x103002.length : Int) > 36)) x103000 x103001 x103002)))
def spec_tyRead.j1 : Nat → ByteArray → Int → Int → Bool → Int → Int → List Int → Option (Int × Int × List Int × Bool)
 | 0, _, _, _, _, _, _, _ => none
 | k + 1, x0, x5, x6, x31, x103000, x103001, x103002 => if x31 = true then (if 0 ≤ x6 then (if x6 < (x0.size : Int) then ((spec_tyIs.f (bt x0 x6)).bind fun t103 => (if t103 = true then (if x103002.length < 140737488355328 then (spec_tyRead.l0 k x0 (wrap64 (x5 + 1)) (wrap64 (x6 + 1)) x103000 x103001 (x103002 ++ [bt x0 x6])) else (none)) else (some (0, 0, ([] : List Int), false)))) else (none)) else (none)) else (if x103001 > 0 then (if x5 = x103000 then (if x5 = 0 then (some (0, 0, ([] : List Int), false)) else (spec_tyRead.l0 k x0 0 (wrap64 (x6 + 1)) x5 (wrap64 (x103001 + 1)) x103002)) else (some (0, 0, ([] : List Int), false))) else (if x5 = 0 then (some (0, 0, ([] : List Int), false)) else (spec_tyRead.l0 k x0 0 (wrap64 (x6 + 1)) x5 (wrap64 (x103001 + 1)) x103002)))
def spec_tyRead.j2 : Nat → Bool → Int → Int → List Int → Option (Int × Int × List Int × Bool)
 | 0, _, _, _, _ => none
 | k + 1, x81, x103000, x103001, x103002 => if x81 = true then (some (0, 0, ([] : List Int), false)) else (spec_tyRead.l1 k x103002 (x103002.length : Int) 0 x103000 x103001 x103002)
def spec_tyRead.l1 : Nat → List Int → Int → Int → Int → Int → List Int → Option (Int × Int × List Int × Bool)
 | 0, _, _, _, _, _, _ => none
 | k + 1, x84, x85, x86, x103000, x103001, x103002 => if x86 < x85 then (if 0 ≤ x86 then (if x86 < (x84.length : Int) then (if x86 ≤ (x103002.length : Int) then ((some (x103002.take (x86 : Int).toNat : List Int)).bind fun y108 => (spec_tyRead.l2 k (rd x84 x86) x84 x85 x86 y108 (y108.length : Int) 0 x103000 x103001 x103002)) else (none)) else (none)) else (none)) else (some (x103000, x103001, x103002, true))
def spec_tyRead.l2 : Nat → Int → List Int → Int → Int → List Int → Int → Int → Int → Int → List Int → Option (Int × Int × List Int × Bool)
 | 0, _, _, _, _, _, _, _, _, _, _ => none
 | k + 1, x8, x84, x85, x86, x94, x95, x96, x103000, x103001, x103002 => if x96 < x95 then (if 0 ≤ x96 then (if x96 < (x94.length : Int) then (if x8 = (rd x94 x96) then (if x8 ≥ 97 then (if x8 ≤ 102 then (some (0, 0, ([] : List Int), false)) else (spec_tyRead.l2 k x8 x84 x85 x86 x94 x95 (wrap64 (x96 + 1)) x103000 x103001 x103002)) else (spec_tyRead.l2 k x8 x84 x85 x86 x94 x95 (wrap64 (x96 + 1)) x103000 x103001 x103002)) else (spec_tyRead.l2 k x8 x84 x85 x86 x94 x95 (wrap64 (x96 + 1)) x103000 x103001 x103002)) else (none)) else (none)) else (spec_tyRead.l1 k x84 x85 (wrap64 (x86 + 1)) x103000 x103001 x103002)
end
def spec_tyRead.f (k : Nat) (a0 : ByteArray) : Option (Int × Int × List Int × Bool) := if (a0.size : Int) > 42 then (some (0, 0, ([] : List Int), false)) else (spec_tyRead.l0 k a0 0 0 0 0 ([] : List Int))
theorem spec_tyRead.mono_l : ∀ k, (∀ y0 y1 y2 y3 y4 y5, LeO (spec_tyRead.l0 k y0 y1 y2 y3 y4 y5) (spec_tyRead.l0 (k + 1) y0 y1 y2 y3 y4 y5)) ∧ (∀ y0 y1 y2 y3 y4 y5 y6, LeO (spec_tyRead.j1 k y0 y1 y2 y3 y4 y5 y6) (spec_tyRead.j1 (k + 1) y0 y1 y2 y3 y4 y5 y6)) ∧ (∀ y0 y1 y2 y3, LeO (spec_tyRead.j2 k y0 y1 y2 y3) (spec_tyRead.j2 (k + 1) y0 y1 y2 y3)) ∧ (∀ y0 y1 y2 y3 y4 y5, LeO (spec_tyRead.l1 k y0 y1 y2 y3 y4 y5) (spec_tyRead.l1 (k + 1) y0 y1 y2 y3 y4 y5)) ∧ (∀ y0 y1 y2 y3 y4 y5 y6 y7 y8 y9, LeO (spec_tyRead.l2 k y0 y1 y2 y3 y4 y5 y6 y7 y8 y9) (spec_tyRead.l2 (k + 1) y0 y1 y2 y3 y4 y5 y6 y7 y8 y9))
 | 0 => ⟨fun _ _ _ _ _ _ r h => by simp [spec_tyRead.l0] at h, fun _ _ _ _ _ _ _ r h => by simp [spec_tyRead.j1] at h, fun _ _ _ _ r h => by simp [spec_tyRead.j2] at h, fun _ _ _ _ _ _ r h => by simp [spec_tyRead.l1] at h, fun _ _ _ _ _ _ _ _ _ _ r h => by simp [spec_tyRead.l2] at h⟩
 | k + 1 => by
  obtain ⟨ih0, ih1, ih2, ih3, ih4⟩ := spec_tyRead.mono_l k
  refine ⟨?_, ?_, ?_, ?_, ?_⟩
  ·intro y0 y1 y2 y3 y4 y5
   unfold spec_tyRead.l0
   exact mo
  ·intro y0 y1 y2 y3 y4 y5 y6
   unfold spec_tyRead.j1
   exact mo
  ·intro y0 y1 y2 y3
   unfold spec_tyRead.j2
   exact mo
  ·intro y0 y1 y2 y3 y4 y5
   unfold spec_tyRead.l1
   exact mo
  ·intro y0 y1 y2 y3 y4 y5 y6 y7 y8 y9
   unfold spec_tyRead.l2
   exact mo
theorem spec_tyRead.mono : ∀ a0 k, LeO (spec_tyRead.f k a0) (spec_tyRead.f (k + 1) a0) := by
 intro a0 k
 obtain ⟨ih0, ih1, ih2, ih3, ih4⟩ := spec_tyRead.mono_l k
 unfold spec_tyRead.f
 exact mo
def spec_tyRead.T11 : Bool × List (List Nat × List Nat) := (true, [([], []), ([0], [0]), ([], []), ([], []), ([2, 3], [2, 3]), ([4], [4]), ([1, 5], [1, 5]), ([0, 1, 2, 3, 4, 5, 6], []), ([7, 6, 6, 0, 1, 2, 3, 4, 5, 6], [6, 7])])
def spec_tyRead.B11 : List Nat := [0, 1, 0, 0, 12, 28, 63, 127, 255]
theorem spec_tyRead.tab11 : rtab .any (opsOf Tryz.f51 11) = spec_tyRead.T11 := by kernel_rfl
theorem spec_tyRead.bits11 : waitsOk spec_tyRead.T11.2 spec_tyRead.B11 = true := by kernel_rfl
set_option maxHeartbeats 8000000 in
set_option maxRecDepth 100000 in
theorem spec_tyRead.calls (k : Nat) (a0 : ByteArray) (r1 : Int) (r2 : Int) (r3 : List Int) (r4 : Bool) (w : World) (h : spec_tyRead.f k a0 = some (r1, r2, r3, r4)) :
  Calls Tryz.prog 51 #[.string a0] w fun e w' => ∃ v2_ : Value, e = .returned (.tuple #[.agg #[.int .i64 r1, .int .i64 r2, v2_], .bool r4]) ∧ Kd.R (Kd.int .u8) 5 w' w.heap.size (fun _ => True) v2_ r3 ∧ Below w.heap.size w w' := by
 have hu62 := Tryz.underlying62
 have HB := am (Below.refl w.heap.size w)
 have H : (if (a0.size : Int) > 42 then (some (0, 0, ([] : List Int), false)) else (spec_tyRead.l0 k a0 0 0 0 0 ([] : List Int))) = some (r1, r2, r3, r4) := h
 clear h
 by_cases c2 : (a0.size : Int) > 42
 ·rw [if_pos c2] at H
  have c2b0 := decide_eq_true c2
  have c2b1 : decide (42 < a0.size) = true := decide_eq_true (by omega)
  clear c2
  simp only [Option.some.injEq, Prod.mk.injEq] at H
  obtain ⟨rfl, rfl, rfl, rfl⟩ := H
  go_enter Tryz.func51, Tryz.ntmps51
  go_wp2_with (first | ((with_reducible refine gate_dst (N := 2) rfl ?_); (try (refine gate_guard (by rfl) ?_; dsimp only)); refine box_event ?hg (N := 2) ?hd (cs := #[.int .i64 0, .int .i64 0, .slice none 0 0]) (t := 62) ?hr ?_; (case hd => rfl); (case hg => rfl); (case hr => exact aq19); intro gb101 hg w3 hbox hb; have n0_ := am (below_step aq1 hb); have n1_ := am (hbox); have n2_ := am ((by rw [hg]; exact (below_size aq1) : w.heap.size ≤ gb101)); have n3_ := am ((by rw [hg]; exact (below_size aq1) : w.heap.size ≤ gb101)); clear HB; have HB := n0_; have BK101 := n1_; have GW101 := n2_; have GE101 := n3_; clear n0_ n1_ n2_ n3_; clear hb hbox hg) | ((with_reducible refine gate_dst (N := 4) rfl ?_); (try (refine gate_guard (by rfl) ?_; dsimp only)); refine box_event ?hg (N := 4) ?hd (cs := #[.int .i64 0, .int .i64 0, .slice none 0 0]) (t := 62) ?hr ?_; (case hd => rfl); (case hg => rfl); (case hr => exact aq19); intro gb102 hg w4 hbox hb; have n0_ := am (blk_below (g := gb101) (o := .cells #[.int .i64 0, .int .i64 0, .slice none 0 0] 62 (0, 0)) aq2 hb); have n1_ := am (below_step aq0 hb); have n2_ := am (hbox); have n3_ := am ((by rw [hg]; exact (below_size aq0) : w.heap.size ≤ gb102)); have n4_ := am ((by rw [hg]; exact (below_size aq0) : w.heap.size ≤ gb102)); have n5_ := am ((by rw [hg]; exact Nat.ne_of_lt (blk_lt (g := gb101) (o := .cells #[.int .i64 0, .int .i64 0, .slice none 0 0] 62 (0, 0)) aq2) : gb101 ≠ gb102)); have n6_ := am ((by rw [hg]; exact Nat.ne_of_gt (blk_lt (g := gb101) (o := .cells #[.int .i64 0, .int .i64 0, .slice none 0 0] 62 (0, 0)) aq2) : gb102 ≠ gb101)); clear BK101; clear HB; have BK101 := n0_; have HB := n1_; have BK102 := n2_; have GW102 := n3_; have GE102 := n4_; have NB101_102 := n5_; have NB102_101 := n6_; clear n0_ n1_ n2_ n3_ n4_ n5_ n6_; clear hb hbox hg; have hnb5 := NB102_101.out; have hnc5 := NB101_102.out; obtain ⟨hcz6_0, hcz6_1, hcz6_2, hfz6_0, hfz6_1, hfz6_2⟩ := blk3_ BK102.out; obtain ⟨hcz7_0, hcz7_1, hcz7_2, hfz7_0, hfz7_1, hfz7_2⟩ := blk3_ BK101.out))
  refine bodyPost_ret (results_ct rfl _ _ gb101 62 #[.int .i64 0, .int .i64 0, .slice none 0 0] (0, 0) _ rfl (by (with_reducible repeat (first | refine blk_drewN ?_ _ | refine blk_drew ?_ | refine blk_alloc ?_ _)); refine blk_put (cs := #[.int .i64 0, .int .i64 0, .slice none 0 0]) ?_ 2 _ rfl; (with_reducible repeat (first | refine blk_drewN ?_ _ | refine blk_drew ?_ | refine blk_alloc ?_ _)); refine blk_put (cs := #[.int .i64 0, .int .i64 0, .slice none 0 0]) ?_ 1 _ rfl; (with_reducible repeat (first | refine blk_drewN ?_ _ | refine blk_drew ?_ | refine blk_alloc ?_ _)); refine blk_put (cs := #[.int .i64 0, .int .i64 0, .slice none 0 0]) ?_ 0 _ rfl; (with_reducible repeat (first | refine blk_drewN ?_ _ | refine blk_drew ?_ | refine blk_alloc ?_ _)); refine blk_far ?_ NB101_102.out _; (with_reducible repeat (first | refine blk_drewN ?_ _ | refine blk_drew ?_ | refine blk_alloc ?_ _)); refine blk_far ?_ NB101_102.out _; (with_reducible repeat (first | refine blk_drewN ?_ _ | refine blk_drew ?_ | refine blk_alloc ?_ _)); refine blk_far ?_ NB101_102.out _; (with_reducible repeat (first | refine blk_drewN ?_ _ | refine blk_drew ?_ | refine blk_alloc ?_ _)); exact BK101.out) Tryz.underlying62 rfl (by kernel_rfl)) rfl ?_
  exact ⟨_, aq8, aq17, aq7⟩
 ·rw [if_neg c2] at H
  have c2b0 := decide_eq_false c2
  have c2b1 : decide (42 < a0.size) = false := decide_eq_false (by omega)
  clear c2
  have H' := am H
  clear H
  go_enter Tryz.func51, Tryz.ntmps51
  go_wp2_with (first | ((with_reducible refine gate_dst (N := 2) rfl ?_); (try (refine gate_guard (by rfl) ?_; dsimp only)); refine box_event ?hg (N := 2) ?hd (cs := #[.int .i64 0, .int .i64 0, .slice none 0 0]) (t := 62) ?hr ?_; (case hd => rfl); (case hg => rfl); (case hr => exact aq19); intro gb101 hg w8 hbox hb; have n0_ := am (below_step aq1 hb); have n1_ := am (hbox); have n2_ := am ((by rw [hg]; exact (below_size aq1) : w.heap.size ≤ gb101)); have n3_ := am ((by rw [hg]; exact (below_size aq1) : w.heap.size ≤ gb101)); clear HB; have HB := n0_; have BK101 := n1_; have GW101 := n2_; have GE101 := n3_; clear n0_ n1_ n2_ n3_; clear hb hbox hg) | ((with_reducible refine gate_dst (N := 4) rfl ?_); (try (refine gate_guard (by rfl) ?_; dsimp only)); refine box_event ?hg (N := 4) ?hd (cs := #[.int .i64 0, .int .i64 0, .slice none 0 0]) (t := 62) ?hr ?_; (case hd => rfl); (case hg => rfl); (case hr => exact aq19); intro gb102 hg w9 hbox hb; have n0_ := am (blk_below (g := gb101) (o := .cells #[.int .i64 0, .int .i64 0, .slice none 0 0] 62 (0, 0)) aq2 hb); have n1_ := am (below_step aq0 hb); have n2_ := am (hbox); have n3_ := am ((by rw [hg]; exact (below_size aq0) : w.heap.size ≤ gb102)); have n4_ := am ((by rw [hg]; exact (below_size aq0) : w.heap.size ≤ gb102)); have n5_ := am ((by rw [hg]; exact Nat.ne_of_lt (blk_lt (g := gb101) (o := .cells #[.int .i64 0, .int .i64 0, .slice none 0 0] 62 (0, 0)) aq2) : gb101 ≠ gb102)); have n6_ := am ((by rw [hg]; exact Nat.ne_of_gt (blk_lt (g := gb101) (o := .cells #[.int .i64 0, .int .i64 0, .slice none 0 0] 62 (0, 0)) aq2) : gb102 ≠ gb101)); clear BK101; clear HB; have BK101 := n0_; have HB := n1_; have BK102 := n2_; have GW102 := n3_; have GE102 := n4_; have NB101_102 := n5_; have NB102_101 := n6_; clear n0_ n1_ n2_ n3_ n4_ n5_ n6_; clear hb hbox hg; have hnb10 := NB102_101.out; have hnc10 := NB101_102.out; obtain ⟨hcz11_0, hcz11_1, hcz11_2, hfz11_0, hfz11_1, hfz11_2⟩ := blk3_ BK102.out))
  go_loopg [5, 6] k (fun kq v5 v6 w' => ∃ (x5_1 : Int) (x6_1 : Int) (x102000_1 : Int) (x102001_1 : Int) (x103000_1 : Int) (x103001_1 : Int) (x103002_1 : List Int) (u103002 : Value), v5 = .int .i64 x5_1 ∧ v6 = .int .i64 x6_1 ∧ Aside0 (spec_tyRead.l0 kq a0 x5_1 x6_1 x103000_1 x103001_1 x103002_1 = some (r1, r2, r3, r4)) ∧ Aside0 (kq ≤ k) ∧ Aside0 (Kd.R (Kd.int .u8) 5 w' w.heap.size (fun _ => True) u103002 x103002_1) ∧ Aside0 (w'.heap[gb101]? = some (.cells #[.int .i64 x102000_1, .int .i64 x102001_1, (.slice none 0 0)] 62 (0, 0))) ∧ Aside0 (w'.heap[gb102]? = some (.cells #[.int .i64 x103000_1, .int .i64 x103001_1, u103002] 62 (0, 0))) ∧ Aside0 (Below w.heap.size w w'))
  case atStart => exact ⟨(0), (0), (0), (0), (0), (0), (([] : List Int)), (.slice none 0 0), aq6, aq6, H', ⟨Nat.le_refl _⟩, ⟨aq17⟩, ⟨by (with_reducible repeat (first | refine blk_drewN ?_ _ | refine blk_drew ?_ | refine blk_alloc ?_ _)); refine blk_far ?_ NB101_102.out _; (with_reducible repeat (first | refine blk_drewN ?_ _ | refine blk_drew ?_ | refine blk_alloc ?_ _)); refine blk_far ?_ NB101_102.out _; (with_reducible repeat (first | refine blk_drewN ?_ _ | refine blk_drew ?_ | refine blk_alloc ?_ _)); refine blk_far ?_ NB101_102.out _; (with_reducible repeat (first | refine blk_drewN ?_ _ | refine blk_drew ?_ | refine blk_alloc ?_ _)); exact BK101.out⟩, ⟨by (with_reducible repeat (first | refine blk_drewN ?_ _ | refine blk_drew ?_ | refine blk_alloc ?_ _)); refine blk_put (cs := #[.int .i64 0, .int .i64 0, .slice none 0 0]) ?_ 2 _ rfl; (with_reducible repeat (first | refine blk_drewN ?_ _ | refine blk_drew ?_ | refine blk_alloc ?_ _)); refine blk_put (cs := #[.int .i64 0, .int .i64 0, .slice none 0 0]) ?_ 1 _ rfl; (with_reducible repeat (first | refine blk_drewN ?_ _ | refine blk_drew ?_ | refine blk_alloc ?_ _)); refine blk_put (cs := #[.int .i64 0, .int .i64 0, .slice none 0 0]) ?_ 0 _ rfl; (with_reducible repeat (first | refine blk_drewN ?_ _ | refine blk_drew ?_ | refine blk_alloc ?_ _)); exact BK102.out⟩, ⟨aq7⟩⟩
  case round =>
   clear H'
   try clear c1
   try clear c2
   try clear c2b0
   try clear c2b1
   try clear p2
   try clear c5
   try clear c10
   try clear hcz11_0
   try clear hcz11_1
   try clear hcz11_2
   try clear hcz6_0
   try clear hcz6_1
   try clear hcz6_2
   try clear hcz7_0
   try clear hcz7_1
   try clear hcz7_2
   try clear hfz11_0
   try clear hfz11_1
   try clear hfz11_2
   try clear hfz6_0
   try clear hfz6_1
   try clear hfz6_2
   try clear hfz7_0
   try clear hfz7_1
   try clear hfz7_2
   obtain ⟨x5_1, x6_1, x102000_1, x102001_1, x103000_1, x103001_1, x103002_1, u103002, rfl, rfl, HA, HK1, HO_103002, BK101, BK102, HB⟩ := hrel
   cases gk with
   | zero => exact absurd HA.out (by simp [spec_tyRead.l0])
   | succ k1 =>
    have H := HA.out
    clear HA
    simp only [spec_tyRead.l0] at H
    by_cases c12 : x6_1 ≤ (a0.size : Int)
    ·rw [if_pos c12] at H
     have c12b0 := decide_eq_true c12
     clear c12
     have HC13 := am H
     clear H
     go_upto_region 8 with (fail)
     go_cut [31] (fun v31 wc => ∃ (kq : Nat) (x31_12 : Bool), v31 = .bool x31_12 ∧ Aside0 (spec_tyRead.j1 kq a0 x5_1 x6_1 x31_12 x103000_1 x103001_1 x103002_1 = some (r1, r2, r3, r4)) ∧ Aside0 (kq ≤ k1) ∧ Aside0 (Kd.R (Kd.int .u8) 5 wc w.heap.size (fun _ => True) u103002 x103002_1) ∧ Aside0 (wc.heap[gb101]? = some (.cells #[.int .i64 x102000_1, .int .i64 x102001_1, (.slice none 0 0)] 62 (0, 0))) ∧ Aside0 (wc.heap[gb102]? = some (.cells #[.int .i64 x103000_1, .int .i64 x103001_1, u103002] 62 (0, 0))) ∧ Aside0 (Below w.heap.size w wc))
     case first =>
      have H := HC13.out
      clear HC13
      by_cases c14 : x6_1 < (a0.size : Int)
      ·rw [if_pos c14] at H
       have c14b0 := decide_eq_true c14
       clear c14
       (first | rw [c14b0] | (simp only [i64_w, i32_w]; rw [c14b0]) | skip)
       by_cases c15 : 0 ≤ x6_1
       ·rw [if_pos c15] at H
        have c15b0 := decide_eq_true c15
        clear c15
        have H' := am H
        clear H
        have p16 : 0 ≤ (x6_1 : Int) := of_decide_eq_true aq5
        have q16 : x6_1 < (a0.size : Int) := of_decide_eq_true aq5
        have hx16 := bt_at a0 x6_1
        replace p16 := eq_true p16
        replace q16 := eq_true q16
        go_wp2
        go_meet
        case rel => exact ⟨_, (((bt a0 x6_1) != 47)), aq6, H', ⟨aq71⟩, ⟨aq23⟩, ⟨aq2⟩, ⟨aq12⟩, ⟨aq7⟩⟩
       ·rw [if_neg c15] at H
        exact absurd H (by simp)
      ·rw [if_neg c14] at H
       have c14b0 := decide_eq_false c14
       clear c14
       (first | rw [c14b0] | (simp only [i64_w, i32_w]; rw [c14b0]) | skip)
       have H' := am H
       clear H
       go_wp2
       go_meet
       case rel => exact ⟨_, (false), aq6, H', ⟨aq71⟩, ⟨aq23⟩, ⟨aq2⟩, ⟨aq12⟩, ⟨aq7⟩⟩
     case rest =>
      clear HC13
      try clear c1
      try clear p1
      try clear q1
      try clear hx1
      try clear c2
      try clear c2b0
      try clear c2b1
      try clear p2
      try clear c5
      try clear c10
      try clear c12
      try clear c12b0
      try clear c14
      try clear c14b0
      try clear c15
      try clear c15b0
      try clear p16
      try clear q16
      try clear hx16
      try clear hcz11_0
      try clear hcz11_1
      try clear hcz11_2
      try clear hcz6_0
      try clear hcz6_1
      try clear hcz6_2
      try clear hcz7_0
      try clear hcz7_1
      try clear hcz7_2
      try clear hfz11_0
      try clear hfz11_1
      try clear hfz11_2
      try clear hfz6_0
      try clear hfz6_1
      try clear hfz6_2
      try clear hfz7_0
      try clear hfz7_1
      try clear hfz7_2
      try clear p16
      try clear p2
      try clear q16
      obtain ⟨kq, x31_12, rfl, HA, HJ12, HO_103002, BK101, BK102, HB⟩ := hcut
      cases kq with
      | zero => exact absurd HA.out (by simp [spec_tyRead.j1])
      | succ kj12 =>
       have H := HA.out
       clear HA
       simp only [spec_tyRead.j1] at H
       by_cases c17 : x31_12 = true
       ·subst c17
        rw [if_pos rfl] at H
        by_cases c18 : 0 ≤ x6_1
        ·rw [if_pos c18] at H
         have c18b0 := decide_eq_true c18
         clear c18
         by_cases c19 : x6_1 < (a0.size : Int)
         ·rw [if_pos c19] at H
          have c19b0 := decide_eq_true c19
          clear c19
          obtain ⟨t103, A210, H⟩ := Option.bind_eq_some_iff.mp H
          have A21 := am A210
          clear A210
          by_cases c22 : t103 = true
          ·subst c22
           rw [if_pos rfl] at H
           by_cases c24 : x103002_1.length < 140737488355328
           ·rw [if_pos c24] at H
            have LMc24 := am c24
            clear c24
            obtain ⟨y104, hy_⟩ : ∃ y_ : List Int, y_ = (x103002_1 ++ [bt a0 x6_1]) := ⟨_, rfl⟩
            replace H : (spec_tyRead.l0 kj12 a0 (wrap64 (x5_1 + 1)) (wrap64 (x6_1 + 1)) x103000_1 x103001_1 y104) = some (r1, r2, r3, r4) := aq3
            have Ny104 := am hy_
            clear hy_
            have H' := am H
            clear H
            have p20 : 0 ≤ (x6_1 : Int) := of_decide_eq_true aq5
            have q20 : x6_1 < (a0.size : Int) := of_decide_eq_true aq5
            have hx20 := bt_at a0 x6_1
            replace p20 := eq_true p20
            replace q20 := eq_true q20
            try go_wp2_with (first | ((with_reducible refine gate_callee (f := 97) rfl ?_); refine goesL_ (some 35) rfl rfl Tryz.func97 (by kernel_rfl) rfl #[.int .u8 (bt a0 x6_1)] rfl aq4 ?_; (with_reducible refine (spec_tyIs.calls (bt a0 x6_1) true _ A21.out).mono ?_); rintro e w' ⟨rfl, ⟨nd, rfl⟩⟩; refine ⟨_, rfl, ?_⟩; (try (rw [drewN_self wc]; generalize hq_ : World.drewN wc _ = wc; have n0_ : Aside0 (Kd.R (Kd.int .u8) 5 wc w.heap.size (fun _ => True) u103002 x103002_1) := ⟨by rw [← hq_]; exact aq23⟩; have n1_ : Aside0 (wc.heap[gb101]? = some (.cells #[.int .i64 x102000_1, .int .i64 x102001_1, .slice none 0 0] 62 (0, 0))) := ⟨by rw [← hq_]; exact aq2⟩; have n2_ : Aside0 (wc.heap[gb102]? = some (.cells #[.int .i64 x103000_1, .int .i64 x103001_1, u103002] 62 (0, 0))) := ⟨by rw [← hq_]; exact aq12⟩; have n3_ : Aside0 (Below w.heap.size w wc) := ⟨by rw [← hq_]; exact aq7⟩; clear HO_103002 BK101 BK102 HB hq_; have HO_103002 := n0_; have BK101 := n1_; have BK102 := n2_; have HB := n3_; clear n0_ n1_ n2_ n3_))))
            have n0_ := am (Kd.R_drew HO_103002.out)
            have n1_ := am (blk_drew BK101.out)
            have n2_ := am (blk_drew BK102.out)
            have n3_ := am (below_drew1 HB.out)
            clear HO_103002
            clear BK101
            clear BK102
            clear HB
            have HO_103002 := n0_
            have BK101 := n1_
            have BK102 := n2_
            have HB := n3_
            clear n0_ n1_ n2_ n3_
            have p23 : 0 ≤ (x6_1 : Int) := of_decide_eq_true aq5
            have q23 : x6_1 < (a0.size : Int) := of_decide_eq_true aq5
            have hx23 := bt_at a0 x6_1
            replace p23 := eq_true p23
            replace q23 := eq_true q23
            refine start_ (n := 9) (S := fun w' => w'.cell? ⟨gb102, 0, none⟩ = some (.int .i64 x103000_1) ∧ w'.cell? ⟨gb102, 1, none⟩ = some (.int .i64 x103001_1) ∧ w'.cell? ⟨gb102, 2, none⟩ = some (u103002)) (ds := [8]) #[false, false, false, false, false, false, false, false, false] (by kernel_rfl) rfl rfl ⟨(blk_cell BK102.out 0).trans rfl, (blk_cell BK102.out 1).trans rfl, (blk_cell BK102.out 2).trans rfl⟩ (fun hHeld => ?_); refine with_tabW spec_tyRead.tab11 spec_tyRead.bits11 (fun HT_ HW_ => ?_)
            generalize wc.drew = w25 at HO_103002 BK101 BK102 HB hHeld ⊢
            refine pure_ (i := 0) (N := some 38) (v := ?_) (a' := ?_) (bm 9 1) rfl rfl (any_of HT_.out (by kernel_rfl)) (fun _ _ _ h => h) (Or.inl ⟨by rfl, ?_⟩) ?_ ?_
            rotate_left
            ·intro w'
             go_simp
             with_reducible rfl
            rotate_left
            ·simp only [Act.put, ac_]
             rfl
            refine pure_ (i := 2) (N := some 40) (v := ?_) (a' := ?_) (bm 9 5) rfl rfl (any_of HT_.out (by kernel_rfl)) (fun _ _ _ h => h) (Or.inl ⟨by rfl, ?_⟩) ?_ ?_
            rotate_left
            ·intro w'
             go_simp
             with_reducible rfl
            rotate_left
            ·simp only [Act.put, ac_]
             rfl
            refine pure_ (i := 3) (N := some 41) (v := ?_) (a' := ?_) (bm 9 13) rfl rfl (any_of HT_.out (by kernel_rfl)) (fun _ _ _ h => h) (Or.inl ⟨by rfl, ?_⟩) ?_ ?_
            rotate_left
            ·intro w'
             go_simp
             with_reducible rfl
            rotate_left
            ·simp only [Act.put, ac_]
             rfl
            refine take_ (i := 1) (N := some 39) (v := ?_) (a' := ?_) (bm 9 15) rfl rfl (take_ofW HT_.out HW_.out (by kernel_rfl)) (fun _ _ _ h => h) (Or.inl ⟨by rfl, ?_⟩) hHeld ?_ ?_
            rotate_left
            ·rintro w' ⟨s0, s1, s2⟩
             go_simp
             with_reducible rfl
            rotate_left
            ·simp only [Act.put, ac_]
             rfl
            refine take_ (i := 4) (N := some 42) (v := ?_) (a' := ?_) (bm 9 31) rfl rfl (take_ofW HT_.out HW_.out (by kernel_rfl)) (fun _ _ _ h => h) (Or.inl ⟨by rfl, ?_⟩) hHeld ?_ ?_
            rotate_left
            ·rintro w' ⟨s0, s1, s2⟩
             go_simp
             with_reducible rfl
            rotate_left
            ·simp only [Act.put, ac_]
             rfl
            refine one_ (i := 5) (N := some 43) (bm 9 63) rfl rfl (one_of HT_.out (by kernel_rfl)) (by decide) (fun K hK => ?_)
            refine value_ (w1 := ?_) (v := ?_) (by rfl) rfl ?_ ?_
            rotate_left 2
            ·go_simp
             constructor
             ·rfl
             ·rfl
            refine hK.out _ _ ⟨(blk_cell (blk_alloc BK102.out _) 0).trans rfl, (blk_cell (blk_alloc BK102.out _) 1).trans rfl, (blk_cell (blk_alloc BK102.out _) 2).trans rfl⟩ (fun hHeld => ?_)
            clear hK K
            refine norm_ (a' := ?_) ?_ ?_
            rotate_left
            ·show Act.put _ (some 43) _ = _
             simp only [Act.put, ac_]
             rfl
            refine one_ (i := 6) (N := some 44) (bm 9 127) rfl rfl (one_of HT_.out (by kernel_rfl)) (by decide) (fun K hK => ?_)
            refine Kd.R_append_step (Kd.int .u8) (w0 := w) w.heap.size (by rfl) (.tmp 39) (.tmp 43) 60 5 (.int .u8 0) 1 rfl Tryz.underlying60 info5 rfl (by decide) (by omega) u103002 x103002_1 (bt a0 x6_1) [.int .u8 (bt a0 x6_1)] (fun _ => True) (fun _ => False) rfl rfl ?aP (fun _ hk => hk.elim) ?aF ?aO ?aB ?aS ?aL ?_
            (case aP => exact rfl)
            (case aB => exact aq7)
            (case aF => exact aq75)
            (case aO => exact aq23)
            (case aS => exact (below_size aq7))
            (case aL => have := LMc24.out; omega)
            intro v105 w26 ho hb hg hat
            rw [← Ny104.out] at ho
            have n0_ := am (blk_grown (g := gb101) (o := .cells #[.int .i64 x102000_1, .int .i64 x102001_1, .slice none 0 0] 62 (0, 0)) aq2 hg (Kd.R_ne HO_103002.out BK101.out (by decide)))
            have n1_ := am (blk_grown (g := gb102) (o := .cells #[.int .i64 x103000_1, .int .i64 x103001_1, u103002] 62 (0, 0)) aq12 hg (Kd.R_ne HO_103002.out BK102.out (by decide)))
            have n2_ := am (hb)
            have n3_ := am (ho)
            clear BK101
            clear BK102
            clear HB
            clear HO_103002
            have BK101 := n0_
            have BK102 := n1_
            have HB := n2_
            have HO106 := n3_
            clear n0_ n1_ n2_ n3_
            clear ho hb hg hat
            obtain ⟨Ao27, co27, eo27⟩ := Kd.R_slice HO106.out
            (first | subst eo27 | (injection eo27 with f1_ f2_ f3_; have f4_ := f1_.symm; have f5_ := f3_.symm; clear f1_ f2_ f3_; subst f4_; subst f5_))
            refine hK.out _ _ ⟨(blk_cell BK102.out 0).trans rfl, (blk_cell BK102.out 1).trans rfl, (blk_cell BK102.out 2).trans rfl⟩ (fun hHeld => ?_)
            clear hK K
            refine norm_ (a' := ?_) ?_ ?_
            rotate_left
            ·show Act.put _ (some 44) _ = _
             simp only [Act.put, ac_]
             rfl
            refine pure_ (i := 7) (N := some 45) (v := ?_) (a' := ?_) (bm 9 255) rfl rfl (any_of HT_.out (by kernel_rfl)) (fun _ _ _ h => h) (Or.inl ⟨by rfl, ?_⟩) ?_ ?_
            rotate_left
            ·intro w'
             go_simp
             with_reducible rfl
            rotate_left
            ·simp only [Act.put, ac_]
             rfl
            refine last_ (i := 8) (N := none) (bm 9 511) rfl rfl (one_of HT_.out (by kernel_rfl)) (by decide) (fun K hK => ?_)
            have hs28 : w26.cell? ⟨gb102, 2, none⟩ = some (u103002) := (blk_cell BK102.out 2).trans rfl
            have hfs28 := blk_frozen BK102.out 2
            have hns28_0 := NB101_102.out
            have hms28_0 := NB102_101.out
            refine skip_ (w1 := ?_) (by rfl) rfl ?_ ?_
            rotate_left
            ·go_simp
             rfl
            refine hK.out _ _ ?_
            clear hK K
            refine done_ (done_of HT_.out (by kernel_rfl)) ?_
            try go_wp2
            go_roundg kj12
            case measure => have := HK1.out; have := HJ12.out; omega
            case rel => exact ⟨(wrap64 (x5_1 + 1)), (wrap64 (x6_1 + 1)), (x102000_1), (x102001_1), (x103000_1), (x103001_1), (y104), (.slice Ao27 y104.length co27), aq6, aq6, H', ⟨by have := HK1.out; have := HJ12.out; omega⟩, ⟨by (with_reducible repeat (first | apply Kd.R_alloc | apply Kd.R_drewN | apply Kd.R_drew)); exact Kd.R_mono (Kd.R_far (p := ⟨gb102, 2, none⟩) (Kd.R_types HO106.out BK102.out (by decide)) (fun _ hk => hk.2) (.slice Ao27 y104.length co27)) (fun _ hk => trivial)⟩, ⟨by (with_reducible repeat (first | refine blk_drewN ?_ _ | refine blk_drew ?_ | refine blk_alloc ?_ _)); refine blk_far ?_ NB101_102.out _; (with_reducible repeat (first | refine blk_drewN ?_ _ | refine blk_drew ?_ | refine blk_alloc ?_ _)); exact BK101.out⟩, ⟨by (with_reducible repeat (first | refine blk_drewN ?_ _ | refine blk_drew ?_ | refine blk_alloc ?_ _)); refine blk_put (cs := #[.int .i64 x103000_1, .int .i64 x103001_1, u103002]) ?_ 2 _ rfl; (with_reducible repeat (first | refine blk_drewN ?_ _ | refine blk_drew ?_ | refine blk_alloc ?_ _)); exact BK102.out⟩, ⟨aq7⟩⟩
           ·rw [if_neg c24] at H
            exact absurd H (by simp)
          ·replace c22 := Bool.eq_false_iff.mpr c22
           subst c22
           rw [if_neg Bool.false_ne_true] at H
           simp only [Option.some.injEq, Prod.mk.injEq] at H
           obtain ⟨rfl, rfl, rfl, rfl⟩ := H
           have p20 : 0 ≤ (x6_1 : Int) := of_decide_eq_true aq5
           have q20 : x6_1 < (a0.size : Int) := of_decide_eq_true aq5
           have hx20 := bt_at a0 x6_1
           replace p20 := eq_true p20
           replace q20 := eq_true q20
           go_wp2_with (first | ((with_reducible refine gate_callee (f := 97) rfl ?_); refine goesL_ (some 35) rfl rfl Tryz.func97 (by kernel_rfl) rfl #[.int .u8 (bt a0 x6_1)] rfl aq4 ?_; (with_reducible refine (spec_tyIs.calls (bt a0 x6_1) false _ A21.out).mono ?_); rintro e w' ⟨rfl, ⟨nd, rfl⟩⟩; refine ⟨_, rfl, ?_⟩; (try (rw [drewN_self wc]; generalize hq_ : World.drewN wc _ = wc; have n0_ : Aside0 (Kd.R (Kd.int .u8) 5 wc w.heap.size (fun _ => True) u103002 x103002_1) := ⟨by rw [← hq_]; exact aq23⟩; have n1_ : Aside0 (wc.heap[gb101]? = some (.cells #[.int .i64 x102000_1, .int .i64 x102001_1, .slice none 0 0] 62 (0, 0))) := ⟨by rw [← hq_]; exact aq2⟩; have n2_ : Aside0 (wc.heap[gb102]? = some (.cells #[.int .i64 x103000_1, .int .i64 x103001_1, u103002] 62 (0, 0))) := ⟨by rw [← hq_]; exact aq12⟩; have n3_ : Aside0 (Below w.heap.size w wc) := ⟨by rw [← hq_]; exact aq7⟩; clear HO_103002 BK101 BK102 HB hq_; have HO_103002 := n0_; have BK101 := n1_; have BK102 := n2_; have HB := n3_; clear n0_ n1_ n2_ n3_)); have hnb29 := NB101_102.out; have hnc29 := NB102_101.out; obtain ⟨hcz30_0, hcz30_1, hcz30_2, hfz30_0, hfz30_1, hfz30_2⟩ := blk3_ BK101.out))
           refine bodyPost_ret (results_ct rfl _ _ gb101 62 #[.int .i64 0, .int .i64 0, .slice none 0 0] (0, 0) _ rfl aq32 Tryz.underlying62 rfl (by kernel_rfl)) rfl ?_
           exact ⟨_, aq8, aq17, aq7⟩
         ·rw [if_neg c19] at H
          exact absurd H (by simp)
        ·rw [if_neg c18] at H
         exact absurd H (by simp)
       ·replace c17 := Bool.eq_false_iff.mpr c17
        subst c17
        rw [if_neg Bool.false_ne_true] at H
        by_cases c31 : x103001_1 > 0
        ·rw [if_pos c31] at H
         have c31b0 := decide_eq_true c31
         clear c31
         by_cases c32 : x5_1 = x103000_1
         ·rw [if_pos c32] at H
          have c32b0 := beq_iff_eq.mpr c32
          have c32b1 := bne_eq_false_iff_eq.mpr c32
          clear c32
          by_cases c33 : x5_1 = 0
          ·rw [if_pos c33] at H
           have c33b0 := beq_iff_eq.mpr c33
           have c33b1 := bne_eq_false_iff_eq.mpr c33
           clear c33
           simp only [Option.some.injEq, Prod.mk.injEq] at H
           obtain ⟨rfl, rfl, rfl, rfl⟩ := H
           have hnb34 := NB102_101.out
           have hnc34 := NB101_102.out
           obtain ⟨hcz35_0, hcz35_1, hcz35_2, hfz35_0, hfz35_1, hfz35_2⟩ := blk3_ BK102.out
           obtain ⟨hcz36_0, hcz36_1, hcz36_2, hfz36_0, hfz36_1, hfz36_2⟩ := blk3_ BK101.out
           go_wp2
           refine bodyPost_ret (results_ct rfl _ _ gb101 62 #[.int .i64 0, .int .i64 0, .slice none 0 0] (0, 0) _ rfl aq32 Tryz.underlying62 rfl (by kernel_rfl)) rfl ?_
           exact ⟨_, aq8, aq17, aq7⟩
          ·rw [if_neg c33] at H
           have c33b0 := beq_eq_false_iff_ne.mpr c33
           have c33b1 := bne_iff_ne.mpr c33
           have H' := am H
           clear H
           have hnb37 := NB102_101.out
           have hnc37 := NB101_102.out
           obtain ⟨hcz38_0, hcz38_1, hcz38_2, hfz38_0, hfz38_1, hfz38_2⟩ := blk3_ BK102.out
           go_wp2
           go_roundg kj12
           case measure => have := HK1.out; have := HJ12.out; omega
           case rel => exact ⟨(0), (wrap64 (x6_1 + 1)), (x102000_1), (x102001_1), (x5_1), (wrap64 (x103001_1 + 1)), (x103002_1), (u103002), aq6, aq6, H', ⟨by have := HK1.out; have := HJ12.out; omega⟩, ⟨aq67⟩, ⟨aq59⟩, ⟨aq52⟩, ⟨aq7⟩⟩
         ·rw [if_neg c32] at H
          have c32b0 := beq_eq_false_iff_ne.mpr c32
          have c32b1 := bne_iff_ne.mpr c32
          simp only [Option.some.injEq, Prod.mk.injEq] at H
          obtain ⟨rfl, rfl, rfl, rfl⟩ := H
          have hnb39 := NB102_101.out
          have hnc39 := NB101_102.out
          obtain ⟨hcz40_0, hcz40_1, hcz40_2, hfz40_0, hfz40_1, hfz40_2⟩ := blk3_ BK102.out
          obtain ⟨hcz41_0, hcz41_1, hcz41_2, hfz41_0, hfz41_1, hfz41_2⟩ := blk3_ BK101.out
          go_wp2
          refine bodyPost_ret (results_ct rfl _ _ gb101 62 #[.int .i64 0, .int .i64 0, .slice none 0 0] (0, 0) _ rfl aq32 Tryz.underlying62 rfl (by kernel_rfl)) rfl ?_
          exact ⟨_, aq8, aq17, aq7⟩
        ·rw [if_neg c31] at H
         have c31b0 := decide_eq_false c31
         clear c31
         by_cases c42 : x5_1 = 0
         ·rw [if_pos c42] at H
          have c42b0 := beq_iff_eq.mpr c42
          have c42b1 := bne_eq_false_iff_eq.mpr c42
          clear c42
          simp only [Option.some.injEq, Prod.mk.injEq] at H
          obtain ⟨rfl, rfl, rfl, rfl⟩ := H
          have hnb43 := NB102_101.out
          have hnc43 := NB101_102.out
          obtain ⟨hcz44_0, hcz44_1, hcz44_2, hfz44_0, hfz44_1, hfz44_2⟩ := blk3_ BK102.out
          obtain ⟨hcz45_0, hcz45_1, hcz45_2, hfz45_0, hfz45_1, hfz45_2⟩ := blk3_ BK101.out
          go_wp2
          refine bodyPost_ret (results_ct rfl _ _ gb101 62 #[.int .i64 0, .int .i64 0, .slice none 0 0] (0, 0) _ rfl aq32 Tryz.underlying62 rfl (by kernel_rfl)) rfl ?_
          exact ⟨_, aq8, aq17, aq7⟩
         ·rw [if_neg c42] at H
          have c42b0 := beq_eq_false_iff_ne.mpr c42
          have c42b1 := bne_iff_ne.mpr c42
          have H' := am H
          clear H
          have hnb46 := NB102_101.out
          have hnc46 := NB101_102.out
          obtain ⟨hcz47_0, hcz47_1, hcz47_2, hfz47_0, hfz47_1, hfz47_2⟩ := blk3_ BK102.out
          go_wp2
          go_roundg kj12
          case measure => have := HK1.out; have := HJ12.out; omega
          case rel => exact ⟨(0), (wrap64 (x6_1 + 1)), (x102000_1), (x102001_1), (x5_1), (wrap64 (x103001_1 + 1)), (x103002_1), (u103002), aq6, aq6, H', ⟨by have := HK1.out; have := HJ12.out; omega⟩, ⟨aq67⟩, ⟨aq59⟩, ⟨aq52⟩, ⟨aq7⟩⟩
    ·rw [if_neg c12] at H
     have c12b0 := decide_eq_false c12
     clear c12
     have HC48 := am H
     clear H
     go_upto_region 18 with (fail)
     go_cut [81] (fun v81 wc => ∃ (kq : Nat) (x81_47 : Bool), v81 = .bool x81_47 ∧ Aside0 (spec_tyRead.j2 kq x81_47 x103000_1 x103001_1 x103002_1 = some (r1, r2, r3, r4)) ∧ Aside0 (kq ≤ k1) ∧ Aside0 (Kd.R (Kd.int .u8) 5 wc w.heap.size (fun _ => True) u103002 x103002_1) ∧ Aside0 (wc.heap[gb101]? = some (.cells #[.int .i64 x102000_1, .int .i64 x102001_1, (.slice none 0 0)] 62 (0, 0))) ∧ Aside0 (wc.heap[gb102]? = some (.cells #[.int .i64 x103000_1, .int .i64 x103001_1, u103002] 62 (0, 0))) ∧ Aside0 (Below w.heap.size w wc))
     case first =>
      have H := HC48.out
      clear HC48
      by_cases c49 : x103000_1 > 7
      ·rw [if_pos c49] at H
       have c49b0 := decide_eq_true c49
       clear c49
       (first | rw [c49b0] | (simp only [i64_w, i32_w]; rw [c49b0]) | skip)
       have H' := am H
       clear H
       have hnb50 := NB102_101.out
       have hnc50 := NB101_102.out
       obtain ⟨hcz51_0, hcz51_1, hcz51_2, hfz51_0, hfz51_1, hfz51_2⟩ := blk3_ BK102.out
       go_wp2
       go_meet
       case rel => exact ⟨_, (true), aq6, H', ⟨aq71⟩, ⟨aq23⟩, ⟨aq2⟩, ⟨aq12⟩, ⟨aq7⟩⟩
      ·rw [if_neg c49] at H
       have c49b0 := decide_eq_false c49
       clear c49
       (first | rw [c49b0] | (simp only [i64_w, i32_w]; rw [c49b0]) | skip)
       by_cases c52 : x103001_1 > 7
       ·rw [if_pos c52] at H
        have c52b0 := decide_eq_true c52
        clear c52
        have H' := am H
        clear H
        have hnb53 := NB102_101.out
        have hnc53 := NB101_102.out
        obtain ⟨hcz54_0, hcz54_1, hcz54_2, hfz54_0, hfz54_1, hfz54_2⟩ := blk3_ BK102.out
        go_wp2
        go_meet
        case rel => exact ⟨_, (true), aq6, H', ⟨aq71⟩, ⟨aq23⟩, ⟨aq2⟩, ⟨aq12⟩, ⟨aq7⟩⟩
       ·rw [if_neg c52] at H
        have c52b0 := decide_eq_false c52
        clear c52
        have H' := am H
        clear H
        have hnb55 := NB102_101.out
        have hnc55 := NB101_102.out
        obtain ⟨hcz56_0, hcz56_1, hcz56_2, hfz56_0, hfz56_1, hfz56_2⟩ := blk3_ BK102.out
        obtain ⟨Ao57, co57, eo57⟩ := Kd.R_slice HO_103002.out
        subst eo57
        go_wp2
        go_meet
        case rel => exact ⟨_, (decide ((x103002_1.length : Int) > 36)), aq6, H', ⟨aq71⟩, ⟨aq23⟩, ⟨aq2⟩, ⟨aq12⟩, ⟨aq7⟩⟩
     case rest =>
      clear HC48
      try clear c1
      try clear p1
      try clear q1
      try clear hx1
      try clear c2
      try clear c2b0
      try clear c2b1
      try clear p2
      try clear q2
      try clear hx2
      try clear c3
      try clear c4
      try clear c5
      try clear p6
      try clear c9
      try clear c10
      try clear c12
      try clear c12b0
      try clear c14
      try clear c14b0
      try clear c15
      try clear c15b0
      try clear p16
      try clear q16
      try clear hx16
      try clear c17
      try clear c18
      try clear c18b0
      try clear c19
      try clear c19b0
      try clear p20
      try clear q20
      try clear hx20
      try clear c22
      try clear p23
      try clear q23
      try clear hx23
      try clear c24
      try clear c29
      try clear c31
      try clear c31b0
      try clear c32
      try clear c32b0
      try clear c32b1
      try clear c33
      try clear c33b0
      try clear c33b1
      try clear c34
      try clear c37
      try clear c39
      try clear c42
      try clear c42b0
      try clear c42b1
      try clear c43
      try clear c46
      try clear c49
      try clear c49b0
      try clear c50
      try clear c51
      try clear c52
      try clear c52b0
      try clear c53
      try clear c55
      try clear hcz11_0
      try clear hcz11_1
      try clear hcz11_2
      try clear hcz30_0
      try clear hcz30_1
      try clear hcz30_2
      try clear hcz35_0
      try clear hcz35_1
      try clear hcz35_2
      try clear hcz36_0
      try clear hcz36_1
      try clear hcz36_2
      try clear hcz38_0
      try clear hcz38_1
      try clear hcz38_2
      try clear hcz40_0
      try clear hcz40_1
      try clear hcz40_2
      try clear hcz41_0
      try clear hcz41_1
      try clear hcz41_2
      try clear hcz44_0
      try clear hcz44_1
      try clear hcz44_2
      try clear hcz45_0
      try clear hcz45_1
      try clear hcz45_2
      try clear hcz47_0
      try clear hcz47_1
      try clear hcz47_2
      try clear hcz51_0
      try clear hcz51_1
      try clear hcz51_2
      try clear hcz54_0
      try clear hcz54_1
      try clear hcz54_2
      try clear hcz56_0
      try clear hcz56_1
      try clear hcz56_2
      try clear hcz6_0
      try clear hcz6_1
      try clear hcz6_2
      try clear hcz7_0
      try clear hcz7_1
      try clear hcz7_2
      try clear hfz11_0
      try clear hfz11_1
      try clear hfz11_2
      try clear hfz30_0
      try clear hfz30_1
      try clear hfz30_2
      try clear hfz35_0
      try clear hfz35_1
      try clear hfz35_2
      try clear hfz36_0
      try clear hfz36_1
      try clear hfz36_2
      try clear hfz38_0
      try clear hfz38_1
      try clear hfz38_2
      try clear hfz40_0
      try clear hfz40_1
      try clear hfz40_2
      try clear hfz41_0
      try clear hfz41_1
      try clear hfz41_2
      try clear hfz44_0
      try clear hfz44_1
      try clear hfz44_2
      try clear hfz45_0
      try clear hfz45_1
      try clear hfz45_2
      try clear hfz47_0
      try clear hfz47_1
      try clear hfz47_2
      try clear hfz51_0
      try clear hfz51_1
      try clear hfz51_2
      try clear hfz54_0
      try clear hfz54_1
      try clear hfz54_2
      try clear hfz56_0
      try clear hfz56_1
      try clear hfz56_2
      try clear hfz6_0
      try clear hfz6_1
      try clear hfz6_2
      try clear hfz7_0
      try clear hfz7_1
      try clear hfz7_2
      try clear p1
      try clear p16
      try clear p2
      try clear p20
      try clear p23
      try clear q1
      try clear q16
      try clear q20
      try clear q23
      obtain ⟨kq, x81_47, rfl, HA, HJ47, HO_103002, BK101, BK102, HB⟩ := hcut
      cases kq with
      | zero => exact absurd HA.out (by simp [spec_tyRead.j2])
      | succ kj47 =>
       have H := HA.out
       clear HA
       simp only [spec_tyRead.j2] at H
       by_cases c58 : x81_47 = true
       ·subst c58
        rw [if_pos rfl] at H
        simp only [Option.some.injEq, Prod.mk.injEq] at H
        obtain ⟨rfl, rfl, rfl, rfl⟩ := H
        have hnb59 := NB101_102.out
        have hnc59 := NB102_101.out
        obtain ⟨hcz60_0, hcz60_1, hcz60_2, hfz60_0, hfz60_1, hfz60_2⟩ := blk3_ BK101.out
        go_wp2
        refine bodyPost_ret (results_ct rfl _ _ gb101 62 #[.int .i64 0, .int .i64 0, .slice none 0 0] (0, 0) _ rfl aq32 Tryz.underlying62 rfl (by kernel_rfl)) rfl ?_
        exact ⟨_, aq8, aq17, aq7⟩
       ·replace c58 := Bool.eq_false_iff.mpr c58
        subst c58
        rw [if_neg Bool.false_ne_true] at H
        have H' := am H
        clear H
        have hnb61 := NB102_101.out
        have hnc61 := NB101_102.out
        obtain ⟨hcz62_0, hcz62_1, hcz62_2, hfz62_0, hfz62_1, hfz62_2⟩ := blk3_ BK102.out
        obtain ⟨Ao63, co63, eo63⟩ := Kd.R_slice HO_103002.out
        subst eo63
        go_wp2
        go_loopg [86] kj47 (fun kq v86 w' => ∃ (x86_3 : Int) (x102000_3 : Int) (x102001_3 : Int), v86 = .int .i64 x86_3 ∧ Aside0 (spec_tyRead.l1 kq x103002_1 (x103002_1.length : Int) x86_3 x103000_1 x103001_1 x103002_1 = some (r1, r2, r3, r4)) ∧ Aside0 (kq ≤ kj47) ∧ Aside0 (Kd.R (Kd.int .u8) 5 w' w.heap.size (fun _ => True) (.slice Ao63 x103002_1.length co63) x103002_1) ∧ Aside0 (Kd.R (Kd.int .u8) 5 w' w.heap.size (fun _ => True) (.slice Ao63 x103002_1.length co63) x103002_1) ∧ Aside0 (w'.heap[gb101]? = some (.cells #[.int .i64 x102000_3, .int .i64 x102001_3, (.slice none 0 0)] 62 (0, 0))) ∧ Aside0 (w'.heap[gb102]? = some (.cells #[.int .i64 x103000_1, .int .i64 x103001_1, (.slice Ao63 x103002_1.length co63)] 62 (0, 0))) ∧ Aside0 (Below w.heap.size w w'))
        case atStart => exact ⟨(0), (x102000_1), (x102001_1), aq6, H', ⟨Nat.le_refl _⟩, ⟨aq23⟩, ⟨aq23⟩, ⟨aq2⟩, ⟨aq12⟩, ⟨aq7⟩⟩
        case round =>
         clear H'
         try clear c1
         try clear p1
         try clear q1
         try clear hx1
         try clear c2
         try clear c2b0
         try clear c2b1
         try clear p2
         try clear q2
         try clear hx2
         try clear c3
         try clear c4
         try clear c5
         try clear c6
         try clear p6
         try clear c9
         try clear c10
         try clear c12
         try clear c12b0
         try clear c14
         try clear c14b0
         try clear c15
         try clear c15b0
         try clear p16
         try clear q16
         try clear hx16
         try clear c17
         try clear c18
         try clear c18b0
         try clear c19
         try clear c19b0
         try clear p20
         try clear q20
         try clear hx20
         try clear c22
         try clear p23
         try clear q23
         try clear hx23
         try clear c24
         try clear c29
         try clear c31
         try clear c31b0
         try clear c32
         try clear c32b0
         try clear c32b1
         try clear c33
         try clear c33b0
         try clear c33b1
         try clear c34
         try clear c37
         try clear c39
         try clear c42
         try clear c42b0
         try clear c42b1
         try clear c43
         try clear c46
         try clear c49
         try clear c49b0
         try clear c50
         try clear c51
         try clear c52
         try clear c52b0
         try clear c53
         try clear c55
         try clear c58
         try clear c59
         try clear c61
         try clear hcz11_0
         try clear hcz11_1
         try clear hcz11_2
         try clear hcz30_0
         try clear hcz30_1
         try clear hcz30_2
         try clear hcz35_0
         try clear hcz35_1
         try clear hcz35_2
         try clear hcz36_0
         try clear hcz36_1
         try clear hcz36_2
         try clear hcz38_0
         try clear hcz38_1
         try clear hcz38_2
         try clear hcz40_0
         try clear hcz40_1
         try clear hcz40_2
         try clear hcz41_0
         try clear hcz41_1
         try clear hcz41_2
         try clear hcz44_0
         try clear hcz44_1
         try clear hcz44_2
         try clear hcz45_0
         try clear hcz45_1
         try clear hcz45_2
         try clear hcz47_0
         try clear hcz47_1
         try clear hcz47_2
         try clear hcz51_0
         try clear hcz51_1
         try clear hcz51_2
         try clear hcz54_0
         try clear hcz54_1
         try clear hcz54_2
         try clear hcz56_0
         try clear hcz56_1
         try clear hcz56_2
         try clear hcz60_0
         try clear hcz60_1
         try clear hcz60_2
         try clear hcz62_0
         try clear hcz62_1
         try clear hcz62_2
         try clear hcz6_0
         try clear hcz6_1
         try clear hcz6_2
         try clear hcz7_0
         try clear hcz7_1
         try clear hcz7_2
         try clear hfz11_0
         try clear hfz11_1
         try clear hfz11_2
         try clear hfz30_0
         try clear hfz30_1
         try clear hfz30_2
         try clear hfz35_0
         try clear hfz35_1
         try clear hfz35_2
         try clear hfz36_0
         try clear hfz36_1
         try clear hfz36_2
         try clear hfz38_0
         try clear hfz38_1
         try clear hfz38_2
         try clear hfz40_0
         try clear hfz40_1
         try clear hfz40_2
         try clear hfz41_0
         try clear hfz41_1
         try clear hfz41_2
         try clear hfz44_0
         try clear hfz44_1
         try clear hfz44_2
         try clear hfz45_0
         try clear hfz45_1
         try clear hfz45_2
         try clear hfz47_0
         try clear hfz47_1
         try clear hfz47_2
         try clear hfz51_0
         try clear hfz51_1
         try clear hfz51_2
         try clear hfz54_0
         try clear hfz54_1
         try clear hfz54_2
         try clear hfz56_0
         try clear hfz56_1
         try clear hfz56_2
         try clear hfz60_0
         try clear hfz60_1
         try clear hfz60_2
         try clear hfz62_0
         try clear hfz62_1
         try clear hfz62_2
         try clear hfz6_0
         try clear hfz6_1
         try clear hfz6_2
         try clear hfz7_0
         try clear hfz7_1
         try clear hfz7_2
         try clear p1
         try clear p16
         try clear p2
         try clear p20
         try clear p23
         try clear p6
         try clear q1
         try clear q16
         try clear q2
         try clear q20
         try clear q23
         obtain ⟨x86_3, x102000_3, x102001_3, rfl, HA, HK3, HO_84, HO_103002, BK101, BK102, HB⟩ := hrel
         cases gk with
         | zero => exact absurd HA.out (by simp [spec_tyRead.l1])
         | succ k3 =>
          have H := HA.out
          clear HA
          simp only [spec_tyRead.l1] at H
          by_cases c64 : x86_3 < (x103002_1.length : Int)
          ·rw [if_pos c64] at H
           have c64b0 := decide_eq_true c64
           clear c64
           by_cases c65 : 0 ≤ x86_3
           ·rw [if_pos c65] at H
            have c65b0 := decide_eq_true c65
            clear c65
            by_cases c66 : x86_3 < (x103002_1.length : Int)
            ·rw [if_pos c66] at H
             have c66b0 := decide_eq_true c66
             clear c66
             have c67b0 := eq_true (of_decide_eq_true aq5 : 0 ≤ x86_3)
             by_cases c68 : x86_3 ≤ (x103002_1.length : Int)
             ·rw [if_pos c68] at H
              have c68b0 := eq_true c68
              have c68b1 := decide_eq_true c68
              clear c68
              obtain ⟨y108, hy_⟩ : ∃ y_ : List Int, y_ = (x103002_1.take (x86_3 : Int).toNat) := ⟨_, rfl⟩
              replace H : (spec_tyRead.l2 k3 (rd x103002_1 x86_3) x103002_1 (x103002_1.length : Int) x86_3 y108 (y108.length : Int) 0 x103000_1 x103001_1 x103002_1) = some (r1, r2, r3, r4) := aq3
              have Ny108 := am hy_
              clear hy_
              have H' := am H
              clear H
              have p107 : 0 ≤ (x86_3 : Int) := of_decide_eq_true aq5
              have q107 : x86_3 < (x103002_1.length : Int) := of_decide_eq_true aq5
              obtain ⟨ad107, e107, hx107_0⟩ := Kd.at_int (Kd.R_reads' HO_84.out).2.2 x86_3 p107 q107
              cases e107
              replace p107 := eq_true p107
              replace q107 := eq_true q107
              have hnb69 := NB102_101.out
              have hnc69 := NB101_102.out
              obtain ⟨hcz70_0, hcz70_1, hcz70_2, hfz70_0, hfz70_1, hfz70_2⟩ := blk3_ BK102.out
              have q71 : (x86_3 : Int) ≤ ((x103002_1.length : Int) : Int) := of_decide_eq_true aq5
              obtain ⟨i071, hi071, _, hsz71, _⟩ := info_parts info5
              have hroom71 : x103002_1.length ≤ co63 := (Kd.R_reads' HO_103002.out).2.1
              have hC71 : Kd.C (Kd.int .u8) _ (some ad107) x103002_1.length x103002_1 := (Kd.R_reads' HO_103002.out).2.2
              have hcut71 := cut_to (P := Tryz.prog) 60 5 .i64 Tryz.underlying60 hi071 (some ad107) x103002_1.length co63 x86_3 (of_decide_eq_true aq5) q71 hroom71
              have hr71 := Kd.C_take (m := (x86_3 : Int).toNat) hC71 (by omega)
              have hy71 : y108.length = (x86_3 : Int).toNat := (by rw [Ny108.out, List.length_take]; omega)
              rw [← Ny108.out] at hr71
              rw [← hy71] at hcut71
              have HR111 := am hr71
              have HC111 := am (show y108.length ≤ co63 from by omega)
              clear hr71 hC71 hroom71 hi071 hsz71
              have KY71 := am hy71
              clear hy71
              have KL71 := am (show (x86_3 : Int).toNat ≤ x103002_1.length from by omega)
              replace q71 := eq_true q71
              go_wp2
              go_loopg [96] k3 (fun kq v96 w' => ∃ (x96_4 : Int) (x102000_4 : Int) (x102001_4 : Int), v96 = .int .i64 x96_4 ∧ Aside0 (spec_tyRead.l2 kq (rd x103002_1 x86_3) x103002_1 (x103002_1.length : Int) x86_3 y108 (y108.length : Int) x96_4 x103000_1 x103001_1 x103002_1 = some (r1, r2, r3, r4)) ∧ Aside0 (kq ≤ k3) ∧ Aside0 (Kd.R (Kd.int .u8) 5 w' w.heap.size (fun _ => True) (.slice (some ad107) x103002_1.length co63) x103002_1) ∧ Aside0 (Kd.R (Kd.int .u8) 5 w' w.heap.size (fun _ => True) (.slice (some ad107) x103002_1.length co63) x103002_1) ∧ Aside0 (w'.heap[gb101]? = some (.cells #[.int .i64 x102000_4, .int .i64 x102001_4, (.slice none 0 0)] 62 (0, 0))) ∧ Aside0 (w'.heap[gb102]? = some (.cells #[.int .i64 x103000_1, .int .i64 x103001_1, (.slice (some ad107) x103002_1.length co63)] 62 (0, 0))) ∧ Aside0 (Kd.C (Kd.int .u8) w' (some ad107) y108.length y108) ∧ Aside0 (Below w.heap.size w w'))
              case atStart => exact ⟨(0), (x102000_3), (x102001_3), aq6, H', ⟨Nat.le_refl _⟩, ⟨aq56⟩, ⟨aq23⟩, ⟨aq2⟩, ⟨aq12⟩, ⟨aq47⟩, ⟨aq7⟩⟩
              case round =>
               clear H'
               try clear c1
               try clear p1
               try clear q1
               try clear hx1
               try clear c2
               try clear c2b0
               try clear c2b1
               try clear p2
               try clear q2
               try clear hx2
               try clear c3
               try clear c4
               try clear c5
               try clear c6
               try clear p6
               try clear q7
               try clear c9
               try clear c10
               try clear p10
               try clear q10
               try clear hx10
               try clear c12
               try clear c12b0
               try clear c14
               try clear c14b0
               try clear c15
               try clear c15b0
               try clear p16
               try clear q16
               try clear hx16
               try clear c17
               try clear c18
               try clear c18b0
               try clear c19
               try clear c19b0
               try clear p20
               try clear q20
               try clear hx20
               try clear c22
               try clear p23
               try clear q23
               try clear hx23
               try clear c24
               try clear c29
               try clear c31
               try clear c31b0
               try clear c32
               try clear c32b0
               try clear c32b1
               try clear c33
               try clear c33b0
               try clear c33b1
               try clear c34
               try clear c37
               try clear c39
               try clear c42
               try clear c42b0
               try clear c42b1
               try clear c43
               try clear c46
               try clear c49
               try clear c49b0
               try clear c50
               try clear c51
               try clear c52
               try clear c52b0
               try clear c53
               try clear c55
               try clear c58
               try clear c59
               try clear c61
               try clear c64
               try clear c64b0
               try clear p64
               try clear c65
               try clear c65b0
               try clear c66
               try clear c66b0
               try clear c67
               try clear c67b0
               try clear c68
               try clear c68b0
               try clear c68b1
               try clear c69
               try clear q71
               try clear hcz11_0
               try clear hcz11_1
               try clear hcz11_2
               try clear hcz30_0
               try clear hcz30_1
               try clear hcz30_2
               try clear hcz35_0
               try clear hcz35_1
               try clear hcz35_2
               try clear hcz36_0
               try clear hcz36_1
               try clear hcz36_2
               try clear hcz38_0
               try clear hcz38_1
               try clear hcz38_2
               try clear hcz40_0
               try clear hcz40_1
               try clear hcz40_2
               try clear hcz41_0
               try clear hcz41_1
               try clear hcz41_2
               try clear hcz44_0
               try clear hcz44_1
               try clear hcz44_2
               try clear hcz45_0
               try clear hcz45_1
               try clear hcz45_2
               try clear hcz47_0
               try clear hcz47_1
               try clear hcz47_2
               try clear hcz51_0
               try clear hcz51_1
               try clear hcz51_2
               try clear hcz54_0
               try clear hcz54_1
               try clear hcz54_2
               try clear hcz56_0
               try clear hcz56_1
               try clear hcz56_2
               try clear hcz60_0
               try clear hcz60_1
               try clear hcz60_2
               try clear hcz62_0
               try clear hcz62_1
               try clear hcz62_2
               try clear hcz6_0
               try clear hcz6_1
               try clear hcz6_2
               try clear hcz70_0
               try clear hcz70_1
               try clear hcz70_2
               try clear hcz7_0
               try clear hcz7_1
               try clear hcz7_2
               try clear hfz11_0
               try clear hfz11_1
               try clear hfz11_2
               try clear hfz30_0
               try clear hfz30_1
               try clear hfz30_2
               try clear hfz35_0
               try clear hfz35_1
               try clear hfz35_2
               try clear hfz36_0
               try clear hfz36_1
               try clear hfz36_2
               try clear hfz38_0
               try clear hfz38_1
               try clear hfz38_2
               try clear hfz40_0
               try clear hfz40_1
               try clear hfz40_2
               try clear hfz41_0
               try clear hfz41_1
               try clear hfz41_2
               try clear hfz44_0
               try clear hfz44_1
               try clear hfz44_2
               try clear hfz45_0
               try clear hfz45_1
               try clear hfz45_2
               try clear hfz47_0
               try clear hfz47_1
               try clear hfz47_2
               try clear hfz51_0
               try clear hfz51_1
               try clear hfz51_2
               try clear hfz54_0
               try clear hfz54_1
               try clear hfz54_2
               try clear hfz56_0
               try clear hfz56_1
               try clear hfz56_2
               try clear hfz60_0
               try clear hfz60_1
               try clear hfz60_2
               try clear hfz62_0
               try clear hfz62_1
               try clear hfz62_2
               try clear hfz6_0
               try clear hfz6_1
               try clear hfz6_2
               try clear hfz70_0
               try clear hfz70_1
               try clear hfz70_2
               try clear hfz7_0
               try clear hfz7_1
               try clear hfz7_2
               try clear hx107_0
               try clear p1
               try clear p107
               try clear p16
               try clear p2
               try clear p20
               try clear p23
               try clear p6
               try clear q1
               try clear q107
               try clear q16
               try clear q2
               try clear q20
               try clear q23
               try clear q71
               obtain ⟨x96_4, x102000_4, x102001_4, rfl, HA, HK4, HO_84, HO_103002, BK101, BK102, HR111, HB⟩ := hrel
               cases gk with
               | zero => exact absurd HA.out (by simp [spec_tyRead.l2])
               | succ k4 =>
                have H := HA.out
                clear HA
                simp only [spec_tyRead.l2] at H
                by_cases c72 : x96_4 < (y108.length : Int)
                ·rw [if_pos c72] at H
                 have c72b0 := decide_eq_true c72
                 clear c72
                 by_cases c73 : 0 ≤ x96_4
                 ·rw [if_pos c73] at H
                  have c73b0 := decide_eq_true c73
                  clear c73
                  by_cases c74 : x96_4 < (y108.length : Int)
                  ·rw [if_pos c74] at H
                   have c74b0 := decide_eq_true c74
                   clear c74
                   by_cases c75 : (rd x103002_1 x86_3) = (rd y108 x96_4)
                   ·rw [if_pos c75] at H
                    have c75b0 := beq_iff_eq.mpr c75
                    have c75b1 := bne_eq_false_iff_eq.mpr c75
                    clear c75
                    by_cases c76 : (rd x103002_1 x86_3) ≥ 97
                    ·rw [if_pos c76] at H
                     have c76b0 := decide_eq_true c76
                     clear c76
                     by_cases c77 : (rd x103002_1 x86_3) ≤ 102
                     ·rw [if_pos c77] at H
                      have c77b0 := decide_eq_true c77
                      clear c77
                      simp only [Option.some.injEq, Prod.mk.injEq] at H
                      obtain ⟨rfl, rfl, rfl, rfl⟩ := H
                      have p112 : 0 ≤ (x96_4 : Int) := of_decide_eq_true aq5
                      have q112 : x96_4 < (y108.length : Int) := of_decide_eq_true aq5
                      obtain ⟨ad112, e112, hx112_0⟩ := Kd.at_int HR111.out x96_4 p112 q112
                      obtain rfl : ad107 = ad112 := (by injection e112)
                      try replace hx112_0 := (HB.out.cell (World.block_lt_of_cell? w _ hx112_0)).trans hx112_0
                      replace p112 := eq_true p112
                      replace q112 := eq_true q112
                      have hnb78 := NB101_102.out
                      have hnc78 := NB102_101.out
                      obtain ⟨hcz79_0, hcz79_1, hcz79_2, hfz79_0, hfz79_1, hfz79_2⟩ := blk3_ BK101.out
                      go_wp2
                      refine bodyPost_ret (results_ct rfl _ _ gb101 62 #[.int .i64 0, .int .i64 0, .slice none 0 0] (0, 0) _ rfl (by (with_reducible repeat (first | refine blk_drewN ?_ _ | refine blk_drew ?_ | refine blk_alloc ?_ _)); refine blk_put (cs := #[.int .i64 0, .int .i64 0, .slice none 0 0]) ?_ 2 _ rfl; (with_reducible repeat (first | refine blk_drewN ?_ _ | refine blk_drew ?_ | refine blk_alloc ?_ _)); refine blk_put (cs := #[.int .i64 0, .int .i64 x102001_4, .slice none 0 0]) ?_ 1 _ rfl; (with_reducible repeat (first | refine blk_drewN ?_ _ | refine blk_drew ?_ | refine blk_alloc ?_ _)); refine blk_put (cs := #[.int .i64 x102000_4, .int .i64 x102001_4, .slice none 0 0]) ?_ 0 _ rfl; (with_reducible repeat (first | refine blk_drewN ?_ _ | refine blk_drew ?_ | refine blk_alloc ?_ _)); exact BK101.out) Tryz.underlying62 rfl (by kernel_rfl)) rfl ?_
                      exact ⟨_, aq8, aq17, aq7⟩
                     ·rw [if_neg c77] at H
                      have c77b0 := decide_eq_false c77
                      clear c77
                      have H' := am H
                      clear H
                      have p112 : 0 ≤ (x96_4 : Int) := of_decide_eq_true aq5
                      have q112 : x96_4 < (y108.length : Int) := of_decide_eq_true aq5
                      obtain ⟨ad112, e112, hx112_0⟩ := Kd.at_int HR111.out x96_4 p112 q112
                      obtain rfl : ad107 = ad112 := (by injection e112)
                      try replace hx112_0 := (HB.out.cell (World.block_lt_of_cell? w _ hx112_0)).trans hx112_0
                      replace p112 := eq_true p112
                      replace q112 := eq_true q112
                      go_wp2
                      go_roundg k4
                      case measure => have := HK1.out; have := HJ47.out; have := HK3.out; have := HK4.out; omega
                      case rel => exact ⟨(wrap64 (x96_4 + 1)), (x102000_4), (x102001_4), aq6, H', ⟨aq76⟩, ⟨aq56⟩, ⟨aq23⟩, ⟨aq2⟩, ⟨aq12⟩, ⟨aq47⟩, ⟨aq7⟩⟩
                    ·rw [if_neg c76] at H
                     have c76b0 := decide_eq_false c76
                     clear c76
                     have H' := am H
                     clear H
                     have p112 : 0 ≤ (x96_4 : Int) := of_decide_eq_true aq5
                     have q112 : x96_4 < (y108.length : Int) := of_decide_eq_true aq5
                     obtain ⟨ad112, e112, hx112_0⟩ := Kd.at_int HR111.out x96_4 p112 q112
                     obtain rfl : ad107 = ad112 := (by injection e112)
                     try replace hx112_0 := (HB.out.cell (World.block_lt_of_cell? w _ hx112_0)).trans hx112_0
                     replace p112 := eq_true p112
                     replace q112 := eq_true q112
                     go_wp2
                     go_roundg k4
                     case measure => have := HK1.out; have := HJ47.out; have := HK3.out; have := HK4.out; omega
                     case rel => exact ⟨(wrap64 (x96_4 + 1)), (x102000_4), (x102001_4), aq6, H', ⟨aq76⟩, ⟨aq56⟩, ⟨aq23⟩, ⟨aq2⟩, ⟨aq12⟩, ⟨aq47⟩, ⟨aq7⟩⟩
                   ·rw [if_neg c75] at H
                    have c75b0 := beq_eq_false_iff_ne.mpr c75
                    have c75b1 := bne_iff_ne.mpr c75
                    have H' := am H
                    clear H
                    have p112 : 0 ≤ (x96_4 : Int) := of_decide_eq_true aq5
                    have q112 : x96_4 < (y108.length : Int) := of_decide_eq_true aq5
                    obtain ⟨ad112, e112, hx112_0⟩ := Kd.at_int HR111.out x96_4 p112 q112
                    obtain rfl : ad107 = ad112 := (by injection e112)
                    try replace hx112_0 := (HB.out.cell (World.block_lt_of_cell? w _ hx112_0)).trans hx112_0
                    replace p112 := eq_true p112
                    replace q112 := eq_true q112
                    go_wp2
                    go_roundg k4
                    case measure => have := HK1.out; have := HJ47.out; have := HK3.out; have := HK4.out; omega
                    case rel => exact ⟨(wrap64 (x96_4 + 1)), (x102000_4), (x102001_4), aq6, H', ⟨aq76⟩, ⟨aq56⟩, ⟨aq23⟩, ⟨aq2⟩, ⟨aq12⟩, ⟨aq47⟩, ⟨aq7⟩⟩
                  ·rw [if_neg c74] at H
                   exact absurd H (by simp)
                 ·rw [if_neg c73] at H
                  exact absurd H (by simp)
                ·rw [if_neg c72] at H
                 have c72b0 := decide_eq_false c72
                 clear c72
                 have H' := am H
                 clear H
                 go_wp2
                 go_roundg k4
                 case measure => have := HK1.out; have := HJ47.out; have := HK3.out; have := HK4.out; omega
                 case rel => exact ⟨(wrap64 (x86_3 + 1)), (x102000_4), (x102001_4), aq6, H', ⟨aq76⟩, ⟨aq56⟩, ⟨aq23⟩, ⟨aq2⟩, ⟨aq12⟩, ⟨aq7⟩⟩
             ·rw [if_neg c68] at H
              exact absurd H (by simp)
            ·rw [if_neg c66] at H
             exact absurd H (by simp)
           ·rw [if_neg c65] at H
            exact absurd H (by simp)
          ·rw [if_neg c64] at H
           have c64b0 := decide_eq_false c64
           clear c64
           simp only [Option.some.injEq, Prod.mk.injEq] at H
           obtain ⟨rfl, rfl, rfl, rfl⟩ := H
           have hnb80 := NB102_101.out
           have hnc80 := NB101_102.out
           obtain ⟨hcz81_0, hcz81_1, hcz81_2, hfz81_0, hfz81_1, hfz81_2⟩ := blk3_ BK102.out
           obtain ⟨hcz82_0, hcz82_1, hcz82_2, hfz82_0, hfz82_1, hfz82_2⟩ := blk3_ BK101.out
           go_wp2
           refine bodyPost_ret (results_ct rfl _ _ gb101 62 #[.int .i64 x103000_1, .int .i64 x103001_1, .slice Ao63 x103002_1.length co63] (0, 0) _ rfl (by (with_reducible repeat (first | refine blk_drewN ?_ _ | refine blk_drew ?_ | refine blk_alloc ?_ _)); refine blk_put (cs := #[.int .i64 x103000_1, .int .i64 x103001_1, .slice none 0 0]) ?_ 2 _ rfl; (with_reducible repeat (first | refine blk_drewN ?_ _ | refine blk_drew ?_ | refine blk_alloc ?_ _)); refine blk_put (cs := #[.int .i64 x103000_1, .int .i64 x102001_3, .slice none 0 0]) ?_ 1 _ rfl; (with_reducible repeat (first | refine blk_drewN ?_ _ | refine blk_drew ?_ | refine blk_alloc ?_ _)); refine blk_put (cs := #[.int .i64 x102000_3, .int .i64 x102001_3, .slice none 0 0]) ?_ 0 _ rfl; (with_reducible repeat (first | refine blk_drewN ?_ _ | refine blk_drew ?_ | refine blk_alloc ?_ _)); exact BK101.out) Tryz.underlying62 rfl (by kernel_rfl)) rfl ?_
           exact ⟨_, aq8, by (with_reducible repeat (first | apply Kd.R_alloc | apply Kd.R_drewN | apply Kd.R_drew)); exact Kd.R_mono (Kd.R_far (p := ⟨gb101, 2, none⟩) (Kd.R_far (p := ⟨gb101, 1, none⟩) (Kd.R_far (p := ⟨gb101, 0, none⟩) (Kd.R_types HO_103002.out BK101.out (by decide)) (fun _ hk => hk.2) (.int .i64 x103000_1)) (fun _ hk => hk.2) (.int .i64 x103001_1)) (fun _ hk => hk.2) (.slice Ao63 x103002_1.length co63)) (fun _ hk => trivial), aq7⟩
def impl_within.f (a0 : Int) (a1 : Int) (a2 : Int) : Option (Bool) := if a1 ≤ a0 then (some (decide (a0 ≤ a2))) else (some false)
set_option maxHeartbeats 8000000 in
set_option maxRecDepth 100000 in
theorem impl_within.calls (a0 : Int) (a1 : Int) (a2 : Int) (r : Bool) (w : World) (h : impl_within.f a0 a1 a2 = some r) :
  Calls Tryz.prog 56 #[.int .i64 a0, .int .i64 a1, .int .i64 a2] w fun e w' => e = .returned (.bool r) ∧ Drawn0 w w' := by
 have H : (if a1 ≤ a0 then (some (decide (a0 ≤ a2))) else (some false)) = some r := h
 clear h
 by_cases c4 : a1 ≤ a0
 ·rw [if_pos c4] at H
  have c4b0 := decide_eq_true c4
  clear c4
  obtain rfl := Option.some.inj H
  go_enter Tryz.func56, Tryz.ntmps56
  go_wp2
  go_ret
  exact ⟨aq6, aq14⟩
 ·rw [if_neg c4] at H
  have c4b0 := decide_eq_false c4
  clear c4
  obtain rfl := Option.some.inj H
  go_enter Tryz.func56, Tryz.ntmps56
  go_wp2
  go_ret
  exact ⟨aq6, aq14⟩
def impl_isSize.f (a0 : Int) (a1 : Int) : Option (Bool) := (impl_within.f a0 1 7).bind fun t101 => (if t101 = true then ((impl_within.f a1 1 7).bind fun t102 => (if t102 = true then (some (decide ((wrap64 (a0 * a1)) ≤ 36))) else (some false))) else (some false))
set_option maxHeartbeats 8000000 in
set_option maxRecDepth 100000 in
theorem impl_isSize.calls (a0 : Int) (a1 : Int) (r : Bool) (w : World) (h : impl_isSize.f a0 a1 = some r) :
  Calls Tryz.prog 102 #[.int .i64 a0, .int .i64 a1] w fun e w' => e = .returned (.bool r) ∧ Drawn0 w w' := by
 have H : ((impl_within.f a0 1 7).bind fun t101 => (if t101 = true then ((impl_within.f a1 1 7).bind fun t102 => (if t102 = true then (some (decide ((wrap64 (a0 * a1)) ≤ 36))) else (some false))) else (some false))) = some r := h
 clear h
 obtain ⟨t101, A30, H⟩ := Option.bind_eq_some_iff.mp H
 have A3 := am A30
 clear A30
 by_cases c4 : t101 = true
 ·subst c4
  rw [if_pos rfl] at H
  obtain ⟨t102, A50, H⟩ := Option.bind_eq_some_iff.mp H
  have A5 := am A50
  clear A50
  by_cases c6 : t102 = true
  ·subst c6
   rw [if_pos rfl] at H
   obtain rfl := Option.some.inj H
   go_enter Tryz.func102, Tryz.ntmps102
   go_wp2_with (first | ((with_reducible refine gate_callee (f := 56) rfl ?_); refine goesL_ (some 6) rfl rfl Tryz.func56 (by kernel_rfl) rfl #[.int .i64 a0, .int .i64 1, .int .i64 7] rfl aq4 ?_; (with_reducible refine (impl_within.calls a0 1 7 true _ A3.out).mono ?_); rintro e w' ⟨rfl, ⟨nd, rfl⟩⟩; refine ⟨_, rfl, ?_⟩) | (go_at_call 56; (with_reducible refine (impl_within.calls a1 1 7 true _ A5.out).mono ?_); rintro e w' ⟨rfl, ⟨nd, rfl⟩⟩))
   go_ret
   exact ⟨aq6, aq14⟩
  ·replace c6 := Bool.eq_false_iff.mpr c6
   subst c6
   rw [if_neg Bool.false_ne_true] at H
   obtain rfl := Option.some.inj H
   go_enter Tryz.func102, Tryz.ntmps102
   go_wp2_with (first | ((with_reducible refine gate_callee (f := 56) rfl ?_); refine goesL_ (some 6) rfl rfl Tryz.func56 (by kernel_rfl) rfl #[.int .i64 a0, .int .i64 1, .int .i64 7] rfl aq4 ?_; (with_reducible refine (impl_within.calls a0 1 7 true _ A3.out).mono ?_); rintro e w' ⟨rfl, ⟨nd, rfl⟩⟩; refine ⟨_, rfl, ?_⟩) | (go_at_call 56; (with_reducible refine (impl_within.calls a1 1 7 false _ A5.out).mono ?_); rintro e w' ⟨rfl, ⟨nd, rfl⟩⟩))
   go_ret
   exact ⟨aq6, aq14⟩
 ·replace c4 := Bool.eq_false_iff.mpr c4
  subst c4
  rw [if_neg Bool.false_ne_true] at H
  obtain rfl := Option.some.inj H
  go_enter Tryz.func102, Tryz.ntmps102
  go_wp2_with (first | ((with_reducible refine gate_callee (f := 56) rfl ?_); refine goesL_ (some 6) rfl rfl Tryz.func56 (by kernel_rfl) rfl #[.int .i64 a0, .int .i64 1, .int .i64 7] rfl aq4 ?_; (with_reducible refine (impl_within.calls a0 1 7 false _ A3.out).mono ?_); rintro e w' ⟨rfl, ⟨nd, rfl⟩⟩; refine ⟨_, rfl, ?_⟩))
  go_ret
  exact ⟨aq6, aq14⟩
mutual
def impl_IsTray.l0 : Nat → ByteArray → List ByteArray → List ByteArray → Int → Int → Option (Bool)
 | 0, _, _, _, _, _ => none
 | k + 1, x0, x3, x17, x18, x19 => if x19 < x18 then (if 0 ≤ x19 then (if x19 < (x17.length : Int) then (if 0 < (x3.length : Int) then (if ((rdOf ByteArray.empty x17 x19).size : Int) = ((rdOf ByteArray.empty x3 0).size : Int) then ((strings_Trim.f (rdOf ByteArray.empty x17 x19) (⟨#[35, 46, 111, 97, 98, 99, 100, 101, 102]⟩ : ByteArray)).bind fun t108 => (if t108.toList = ([] : List UInt8) then (impl_IsTray.l0 k x0 x3 x17 x18 (wrap64 (x19 + 1))) else (some false))) else (some false)) else (none)) else (none)) else (none)) else (impl_IsTray.l1 k x0 97)
def impl_IsTray.l1 : Nat → ByteArray → Int → Option (Bool)
 | 0, _, _ => none
 | k + 1, x0, x6 => if x6 ≤ 102 then ((strings_Count.f x0 (Utf8.encode x6)).bind fun t109 => (if t109 > 1 then (some false) else (impl_IsTray.l1 k x0 (wrap32 (x6 + 1))))) else (some true)
end
def impl_IsTray.f (k : Nat) (a0 : ByteArray) : Option (Bool) := (strings_Split.f a0 (⟨#[47]⟩ : ByteArray)).bind fun t101 => (if 0 < (t101.length : Int) then ((impl_isSize.f ((rdOf ByteArray.empty t101 0).size : Int) (t101.length : Int)).bind fun t105 => (if t105 = true then (impl_IsTray.l0 k a0 t101 t101 (t101.length : Int) 0) else (some false))) else (none))
theorem impl_IsTray.mono_l : ∀ k, (∀ y0 y1 y2 y3 y4, LeO (impl_IsTray.l0 k y0 y1 y2 y3 y4) (impl_IsTray.l0 (k + 1) y0 y1 y2 y3 y4)) ∧ (∀ y0 y1, LeO (impl_IsTray.l1 k y0 y1) (impl_IsTray.l1 (k + 1) y0 y1))
 | 0 => ⟨fun _ _ _ _ _ r h => by simp [impl_IsTray.l0] at h, fun _ _ r h => by simp [impl_IsTray.l1] at h⟩
 | k + 1 => by
  obtain ⟨ih0, ih1⟩ := impl_IsTray.mono_l k
  refine ⟨?_, ?_⟩
  ·intro y0 y1 y2 y3 y4
   unfold impl_IsTray.l0
   exact mo
  ·intro y0 y1
   unfold impl_IsTray.l1
   exact mo
theorem impl_IsTray.mono : ∀ a0 k, LeO (impl_IsTray.f k a0) (impl_IsTray.f (k + 1) a0) := by
 intro a0 k
 obtain ⟨ih0, ih1⟩ := impl_IsTray.mono_l k
 unfold impl_IsTray.f
 exact mo
set_option maxHeartbeats 8000000 in
set_option maxRecDepth 100000 in
theorem impl_IsTray.calls (k : Nat) (a0 : ByteArray) (r : Bool) (w : World) (h : impl_IsTray.f k a0 = some r) :
  Calls Tryz.prog 55 #[.string a0] w fun e w' => e = .returned (.bool r) ∧ Below w.heap.size w w' := by
 have HB := am (Below.refl w.heap.size w)
 have H : ((strings_Split.f a0 (⟨#[47]⟩ : ByteArray)).bind fun t101 => (if 0 < (t101.length : Int) then ((impl_isSize.f ((rdOf ByteArray.empty t101 0).size : Int) (t101.length : Int)).bind fun t105 => (if t105 = true then (impl_IsTray.l0 k a0 t101 t101 (t101.length : Int) 0) else (some false))) else (none))) = some r := h
 clear h
 obtain ⟨t101, A20, H⟩ := Option.bind_eq_some_iff.mp H
 have A2 := am A20
 clear A20
 by_cases c3 : 0 < (t101.length : Int)
 ·rw [if_pos c3] at H
  have c3b0 := decide_eq_true c3
  have c3b1 : decide (0 < t101.length) = true := decide_eq_true (by omega)
  clear c3
  obtain ⟨t105, A40, H⟩ := Option.bind_eq_some_iff.mp H
  have A4 := am A40
  clear A40
  by_cases c5 : t105 = true
  ·subst c5
   rw [if_pos rfl] at H
   have H' := am H
   clear H
   go_enter Tryz.func55, Tryz.ntmps55
   go_wp2_with (first | ((with_reducible refine gate_callee (f := 101) rfl ?_); refine goesL_ (some 8) rfl rfl Tryz.func101 (by kernel_rfl) rfl #[.string a0, .string (⟨#[47]⟩ : ByteArray)] rfl aq4 ?_; (with_reducible refine (strings_Split.calls a0 (⟨#[47]⟩ : ByteArray) t101 _ A2.out).mono ?_); rintro e w6 ⟨v102, rfl, ho0, hb⟩; refine ⟨_, rfl, ?_⟩; have n0_ := am (Kd.R_lower ho0 (below_size aq1)); have n1_ := am (below_step aq1 hb); clear HB; have HO103 := n0_; have HB := n1_; clear n0_ n1_; (try clear hb); (try clear hb2); (try clear hk); (try clear hi); (try clear ho0); obtain ⟨Ao7, co7, eo7⟩ := Kd.R_slice HO103.out; subst eo7; have p104 : 0 ≤ (0 : Int) := (by omega); have q104 : 0 < (t101.length : Int) := of_decide_eq_true aq5; obtain ⟨ad104, e104, hx104_0⟩ := Kd.at_string (Kd.R_reads' HO103.out).2.2 0 p104 q104; cases e104; have qi104 : (0 < t101.length) = True := eq_true (by omega); (try rw [show ((0 : Int)).toNat = 0 from rfl] at hx104_0); (try rw [Addr.add_zero'] at hx104_0); replace p104 := eq_true p104; replace q104 := eq_true q104) | ((with_reducible refine gate_callee (f := 102) rfl ?_); refine goesL_ (some 15) rfl rfl Tryz.func102 (by kernel_rfl) rfl #[.int .i64 ((rdOf ByteArray.empty t101 0).size : Int), .int .i64 (t101.length : Int)] rfl aq4 ?_; (with_reducible refine (impl_isSize.calls ((rdOf ByteArray.empty t101 0).size : Int) (t101.length : Int) true _ A4.out).mono ?_); rintro e w' ⟨rfl, ⟨nd, rfl⟩⟩; refine ⟨_, rfl, ?_⟩))
   go_loopg [19] k (fun kq v19 w' => ∃ (x19_1 : Int), v19 = .int .i64 x19_1 ∧ Aside0 (impl_IsTray.l0 kq a0 t101 t101 (t101.length : Int) x19_1 = some r) ∧ Aside0 (kq ≤ k) ∧ Aside0 (Kd.R Kd.string 9 w' w.heap.size (fun _ => True) (.slice (some ad104) t101.length co7) t101) ∧ Aside0 (Kd.R Kd.string 9 w' w.heap.size (fun _ => True) (.slice (some ad104) t101.length co7) t101) ∧ Aside0 (Below w.heap.size w w'))
   case atStart => exact ⟨(0), aq6, H', ⟨Nat.le_refl _⟩, ⟨by (with_reducible repeat (first | apply Kd.R_alloc | apply Kd.R_drewN | apply Kd.R_drew)); exact HO103.out⟩, ⟨by (with_reducible repeat (first | apply Kd.R_alloc | apply Kd.R_drewN | apply Kd.R_drew)); exact HO103.out⟩, ⟨aq1⟩⟩
   case round =>
    clear H'
    try clear c1
    try clear p1
    try clear q1
    try clear hx1
    try clear qi1
    try clear p2
    try clear c3
    try clear c3b0
    try clear c3b1
    try clear c5
    try clear hx104_0
    try clear p104
    try clear q104
    obtain ⟨x19_1, rfl, HA, HK1, HO_3, HO_17, HB⟩ := hrel
    cases gk with
    | zero => exact absurd HA.out (by simp [impl_IsTray.l0])
    | succ k1 =>
     have H := HA.out
     clear HA
     simp only [impl_IsTray.l0] at H
     by_cases c8 : x19_1 < (t101.length : Int)
     ·rw [if_pos c8] at H
      have c8b0 := decide_eq_true c8
      clear c8
      by_cases c9 : 0 ≤ x19_1
      ·rw [if_pos c9] at H
       have c9b0 := decide_eq_true c9
       clear c9
       by_cases c10 : x19_1 < (t101.length : Int)
       ·rw [if_pos c10] at H
        have c10b0 := decide_eq_true c10
        clear c10
        by_cases c11 : 0 < (t101.length : Int)
        ·rw [if_pos c11] at H
         have c11b0 := decide_eq_true c11
         have c11b1 : decide (0 < t101.length) = true := decide_eq_true (by omega)
         clear c11
         by_cases c12 : ((rdOf ByteArray.empty t101 x19_1).size : Int) = ((rdOf ByteArray.empty t101 0).size : Int)
         ·rw [if_pos c12] at H
          have c12b0 := beq_iff_eq.mpr c12
          have c12b1 := bne_eq_false_iff_eq.mpr c12
          have c12b2 : ((rdOf ByteArray.empty t101 x19_1).size == (rdOf ByteArray.empty t101 0).size) = true := by first | simpa using c12 | (simp at c12 ⊢; omega)
          clear c12
          obtain ⟨t108, A130, H⟩ := Option.bind_eq_some_iff.mp H
          have A13 := am A130
          clear A130
          by_cases c14 : t108.toList = ([] : List UInt8)
          ·rw [if_pos c14] at H
           have c14b0 := beq_iff_eq.mpr c14
           have c14b1 := bne_eq_false_iff_eq.mpr c14
           clear c14
           have H' := am H
           clear H
           have p106 : 0 ≤ (x19_1 : Int) := of_decide_eq_true aq5
           have q106 : x19_1 < (t101.length : Int) := of_decide_eq_true aq5
           obtain ⟨ad106, e106, hx106_0⟩ := Kd.at_string (Kd.R_reads' HO_17.out).2.2 x19_1 p106 q106
           obtain rfl : ad104 = ad106 := (by injection e106)
           replace p106 := eq_true p106
           replace q106 := eq_true q106
           have p107 : 0 ≤ (0 : Int) := (by omega)
           have q107 : 0 < (t101.length : Int) := of_decide_eq_true aq5
           obtain ⟨ad107, e107, hx107_0⟩ := Kd.at_string (Kd.R_reads' HO_3.out).2.2 0 p107 q107
           obtain rfl : ad104 = ad107 := (by injection e107)
           have qi107 : (0 < t101.length) = True := eq_true (by omega)
           (try rw [show ((0 : Int)).toNat = 0 from rfl] at hx107_0)
           (try rw [Addr.add_zero'] at hx107_0)
           replace p107 := eq_true p107
           replace q107 := eq_true q107
           go_wp2_with (first | (go_at_call 103; (with_reducible refine (strings_Trim.calls (rdOf ByteArray.empty t101 x19_1) (⟨#[35, 46, 111, 97, 98, 99, 100, 101, 102]⟩ : ByteArray) t108 _ A13.out).mono ?_); rintro e w15 ⟨rfl, hb⟩; have n0_ := am (Kd.R_below aq51 hb); have n1_ := am (Kd.R_below aq77 hb); have n2_ := am (below_step aq1 hb); clear HO_3; clear HO_17; clear HB; have HO_3 := n0_; have HO_17 := n1_; have HB := n2_; clear n0_ n1_ n2_; (try clear hb); (try clear hb2); (try clear hk); (try clear hi)))
           go_roundg k1
           case measure => have := HK1.out; omega
           case rel => exact ⟨(wrap64 (x19_1 + 1)), aq6, H', ⟨aq65⟩, ⟨aq51⟩, ⟨aq77⟩, ⟨aq1⟩⟩
          ·rw [if_neg c14] at H
           have c14b0 := beq_eq_false_iff_ne.mpr c14
           have c14b1 := bne_iff_ne.mpr c14
           obtain rfl := Option.some.inj H
           have p106 : 0 ≤ (x19_1 : Int) := of_decide_eq_true aq5
           have q106 : x19_1 < (t101.length : Int) := of_decide_eq_true aq5
           obtain ⟨ad106, e106, hx106_0⟩ := Kd.at_string (Kd.R_reads' HO_17.out).2.2 x19_1 p106 q106
           obtain rfl : ad104 = ad106 := (by injection e106)
           replace p106 := eq_true p106
           replace q106 := eq_true q106
           have p107 : 0 ≤ (0 : Int) := (by omega)
           have q107 : 0 < (t101.length : Int) := of_decide_eq_true aq5
           obtain ⟨ad107, e107, hx107_0⟩ := Kd.at_string (Kd.R_reads' HO_3.out).2.2 0 p107 q107
           obtain rfl : ad104 = ad107 := (by injection e107)
           have qi107 : (0 < t101.length) = True := eq_true (by omega)
           (try rw [show ((0 : Int)).toNat = 0 from rfl] at hx107_0)
           (try rw [Addr.add_zero'] at hx107_0)
           replace p107 := eq_true p107
           replace q107 := eq_true q107
           go_wp2_with (first | (go_at_call 103; (with_reducible refine (strings_Trim.calls (rdOf ByteArray.empty t101 x19_1) (⟨#[35, 46, 111, 97, 98, 99, 100, 101, 102]⟩ : ByteArray) t108 _ A13.out).mono ?_); rintro e w16 ⟨rfl, hb⟩; have n0_ := am (Kd.R_below aq51 hb); have n1_ := am (Kd.R_below aq77 hb); have n2_ := am (below_step aq1 hb); clear HO_3; clear HO_17; clear HB; have HO_3 := n0_; have HO_17 := n1_; have HB := n2_; clear n0_ n1_ n2_; (try clear hb); (try clear hb2); (try clear hk); (try clear hi)))
           go_ret
           exact ⟨aq8, aq1⟩
         ·rw [if_neg c12] at H
          have c12b0 := beq_eq_false_iff_ne.mpr c12
          have c12b1 := bne_iff_ne.mpr c12
          have c12b2 : ((rdOf ByteArray.empty t101 x19_1).size == (rdOf ByteArray.empty t101 0).size) = false := by first | simpa using c12 | (simp at c12 ⊢; omega)
          obtain rfl := Option.some.inj H
          have p106 : 0 ≤ (x19_1 : Int) := of_decide_eq_true aq5
          have q106 : x19_1 < (t101.length : Int) := of_decide_eq_true aq5
          obtain ⟨ad106, e106, hx106_0⟩ := Kd.at_string (Kd.R_reads' HO_17.out).2.2 x19_1 p106 q106
          obtain rfl : ad104 = ad106 := (by injection e106)
          replace p106 := eq_true p106
          replace q106 := eq_true q106
          have p107 : 0 ≤ (0 : Int) := (by omega)
          have q107 : 0 < (t101.length : Int) := of_decide_eq_true aq5
          obtain ⟨ad107, e107, hx107_0⟩ := Kd.at_string (Kd.R_reads' HO_3.out).2.2 0 p107 q107
          obtain rfl : ad104 = ad107 := (by injection e107)
          have qi107 : (0 < t101.length) = True := eq_true (by omega)
          (try rw [show ((0 : Int)).toNat = 0 from rfl] at hx107_0)
          (try rw [Addr.add_zero'] at hx107_0)
          replace p107 := eq_true p107
          replace q107 := eq_true q107
          go_wp2
          go_ret
          exact ⟨aq8, aq1⟩
        ·rw [if_neg c11] at H
         exact absurd H (by simp)
       ·rw [if_neg c10] at H
        exact absurd H (by simp)
      ·rw [if_neg c9] at H
       exact absurd H (by simp)
     ·rw [if_neg c8] at H
      have c8b0 := decide_eq_false c8
      clear c8
      have H' := am H
      clear H
      go_wp2
      go_loopg [6] k1 (fun kq v6 w' => ∃ (x6_2 : Int), v6 = .int .i32 x6_2 ∧ Aside0 (impl_IsTray.l1 kq a0 x6_2 = some r) ∧ Aside0 (kq ≤ k1) ∧ Aside0 (Below w.heap.size w w'))
      case atStart => exact ⟨(97), aq6, H', ⟨Nat.le_refl _⟩, ⟨aq1⟩⟩
      case round =>
       clear H'
       try clear c1
       try clear p1
       try clear q1
       try clear hx1
       try clear qi1
       try clear p2
       try clear c3
       try clear c3b0
       try clear c3b1
       try clear c5
       try clear p6
       try clear c8
       try clear c8b0
       try clear c9
       try clear c9b0
       try clear c10
       try clear c10b0
       try clear p10
       try clear q10
       try clear hx10
       try clear qi10
       try clear c11
       try clear c11b0
       try clear c11b1
       try clear c12
       try clear c12b0
       try clear c12b1
       try clear c12b2
       try clear c14
       try clear c14b0
       try clear c14b1
       try clear hx104_0
       try clear hx106_0
       try clear hx107_0
       try clear p1
       try clear p104
       try clear p106
       try clear p107
       try clear p2
       try clear q1
       try clear q104
       try clear q106
       try clear q107
       obtain ⟨x6_2, rfl, HA, HK2, HB⟩ := hrel
       cases gk with
       | zero => exact absurd HA.out (by simp [impl_IsTray.l1])
       | succ k2 =>
        have H := HA.out
        clear HA
        simp only [impl_IsTray.l1] at H
        by_cases c17 : x6_2 ≤ 102
        ·rw [if_pos c17] at H
         have c17b0 := decide_eq_true c17
         clear c17
         obtain ⟨t109, A180, H⟩ := Option.bind_eq_some_iff.mp H
         have A18 := am A180
         clear A180
         by_cases c19 : t109 > 1
         ·rw [if_pos c19] at H
          have c19b0 := decide_eq_true c19
          clear c19
          obtain rfl := Option.some.inj H
          go_wp2_with (first | ((with_reducible refine gate_callee (f := 104) rfl ?_); refine goesL_ (some 43) rfl rfl Tryz.func104 (by kernel_rfl) rfl #[.string a0, .string (Utf8.encode x6_2)] rfl aq4 ?_; (with_reducible refine (strings_Count.calls a0 (Utf8.encode x6_2) t109 _ A18.out).mono ?_); rintro e w' ⟨rfl, ⟨nd, rfl⟩⟩; refine ⟨_, rfl, ?_⟩))
          go_ret
          exact ⟨aq8, aq1⟩
         ·rw [if_neg c19] at H
          have c19b0 := decide_eq_false c19
          clear c19
          have H' := am H
          clear H
          go_wp2_with (first | ((with_reducible refine gate_callee (f := 104) rfl ?_); refine goesL_ (some 43) rfl rfl Tryz.func104 (by kernel_rfl) rfl #[.string a0, .string (Utf8.encode x6_2)] rfl aq4 ?_; (with_reducible refine (strings_Count.calls a0 (Utf8.encode x6_2) t109 _ A18.out).mono ?_); rintro e w' ⟨rfl, ⟨nd, rfl⟩⟩; refine ⟨_, rfl, ?_⟩))
          go_roundg k2
          case measure => have := HK1.out; have := HK2.out; omega
          case rel => exact ⟨(wrap32 (x6_2 + 1)), aq6, H', ⟨aq64⟩, ⟨aq1⟩⟩
        ·rw [if_neg c17] at H
         have c17b0 := decide_eq_false c17
         clear c17
         obtain rfl := Option.some.inj H
         go_wp2
         go_ret
         exact ⟨aq8, aq1⟩
  ·replace c5 := Bool.eq_false_iff.mpr c5
   subst c5
   rw [if_neg Bool.false_ne_true] at H
   obtain rfl := Option.some.inj H
   go_enter Tryz.func55, Tryz.ntmps55
   go_wp2_with (first | ((with_reducible refine gate_callee (f := 101) rfl ?_); refine goesL_ (some 8) rfl rfl Tryz.func101 (by kernel_rfl) rfl #[.string a0, .string (⟨#[47]⟩ : ByteArray)] rfl aq4 ?_; (with_reducible refine (strings_Split.calls a0 (⟨#[47]⟩ : ByteArray) t101 _ A2.out).mono ?_); rintro e w20 ⟨v102, rfl, ho0, hb⟩; refine ⟨_, rfl, ?_⟩; have n0_ := am (Kd.R_lower ho0 (below_size aq1)); have n1_ := am (below_step aq1 hb); clear HB; have HO103 := n0_; have HB := n1_; clear n0_ n1_; (try clear hb); (try clear hb2); (try clear hk); (try clear hi); (try clear ho0); obtain ⟨Ao21, co21, eo21⟩ := Kd.R_slice HO103.out; subst eo21; have p104 : 0 ≤ (0 : Int) := (by omega); have q104 : 0 < (t101.length : Int) := of_decide_eq_true aq5; obtain ⟨ad104, e104, hx104_0⟩ := Kd.at_string (Kd.R_reads' HO103.out).2.2 0 p104 q104; cases e104; have qi104 : (0 < t101.length) = True := eq_true (by omega); (try rw [show ((0 : Int)).toNat = 0 from rfl] at hx104_0); (try rw [Addr.add_zero'] at hx104_0); replace p104 := eq_true p104; replace q104 := eq_true q104) | ((with_reducible refine gate_callee (f := 102) rfl ?_); refine goesL_ (some 15) rfl rfl Tryz.func102 (by kernel_rfl) rfl #[.int .i64 ((rdOf ByteArray.empty t101 0).size : Int), .int .i64 (t101.length : Int)] rfl aq4 ?_; (with_reducible refine (impl_isSize.calls ((rdOf ByteArray.empty t101 0).size : Int) (t101.length : Int) false _ A4.out).mono ?_); rintro e w' ⟨rfl, ⟨nd, rfl⟩⟩; refine ⟨_, rfl, ?_⟩))
   go_ret
   exact ⟨aq8, aq1⟩
 ·rw [if_neg c3] at H
  exact absurd H (by simp)
end Go.Proofs.YtdffgeoegdkiaaaGreatDoor.F

namespace Go.Proofs.YtdffgeoegdkiaaaGreatDoor.F
open Go.RowKit Go.Proofs.YtdffgeoegdkiaaaGreatDoor Go.Proofs.YtdffgeoegdkiaaaGreatDoorW.PrintWords Classical
theorem spec_tyBall_eq (c : Int) : spec_tyBall.f c = some (isBallC c) := by
  unfold spec_tyBall.f isBallC isNameC
  by_cases h3 : c = 111
  · simp [h3]
  simp only [if_neg h3]
  by_cases h4 : c ≥ 97
  · simp [h3, h4]
  · simp [h3, h4]
theorem spec_tyIs_eq (c : Int) : spec_tyIs.f c = some (isCellC c) := by
  unfold spec_tyIs.f isCellC
  rw [spec_tyBall_eq]
  by_cases h1 : c = 35
  · simp [h1]
  by_cases h2 : c = 46
  · simp [h2]
  simp [h1, h2]
def ansT : Option (Nat × Nat × List Int) → Int × Int × List Int × Bool
  | none => (0, 0, [], false)
  | some (w, h, cs) => (w, h, cs, true)
def finT (w h : Nat) (cs : List Int) : Option (Nat × Nat × List Int) := if w ≤ 7 ∧ h ≤ 7 ∧ cs.length ≤ 36 ∧ namesOk cs then some (w, h, cs) else none
theorem tyRead_l2 (cs : List Int) (hl : cs.length ≤ 100) (w h : Int) (i : Nat) (hi : i < cs.length) (r : Int × Int × List Int × Bool)
    (hk : Ev (fun k => spec_tyRead.l1 k cs cs.length (i + 1 : Nat) w h cs) r) : ∀ (d j : Nat), j + d = i → 
    Ev (fun k => spec_tyRead.l2 k (rd cs i) cs cs.length i (cs.take i) ((cs.take i).length : Int) j w h cs)
      (if ∀ m, j ≤ m → m < i → cs.getD m 0 = cs.getD i 0 → isNameC (cs.getD i 0) = false then r else (0, 0, [], false)) := by
  have hti : (cs.take i).length = i := by rw [List.length_take]; omega
  intro d
  induction d with
  | zero =>
    intro j hj
    rw [if_pos (by intro m h1 h2; omega)]
    refine Ev.step (f := fun k => spec_tyRead.l1 k cs cs.length (i + 1 : Nat) w h cs) (fun k => ?_) hk
    rw [spec_tyRead.l2, hti, if_neg (by omega), w64 (by omega) (by omega)]
    rfl
  | succ d ih =>
    intro j hj
    have hih := ih (j + 1) (by omega)
    have hr : rd (cs.take i) j = cs.getD j 0 := by
      unfold rd
      rw [Int.toNat_natCast, List.getD_eq_getElem?_getD, List.getD_eq_getElem?_getD, List.getElem?_take, if_pos (by omega)]
    have hr2 : rd cs i = cs.getD i 0 := by unfold rd; rw [Int.toNat_natCast]
    have hw : wrap64 ((j : Int) + 1) = ((j + 1 : Nat) : Int) := by rw [w64 (by omega) (by omega)]; rfl
    by_cases he : cs.getD j 0 = cs.getD i 0
    · by_cases hn : isNameC (cs.getD i 0) = false
      · have hc : (∀ m, j ≤ m → m < i → cs.getD m 0 = cs.getD i 0 → isNameC (cs.getD i 0) = false) := fun _ _ _ _ => hn
        have hc2 : (∀ m, j + 1 ≤ m → m < i → cs.getD m 0 = cs.getD i 0 → isNameC (cs.getD i 0) = false) := fun _ _ _ _ => hn
        rw [if_pos hc]
        rw [if_pos hc2] at hih
        refine Ev.step (fun k => ?_) hih
        rw [spec_tyRead.l2, hti, if_pos (by omega), if_pos (by omega), if_pos (by omega), hr, hr2, if_pos he.symm, hw]
        have : ¬ (97 ≤ cs.getD i 0 ∧ cs.getD i 0 ≤ 102) := fun e => by rw [(isNameC_iff _).2 e] at hn; cases hn
        by_cases h97 : cs.getD i 0 ≥ 97
        · rw [if_pos h97, if_neg (by omega)]
        · rw [if_neg h97]
      · have hn2 : isNameC (cs.getD i 0) = true := by simpa using hn
        have h3 := (isNameC_iff _).1 hn2
        rw [if_neg (fun hc => hn (hc j (Nat.le_refl _) (by omega) he))]
        refine Ev.step (f := fun k => some (0, 0, [], false)) (fun k => ?_) (Ev.now _)
        rw [spec_tyRead.l2, hti, if_pos (by omega), if_pos (by omega), if_pos (by omega), hr, hr2, if_pos he.symm, if_pos (by omega), if_pos (by omega)]
    · have hc : (∀ m, j ≤ m → m < i → cs.getD m 0 = cs.getD i 0 → isNameC (cs.getD i 0) = false) ↔ (∀ m, j + 1 ≤ m → m < i → cs.getD m 0 = cs.getD i 0 → isNameC (cs.getD i 0) = false) := by
        constructor
        · intro hh m h1 h2; exact hh m (by omega) h2
        · intro hh m h1 h2 h3
          rcases Nat.lt_or_ge j m with h4 | h4
          · exact hh m h4 h2 h3
          · obtain rfl : m = j := by omega
            exact absurd h3 he
      simp only [hc]
      refine Ev.step (fun k => ?_) hih
      rw [spec_tyRead.l2, hti, if_pos (by omega), if_pos (by omega), if_pos (by omega), hr, hr2, if_neg (fun e => he e.symm), hw]
theorem tyRead_l1 (cs : List Int) (hl : cs.length ≤ 100) (w h : Nat) : ∀ (d i : Nat), i + d = cs.length →
    Ev (fun k => spec_tyRead.l1 k cs cs.length i w h cs)
      (if ∀ m, i ≤ m → m < cs.length → ∀ j, j < m → cs.getD j 0 = cs.getD m 0 → isNameC (cs.getD m 0) = false then (w, h, cs, true) else (0, 0, [], false)) := by
  intro d
  induction d with
  | zero =>
    intro i hi
    rw [if_pos (by intro m h1 h2; omega)]
    refine Ev.step (f := fun k => some ((w : Int), (h : Int), cs, true)) (fun k => ?_) (Ev.now _)
    rw [spec_tyRead.l1, if_neg (by omega)]
  | succ d ih =>
    intro i hi
    have h2 := tyRead_l2 cs hl w h i (by omega) _ (ih (i + 1) (by omega)) i 0 (by omega)
    have hc : (if ∀ m, 0 ≤ m → m < i → cs.getD m 0 = cs.getD i 0 → isNameC (cs.getD i 0) = false then
        (if ∀ m, i + 1 ≤ m → m < cs.length → ∀ j, j < m → cs.getD j 0 = cs.getD m 0 → isNameC (cs.getD m 0) = false then ((w : Int), (h : Int), cs, true) else (0, 0, [], false)) else (0, 0, [], false)) =
        (if ∀ m, i ≤ m → m < cs.length → ∀ j, j < m → cs.getD j 0 = cs.getD m 0 → isNameC (cs.getD m 0) = false then ((w : Int), (h : Int), cs, true) else (0, 0, [], false)) := by
      by_cases h3 : ∀ m, i ≤ m → m < cs.length → ∀ j, j < m → cs.getD j 0 = cs.getD m 0 → isNameC (cs.getD m 0) = false
      · rw [if_pos h3, if_pos (fun m _ hm => h3 i (Nat.le_refl _) (by omega) m hm), if_pos (fun m hm => h3 m (by omega))]
      · rw [if_neg h3]
        by_cases h4 : ∀ m, 0 ≤ m → m < i → cs.getD m 0 = cs.getD i 0 → isNameC (cs.getD i 0) = false
        · rw [if_pos h4, if_neg]
          intro h5
          refine h3 (fun m h6 h7 j h8 => ?_)
          rcases Nat.lt_or_ge i m with h9 | h9
          · exact h5 m h9 h7 j h8
          · obtain rfl : m = i := by omega
            exact h4 j (Nat.zero_le _) h8
        · rw [if_neg h4]
    rw [hc] at h2
    refine Ev.step (fun k => ?_) h2
    rw [spec_tyRead.l1, if_pos (by omega), if_pos (by omega), if_pos (by omega), if_pos (by omega)]
    simp only [Option.bind_some, Int.toNat_natCast]
    rfl
theorem tyRead_fin (w h : Nat) (cs : List Int) (hl : cs.length ≤ 100) :
    Ev (fun k => if (w : Int) > 7 then spec_tyRead.j2 k true w h cs else if (h : Int) > 7 then spec_tyRead.j2 k true w h cs else spec_tyRead.j2 k (decide ((cs.length : Int) > 36)) w h cs) (ansT (finT w h cs)) := by
  have hno : Ev (fun k => spec_tyRead.j2 k true w h cs) (0, 0, [], false) := Ev.step (f := fun _ => some (0, 0, [], false)) (fun k => by rw [spec_tyRead.j2, if_pos rfl]) (Ev.now _)
  unfold finT
  by_cases h1 : (w : Int) > 7
  · simp only [if_pos h1]; rw [if_neg (by omega)]; exact hno
  simp only [if_neg h1]
  by_cases h2 : (h : Int) > 7
  · simp only [if_pos h2]; rw [if_neg (by omega)]; exact hno
  simp only [if_neg h2]
  by_cases h3 : (cs.length : Int) > 36
  · simp only [decide_eq_true h3]; rw [if_neg (by omega)]; exact hno
  · simp only [decide_eq_false h3]
    have h4 := tyRead_l1 cs hl w h cs.length 0 (by omega)
    have hc : (if ∀ m, 0 ≤ m → m < cs.length → ∀ j, j < m → cs.getD j 0 = cs.getD m 0 → isNameC (cs.getD m 0) = false then ((w : Int), (h : Int), cs, true) else (0, 0, [], false)) = ansT (if w ≤ 7 ∧ h ≤ 7 ∧ cs.length ≤ 36 ∧ namesOk cs then some (w, h, cs) else none) := by
      unfold namesOk
      by_cases h5 : ∀ m, m < cs.length → ∀ j, j < m → cs.getD j 0 = cs.getD m 0 → isNameC (cs.getD m 0) = false
      · rw [if_pos (fun m _ => h5 m), if_pos ⟨by omega, by omega, by omega, h5⟩]; rfl
      · rw [if_neg (fun e => h5 (fun m => e m (Nat.zero_le _))), if_neg (fun e => h5 e.2.2.2)]; rfl
    rw [hc] at h4
    refine Ev.step (fun k => ?_) h4
    rw [spec_tyRead.j2, if_neg (by decide)]
    rfl
theorem tyRead_l0 (s : ByteArray) (hs : s.size ≤ 42) : ∀ (d i x w h : Nat) (cs : List Int), i + d = s.size → x ≤ i → w ≤ i → h ≤ i → cs.length ≤ i →
    Ev (fun k => spec_tyRead.l0 k s x i w h cs) (ansT ((tyGo ((bytesOf s).drop i) x w h cs).bind fun z => finT z.1 z.2.1 z.2.2)) := by
  have hno : ∀ g : Nat → Option (Int × Int × List Int × Bool), (∀ k, g k = some (0, 0, [], false)) → Ev g (0, 0, [], false) := fun g hg => ⟨0, fun k _ => hg k⟩
  intro d
  induction d with
  | zero =>
    intro i x w h cs hi hx hw hh hc
    obtain rfl : i = s.size := by omega
    rw [bytesOf_all, tyGo]
    have hA : ∀ k, spec_tyRead.l0 (k + 1) s x s.size w h cs = spec_tyRead.j1 k s x s.size false w h cs := fun k => by
      rw [spec_tyRead.l0, if_pos (by omega), if_neg (by omega)]
    refine Ev.step hA ?_
    by_cases hbad : (0 < h ∧ x ≠ w) ∨ x = 0
    · rw [if_pos hbad]
      refine Ev.step (f := fun _ => some (0, 0, [], false)) (fun k => ?_) (Ev.now _)
      rw [spec_tyRead.j1, if_neg (by decide)]
      by_cases h0 : (h : Int) > 0
      · rw [if_pos h0]
        by_cases hxw : (x : Int) = w
        · rw [if_pos hxw, if_pos (by omega)]
        · rw [if_neg hxw]
      · rw [if_neg h0, if_pos (by omega)]
    · rw [if_neg hbad]
      have hfin := tyRead_fin x (h + 1) cs (by omega)
      have hB : ∀ k, spec_tyRead.j1 (k + 1) s x s.size false w h cs = spec_tyRead.l0 k s 0 (s.size + 1 : Nat) x (h + 1 : Nat) cs := fun k => by
        rw [spec_tyRead.j1, if_neg (by decide), w64 (n := (s.size : Int) + 1) (by omega) (by omega), w64 (n := (h : Int) + 1) (by omega) (by omega)]
        by_cases h0 : (h : Int) > 0
        · rw [if_pos h0, if_pos (by omega), if_neg (by omega)]; rfl
        · rw [if_neg h0, if_neg (by omega)]; rfl
      refine Ev.step hB (Ev.step (fun k => ?_) hfin)
      rw [spec_tyRead.l0, if_neg (by omega)]
  | succ d ih =>
    intro i x w h cs hi hx hw hh hc
    have hlt : i < s.size := by omega
    rw [bytesOf_drop s i hlt, tyGo]
    have hA : ∀ k, spec_tyRead.l0 (k + 1) s x i w h cs = spec_tyRead.j1 k s x i (bt s i != 47) w h cs := fun k => by
      rw [spec_tyRead.l0, if_pos (by omega), if_pos (by omega), if_pos (by omega)]
    refine Ev.step hA ?_
    by_cases h47 : bt s i = 47
    · rw [if_pos h47]
      have hb : (bt s i != 47) = false := by simp [h47]
      simp only [hb]
      by_cases hbad : (0 < h ∧ x ≠ w) ∨ x = 0
      · rw [if_pos hbad]
        refine Ev.step (f := fun _ => some (0, 0, [], false)) (fun k => ?_) (Ev.now _)
        rw [spec_tyRead.j1, if_neg (by decide)]
        by_cases h0 : (h : Int) > 0
        · rw [if_pos h0]
          by_cases hxw : (x : Int) = w
          · rw [if_pos hxw, if_pos (by omega)]
          · rw [if_neg hxw]
        · rw [if_neg h0, if_pos (by omega)]
      · rw [if_neg hbad]
        refine Ev.step (fun k => ?_) (ih (i + 1) 0 x (h + 1) cs (by omega) (by omega) (by omega) (by omega) (by omega))
        rw [spec_tyRead.j1, if_neg (by decide), w64 (n := (i : Int) + 1) (by omega) (by omega), w64 (n := (h : Int) + 1) (by omega) (by omega)]
        by_cases h0 : (h : Int) > 0
        · rw [if_pos h0, if_pos (by omega), if_neg (by omega)]; rfl
        · rw [if_neg h0, if_neg (by omega)]; rfl
    · rw [if_neg h47]
      have hb : (bt s i != 47) = true := by simp [h47]
      simp only [hb]
      by_cases hcell : isCellC (bt s i) = true
      · rw [if_pos hcell]
        refine Ev.step (fun k => ?_) (ih (i + 1) (x + 1) w h (cs ++ [bt s i]) (by omega) (by omega) (by omega) (by omega) (by simp; omega))
        rw [spec_tyRead.j1, if_pos rfl, if_pos (by omega), if_pos (by omega), spec_tyIs_eq, Option.bind_some, if_pos hcell, if_pos (by omega), w64 (by omega) (by omega), w64 (by omega) (by omega)]
        rfl
      · rw [if_neg hcell]
        refine Ev.step (f := fun _ => some (0, 0, [], false)) (fun k => ?_) (Ev.now _)
        rw [spec_tyRead.j1, if_pos rfl, if_pos (by omega), if_pos (by omega), spec_tyIs_eq, Option.bind_some, if_neg hcell]
theorem spec_tyRead_ev (s : ByteArray) : Ev (fun k => spec_tyRead.f k s) (ansT (tyGrid (bytesOf s))) := by
  unfold spec_tyRead.f tyGrid
  rw [bytesOf_length]
  by_cases h : (s.size : Int) > 42
  · simp only [if_pos h]; rw [if_pos (by omega)]; exact Ev.now _
  · simp only [if_neg h]; rw [if_neg (by omega)]
    have h0 := tyRead_l0 s (by omega) s.size 0 0 0 0 [] (by omega) (Nat.le_refl _) (Nat.le_refl _) (Nat.le_refl _) (Nat.le_refl _)
    rw [List.drop_zero] at h0
    cases hg : tyGo (bytesOf s) 0 0 0 [] with
    | none => rw [hg] at h0; exact h0
    | some z => rw [hg] at h0; exact h0
theorem impl_isSize_eq (w h : Int) (hw : 0 ≤ w ∧ w ≤ 4294967296) (hh : 0 ≤ h ∧ h ≤ 4294967296) : impl_isSize.f w h = some (decide ((1 ≤ w ∧ w ≤ 7) ∧ (1 ≤ h ∧ h ≤ 7) ∧ w * h ≤ 36)) := by
  unfold impl_isSize.f impl_within.f
  by_cases h1 : 1 ≤ w
  · by_cases h2 : w ≤ 7
    · by_cases h3 : 1 ≤ h
      · by_cases h4 : h ≤ 7
        · have h5 : w * h ≤ 7 * 7 := Int.mul_le_mul h2 h4 (by omega) (by omega)
          have h6 : 0 ≤ w * h := Int.mul_nonneg (by omega) (by omega)
          simp [h1, h2, h3, h4, w64 (n := w * h) (by omega) (by omega)]
        · simp [h1, h2, h3, h4]
      · simp [h1, h2, h3]
    · simp [h1, h2]
  · simp [h1]
theorem dropWhile_nil {α : Type} (p : α → Bool) : ∀ l : List α, l.dropWhile p = [] ↔ ∀ a ∈ l, p a = true
  | [] => by simp
  | a :: l => by
    rw [List.dropWhile_cons]
    by_cases h : p a = true
    · rw [if_pos h, dropWhile_nil p l]; simp [h]
    · rw [if_neg h]; simp [h]
theorem trimS_nil_iff (l cs : List UInt8) : Lib.trimS l cs = [] ↔ ∀ b ∈ l, b ∈ cs := by
  unfold Lib.trimS Lib.trimLeftS Lib.trimRightS
  rw [dropWhile_nil]
  constructor
  · intro h b hb
    rcases Classical.em (∀ b ∈ l, cs.contains b = true) with h1 | h1
    · simpa using h1 b hb
    · exfalso
      have h2 : ¬ l.reverse.dropWhile (cs.contains ·) = [] := by
        rw [dropWhile_nil]
        intro h3; exact h1 (fun b hb => h3 b (List.mem_reverse.2 hb))
      have h3 := List.head_dropWhile_not (cs.contains ·) (l := l.reverse) h2
      have h4 := h ((l.reverse.dropWhile (cs.contains ·)).head h2) (List.mem_reverse.2 (List.head_mem h2))
      rw [h3] at h4; cases h4
  · intro h b hb
    have : b ∈ l := by
      have h1 := List.mem_reverse.1 hb
      exact List.mem_reverse.1 ((List.dropWhile_sublist _).subset h1)
    simpa using h b this
theorem toList_nil_iff (s : ByteArray) : s.toList = [] ↔ s.data.toList = [] := by rw [Lib.toList_data]
theorem trim_nil (s cut t : ByteArray) (hs : s.size ≤ 9223372036854775807) (hc : cut.size < 4294967281) (ha : asciiB cut = true) :
    ∃ t, strings_Trim.f s cut = some t ∧ (t.toList = [] ↔ ∀ c ∈ bytesOf s, c ∈ bytesOf cut) := by
  refine ⟨_, if_pos ⟨hs, hc, ha⟩, ?_⟩
  rw [toList_nil_iff]
  simp only [trimS_nil_iff]
  unfold bytesOf
  constructor
  · intro h c hcm
    obtain ⟨b, hb, rfl⟩ := List.mem_map.1 hcm
    exact List.mem_map.2 ⟨b, h b hb, rfl⟩
  · intro h b hb
    obtain ⟨b', hb', he⟩ := List.mem_map.1 (h _ (List.mem_map.2 ⟨b, hb, rfl⟩))
    have : b' = b := UInt8.toNat_inj.1 (by omega)
    rwa [← this]
theorem cellSet (c : Int) : c ∈ bytesOf (⟨#[35, 46, 111, 97, 98, 99, 100, 101, 102]⟩ : ByteArray) ↔ isCellC c = true := by
  have : bytesOf (⟨#[35, 46, 111, 97, 98, 99, 100, 101, 102]⟩ : ByteArray) = [35, 46, 111, 97, 98, 99, 100, 101, 102] := by decide
  rw [this]
  unfold isCellC isBallC isNameC
  simp
  omega
theorem count_rune (s : ByteArray) (n : Nat) (h1 : 97 ≤ n) (h2 : n ≤ 102) : strings_Count.f s (Utf8.encode n) = some (((bytesOf s).count (n : Int) : Nat) : Int) := by
  have he : Utf8.encode (n : Int) = ⟨#[UInt8.ofNat n]⟩ := by
    have : n = 97 ∨ n = 98 ∨ n = 99 ∨ n = 100 ∨ n = 101 ∨ n = 102 := by omega
    rcases this with rfl | rfl | rfl | rfl | rfl | rfl <;> rfl
  rw [he]
  have h3 : strings_Count.f s ⟨#[UInt8.ofNat n]⟩ = some ((Lib.countByte s.data.toList (UInt8.ofNat n) : Nat) : Int) := if_pos rfl
  rw [h3]
  have hco : Lib.countByte s.data.toList (UInt8.ofNat n) = (bytesOf s).count (n : Int) := ?_
  · rw [hco]
  unfold Lib.countByte bytesOf
  have hn : (UInt8.ofNat n).toNat = n := by
    rw [UInt8.toNat_ofNat']; omega
  rw [List.count_eq_countP, List.count_eq_countP, List.countP_map]
  apply List.countP_congr
  intro b _
  simp only [beq_iff_eq, Function.comp]
  constructor
  · rintro rfl; omega
  · intro h; exact UInt8.toNat_inj.1 (by omega)
theorem IsTray_l1 (s : ByteArray) : ∀ (d n : Nat), n + d = 103 → 97 ≤ n → 
    Ev (fun k => impl_IsTray.l1 k s n) (decide (∀ m : Int, n ≤ m → m ≤ 102 → (bytesOf s).count m ≤ 1)) := by
  intro d
  induction d with
  | zero =>
    intro n hn _
    rw [decide_eq_true (by intro m h1 h2; omega)]
    exact Ev.step (f := fun _ => some true) (fun k => by rw [impl_IsTray.l1, if_neg (by omega)]) (Ev.now _)
  | succ d ih =>
    intro n hn h97
    have hih := ih (n + 1) (by omega) (by omega)
    by_cases hc : (bytesOf s).count (n : Int) > 1
    · rw [decide_eq_false (by intro h; have := h n (Int.le_refl _) (by omega); omega)]
      refine Ev.step (f := fun _ => some false) (fun k => ?_) (Ev.now _)
      rw [impl_IsTray.l1, if_pos (by omega), count_rune s n h97 (by omega), Option.bind_some, if_pos (by omega)]
    · have he : (∀ m : Int, n ≤ m → m ≤ 102 → (bytesOf s).count m ≤ 1) ↔ (∀ m : Int, (n + 1 : Nat) ≤ m → m ≤ 102 → (bytesOf s).count m ≤ 1) := by
        constructor
        · intro h m h1 h2; exact h m (by omega) h2
        · intro h m h1 h2
          rcases Int.lt_or_le n m with h3 | h3
          · exact h m (by omega) h2
          · obtain rfl : m = n := by omega
            omega
      simp only [he]
      refine Ev.step (fun k => ?_) hih
      rw [impl_IsTray.l1, if_pos (by omega), count_rune s n h97 (by omega), Option.bind_some, if_neg (by omega), w32 (by omega) (by omega)]
      rfl
theorem IsTray_l0 (s : ByteArray) (rows : List ByteArray) (r0 : ByteArray) (rest : List ByteArray) (hr : rows = r0 :: rest) (hl : rows.length ≤ 4294967296) (hb : ∀ r ∈ rows, r.size ≤ 4294967296) : ∀ (d i : Nat), i + d = rows.length →
    Ev (fun k => impl_IsTray.l0 k s rows rows rows.length i) (decide ((∀ r ∈ rows.drop i, r.size = r0.size ∧ ∀ c ∈ bytesOf r, isCellC c = true) ∧ ∀ m : Int, 97 ≤ m → m ≤ 102 → (bytesOf s).count m ≤ 1)) := by
  intro d
  induction d with
  | zero =>
    intro i hi
    have hd : rows.drop i = [] := by rw [List.drop_eq_nil_iff]; omega
    have h1 := IsTray_l1 s 6 97 (by omega) (by omega)
    have he : ((∀ r ∈ rows.drop i, r.size = r0.size ∧ ∀ c ∈ bytesOf r, isCellC c = true) ∧ ∀ m : Int, 97 ≤ m → m ≤ 102 → (bytesOf s).count m ≤ 1) ↔ (∀ m : Int, (97 : Nat) ≤ m → m ≤ 102 → (bytesOf s).count m ≤ 1) := by
      rw [hd]; simp
    simp only [he]
    exact Ev.step (fun k => by rw [impl_IsTray.l0, if_neg (by omega)]; rfl) h1
  | succ d ih =>
    intro i hi
    have hih := ih (i + 1) (by omega)
    have hlt : i < rows.length := by omega
    have hd : rows.drop i = rows[i] :: rows.drop (i + 1) := List.drop_eq_getElem_cons hlt
    have hri : rdOf ByteArray.empty rows (i : Int) = rows[i] := by
      unfold rdOf; rw [Int.toNat_natCast, List.getD_eq_getElem?_getD, List.getElem?_eq_getElem hlt]; rfl
    have hr0 : rdOf ByteArray.empty rows 0 = r0 := by unfold rdOf; rw [hr]; rfl
    have hsz : rows[i].size ≤ 4294967296 := hb _ (List.getElem_mem ..)
    have hstep : ∀ k, impl_IsTray.l0 (k + 1) s rows rows rows.length i = (if ((rows[i]).size : Int) = (r0.size : Int) then ((strings_Trim.f (rows[i]) (⟨#[35, 46, 111, 97, 98, 99, 100, 101, 102]⟩ : ByteArray)).bind fun t141 => (if t141.toList = ([] : List UInt8) then (impl_IsTray.l0 k s rows rows rows.length (i + 1 : Nat)) else (some false))) else (some false)) := fun k => by
      rw [impl_IsTray.l0, if_pos (by omega), if_pos (by omega), if_pos (by omega), if_pos (by omega), hri, hr0, w64 (by omega) (by omega)]
      rfl
    refine Ev.step hstep ?_
    by_cases hz : rows[i].size = r0.size
    · simp only [if_pos (show (rows[i].size : Int) = r0.size by omega)]
      obtain ⟨t, ht, hiff⟩ := trim_nil rows[i] (⟨#[35, 46, 111, 97, 98, 99, 100, 101, 102]⟩ : ByteArray) ByteArray.empty (by omega) (by decide) (by decide)
      rw [ht]
      simp only [Option.bind_some]
      by_cases hc : ∀ c ∈ bytesOf rows[i], isCellC c = true
      · simp only [if_pos (hiff.2 fun c hcm => (cellSet c).2 (hc c hcm))]
        have he : ((∀ r ∈ rows.drop i, r.size = r0.size ∧ ∀ c ∈ bytesOf r, isCellC c = true) ∧ ∀ m : Int, 97 ≤ m → m ≤ 102 → (bytesOf s).count m ≤ 1) ↔ ((∀ r ∈ rows.drop (i + 1), r.size = r0.size ∧ ∀ c ∈ bytesOf r, isCellC c = true) ∧ ∀ m : Int, 97 ≤ m → m ≤ 102 → (bytesOf s).count m ≤ 1) := by
          rw [hd]; simp only [List.mem_cons, forall_eq_or_imp]
          constructor
          · rintro ⟨⟨_, h2⟩, h3⟩; exact ⟨h2, h3⟩
          · rintro ⟨h2, h3⟩; exact ⟨⟨⟨hz, hc⟩, h2⟩, h3⟩
        simp only [he]
        exact hih
      · simp only [if_neg (fun e => hc fun c hcm => (cellSet c).1 (hiff.1 e c hcm))]
        rw [decide_eq_false]
        · exact Ev.now _
        · rintro ⟨h1, _⟩
          exact hc (h1 rows[i] (by rw [hd]; exact List.mem_cons_self ..)).2
    · simp only [if_neg (show ¬ (rows[i].size : Int) = r0.size by omega)]
      rw [decide_eq_false]
      · exact Ev.now _
      · rintro ⟨h1, _⟩
        exact hz (h1 rows[i] (by rw [hd]; exact List.mem_cons_self ..)).1
theorem impl_IsTray_ev (s : ByteArray) (hs : s.size < 4294967281) : Ev (fun k => impl_IsTray.f k s) (tyGrid (bytesOf s)).isSome := by
  have hsp : strings_Split.f s (⟨#[47]⟩ : ByteArray) = some (rowsB 47 s) := if_pos ⟨hs, rfl⟩
  have hmap : (rowsB 47 s).map bytesOf = rowsI 47 (bytesOf s) := rowsB_bytes 47 s
  cases hr : rowsI 47 (bytesOf s) with
  | nil => exact absurd hr (rowsI_ne _ _)
  | cons q qs =>
    have hlen := rowsI_length 47 (bytesOf s) q qs hr
    rw [bytesOf_length] at hlen
    rw [hr] at hmap
    cases hrb : rowsB 47 s with
    | nil => rw [hrb] at hmap; cases hmap
    | cons r0 rest =>
      rw [hrb, List.map_cons, List.cons.injEq] at hmap
      obtain ⟨hq, hqs⟩ := hmap
      have hq0 : q.length = r0.size := by rw [← hq, bytesOf_length]
      have hql : qs.length = rest.length := by rw [← hqs, List.length_map]
      have hrow : ∀ r ∈ r0 :: rest, r.size ≤ 4294967296 := by
        intro r hm
        rcases List.mem_cons.1 hm with rfl | hm
        · omega
        · have h1 : bytesOf r ∈ qs := by rw [← hqs]; exact List.mem_map.2 ⟨r, hm, rfl⟩
          have h2 := (List.sublist_flatten_of_mem h1).length_le
          rw [bytesOf_length] at h2; omega
      have hiff : (tyGrid (bytesOf s)).isSome = decide (((1 ≤ (r0.size : Int) ∧ (r0.size : Int) ≤ 7) ∧ (1 ≤ ((r0 :: rest).length : Int) ∧ ((r0 :: rest).length : Int) ≤ 7) ∧ (r0.size : Int) * ((r0 :: rest).length : Int) ≤ 36) ∧
          (∀ r ∈ (r0 :: rest).drop 0, r.size = r0.size ∧ ∀ c ∈ bytesOf r, isCellC c = true) ∧ ∀ m : Int, 97 ≤ m → m ≤ 102 → (bytesOf s).count m ≤ 1) := by
        rw [Bool.eq_iff_iff, tyGrid_iff, decide_eq_true_iff]
        unfold rowsTray
        rw [hr]
        simp only [List.headD_cons, List.length_cons, List.drop_zero, hq0, hql]
        have hg : rowsGood r0.size (q :: qs) ↔ (∀ r ∈ r0 :: rest, r.size = r0.size ∧ ∀ c ∈ bytesOf r, isCellC c = true) := by
          unfold rowsGood
          have e : q :: qs = (r0 :: rest).map bytesOf := by rw [List.map_cons, hq, hqs]
          rw [e]
          constructor
          · intro h r hm
            have := h (bytesOf r) (List.mem_map.2 ⟨r, hm, rfl⟩)
            rwa [bytesOf_length] at this
          · intro h z hz
            obtain ⟨r, hm, rfl⟩ := List.mem_map.1 hz
            have := h r hm
            rwa [bytesOf_length]
        rw [hg]
        have hmul : (r0.size : Int) * ((rest.length + 1 : Nat) : Int) ≤ 36 ↔ r0.size * (rest.length + 1) ≤ 36 := by
          rw [← Int.natCast_mul]; omega
        rw [hmul]
        constructor
        · rintro ⟨h1, h2, h3, h4, h5⟩; exact ⟨⟨by omega, by omega, h3⟩, h4, h5⟩
        · rintro ⟨⟨h1, h2, h3⟩, h4, h5⟩; exact ⟨by omega, by omega, h3, h4, h5⟩
      rw [hiff]
      unfold impl_IsTray.f
      rw [hsp, hrb]
      simp only [Option.bind_some]
      have h00 : rdOf ByteArray.empty (r0 :: rest) 0 = r0 := rfl
      have hln : (r0 :: rest).length ≤ 4294967296 := by simp only [List.length_cons]; omega
      simp only [if_pos (show (0 : Int) < ((r0 :: rest).length : Int) by simp only [List.length_cons]; omega), h00, impl_isSize_eq (r0.size : Int) ((r0 :: rest).length : Int) (by omega) (by omega), Option.bind_some]
      by_cases hsize : (1 ≤ (r0.size : Int) ∧ (r0.size : Int) ≤ 7) ∧ (1 ≤ ((r0 :: rest).length : Int) ∧ ((r0 :: rest).length : Int) ≤ 7) ∧ (r0.size : Int) * ((r0 :: rest).length : Int) ≤ 36
      · simp only [decide_eq_true hsize, if_true]
        have h0 := IsTray_l0 s (r0 :: rest) r0 rest rfl hln hrow (r0 :: rest).length 0 (by omega)
        simp only [hsize, true_and]
        exact h0
      · simp only [decide_eq_false hsize]
        rw [decide_eq_false (fun e => hsize e.1)]
        exact Ev.now _
end Go.Proofs.YtdffgeoegdkiaaaGreatDoor.F

namespace Go.Proofs.YtdffgeoegdkiaaaGreatDoor
def isDirC (c : Int) : Bool := c == 117 || c == 114 || c == 100 || c == 108
def dirIx (c : Int) : Int := if c = 117 then 0 else if c = 114 then 1 else if c = 100 then 2 else if c = 108 then 3 else -1
theorem dirIx_neg (c : Int) : dirIx c < 0 ↔ isDirC c = false := by
  unfold dirIx isDirC
  by_cases h1 : c = 117
  · simp [h1]
  by_cases h2 : c = 114
  · simp [h2]
  by_cases h3 : c = 100
  · simp [h3]
  by_cases h4 : c = 108
  · simp [h4]
  simp [h1, h2, h3, h4]
def dirB (d : Nat) : Int := if d = 0 then 117 else if d = 1 then 114 else if d = 2 then 100 else 108
theorem dirB_ix {c : Int} (h : isDirC c = true) : dirB (dirIx c).toNat = c ∧ (dirIx c).toNat < 4 ∧ 0 ≤ dirIx c := by
  have : c = 117 ∨ c = 114 ∨ c = 100 ∨ c = 108 := by
    unfold isDirC at h
    simp at h
    omega
  rcases this with rfl | rfl | rfl | rfl <;> exact ⟨rfl, by decide, by decide⟩
end Go.Proofs.YtdffgeoegdkiaaaGreatDoor

namespace Go.Proofs.YtdffgeoegdkiaaaGreatDoor.F
open Go.Proofs.YtdffgeoegdkiaaaGreatDoor
open Go.RowKit Go.Proofs.YtdffgeoegdkiaaaGreatDoorW.PrintWords Go.Proofs.YtdffgeoegdkiaaaGreatDoorW.PrintLast Go.Proofs.YtdffgeoegdkiaaaGreatDoorW.PrintMore
attribute [local go_sem] max2_int min2_int max_two min_two max_three min_three max_four min_four
def impl_IsWord.f (a0 : ByteArray) : Option (Bool) := if (a0.size : Int) ≤ 40 then ((strings_Trim.f a0 (⟨#[117, 114, 100, 108]⟩ : ByteArray)).bind fun t101 => (some (t101.toList == ([] : List UInt8)))) else (some false)
set_option maxHeartbeats 8000000 in
set_option maxRecDepth 100000 in
theorem impl_IsWord.calls (a0 : ByteArray) (r : Bool) (w : World) (h : impl_IsWord.f a0 = some r) :
  Calls Tryz.prog 65 #[.string a0] w fun e w' => e = .returned (.bool r) ∧ Below w.heap.size w w' := by
 have HB := am (Below.refl w.heap.size w)
 have H : (if (a0.size : Int) ≤ 40 then ((strings_Trim.f a0 (⟨#[117, 114, 100, 108]⟩ : ByteArray)).bind fun t101 => (some (t101.toList == ([] : List UInt8)))) else (some false)) = some r := h
 clear h
 by_cases c2 : (a0.size : Int) ≤ 40
 ·rw [if_pos c2] at H
  have c2b0 := decide_eq_true c2
  have c2b1 : decide (a0.size ≤ 40) = true := decide_eq_true (by omega)
  clear c2
  obtain ⟨t101, A30, H⟩ := Option.bind_eq_some_iff.mp H
  have A3 := am A30
  clear A30
  obtain rfl := Option.some.inj H
  go_enter Tryz.func65, Tryz.ntmps65
  go_wp2_with (first | (go_at_call 103; (with_reducible refine (strings_Trim.calls a0 (⟨#[117, 114, 100, 108]⟩ : ByteArray) t101 _ A3.out).mono ?_); rintro e w4 ⟨rfl, hb⟩; have n0_ := am (below_step aq1 hb); clear HB; have HB := n0_; clear n0_; (try clear hb); (try clear hb2); (try clear hk); (try clear hi)))
  go_ret
  exact ⟨aq8, aq1⟩
 ·rw [if_neg c2] at H
  have c2b0 := decide_eq_false c2
  have c2b1 : decide (a0.size ≤ 40) = false := decide_eq_false (by omega)
  clear c2
  obtain rfl := Option.some.inj H
  go_enter Tryz.func65, Tryz.ntmps65
  go_wp2
  go_ret
  exact ⟨aq8, aq1⟩
def spec_tiDirs.f  : Option (ByteArray) := some (⟨#[117, 114, 100, 108]⟩ : ByteArray)
set_option maxHeartbeats 8000000 in
set_option maxRecDepth 100000 in
theorem spec_tiDirs.calls  (r : ByteArray) (w : World) (h : spec_tiDirs.f  = some r) :
  Calls Tryz.prog 98 #[] w fun e w' => e = .returned (.string r) ∧ Drawn0 w w' := by
 have H : (some (⟨#[117, 114, 100, 108]⟩ : ByteArray)) = some r := h
 clear h
 obtain rfl := Option.some.inj H
 go_enter Tryz.func98, Tryz.ntmps98
 go_wp2
 go_ret
 exact ⟨aq6, aq14⟩
def spec_tiDir.l0 : Nat → ByteArray → Int → Option (Int)
 | 0, _, _ => none
 | k + 1, x0, x3 => if x3 < 4 then ((spec_tiDirs.f).bind fun t101 => (if 0 ≤ x3 then (if x3 ≤ (wrap64 (x3 + 1)) then (if (wrap64 (x3 + 1)) ≤ (t101.size : Int) then (if x0.toList = (t101.extract (x3 : Int).toNat ((wrap64 (x3 + 1)) : Int).toNat).toList then (some x3) else (spec_tiDir.l0 k x0 (wrap64 (x3 + 1)))) else (none)) else (none)) else (none))) else (some (-1))
def spec_tiDir.f (k : Nat) (a0 : ByteArray) : Option (Int) := spec_tiDir.l0 k a0 0
theorem spec_tiDir.mono_l : ∀ k, (∀ y0 y1, LeO (spec_tiDir.l0 k y0 y1) (spec_tiDir.l0 (k + 1) y0 y1))
 | 0 => fun _ _ r h => by simp [spec_tiDir.l0] at h
 | k + 1 => by
  have ih0 := spec_tiDir.mono_l k
  ·intro y0 y1
   unfold spec_tiDir.l0
   exact mo
theorem spec_tiDir.mono : ∀ a0 k, LeO (spec_tiDir.f k a0) (spec_tiDir.f (k + 1) a0) := by
 intro a0 k
 have ih0 := spec_tiDir.mono_l k
 unfold spec_tiDir.f
 exact mo
set_option maxHeartbeats 8000000 in
set_option maxRecDepth 100000 in
theorem spec_tiDir.calls (k : Nat) (a0 : ByteArray) (r : Int) (w : World) (h : spec_tiDir.f k a0 = some r) :
  Calls Tryz.prog 86 #[.string a0] w fun e w' => e = .returned (.int .i64 r) ∧ Drawn0 w w' := by
 have H : (spec_tiDir.l0 k a0 0) = some r := h
 clear h
 have H' := am H
 clear H
 go_enter Tryz.func86, Tryz.ntmps86
 go_wp2
 go_loopg [3] k (fun kq v3 w' => ∃ (x3_1 : Int), v3 = .int .i64 x3_1 ∧ Aside0 (spec_tiDir.l0 kq a0 x3_1 = some r) ∧ Aside0 (kq ≤ k) ∧ Drawn0 w w')
 case atStart => exact ⟨(0), aq6, H', ⟨Nat.le_refl _⟩, aq14⟩
 case round =>
  clear H'
  obtain ⟨x3_1, rfl, HA, HK1, ⟨m1, rfl⟩⟩ := hrel
  cases gk with
  | zero => exact absurd HA.out (by simp [spec_tiDir.l0])
  | succ k1 =>
   have H := HA.out
   clear HA
   simp only [spec_tiDir.l0] at H
   by_cases c2 : x3_1 < 4
   ·rw [if_pos c2] at H
    have c2b0 := decide_eq_true c2
    clear c2
    obtain ⟨t101, A30, H⟩ := Option.bind_eq_some_iff.mp H
    have A3 := am A30
    clear A30
    by_cases c4 : 0 ≤ x3_1
    ·rw [if_pos c4] at H
     have c4b0 := eq_true c4
     have c4b1 := decide_eq_true c4
     clear c4
     by_cases c5 : x3_1 ≤ (wrap64 (x3_1 + 1))
     ·rw [if_pos c5] at H
      have c5b0 := eq_true c5
      have c5b1 := decide_eq_true c5
      by_cases c6 : (wrap64 (x3_1 + 1)) ≤ (t101.size : Int)
      ·rw [if_pos c6] at H
       have c6b0 := eq_true c6
       have c6b1 := decide_eq_true c6
       by_cases c7 : a0.toList = (t101.extract (x3_1 : Int).toNat ((wrap64 (x3_1 + 1)) : Int).toNat).toList
       ·rw [if_pos c7] at H
        have c7b0 := beq_iff_eq.mpr c7
        have c7b1 := bne_eq_false_iff_eq.mpr c7
        clear c7
        obtain rfl := Option.some.inj H
        go_wp2_with (first | ((with_reducible refine gate_callee (f := 98) rfl ?_); refine goesL_ (some 9) rfl rfl Tryz.func98 (by kernel_rfl) rfl #[] rfl aq4 ?_; (with_reducible refine (spec_tiDirs.calls  t101 _ A3.out).mono ?_); rintro e w' ⟨rfl, ⟨nd, rfl⟩⟩; refine ⟨_, rfl, ?_⟩))
        go_ret
        exact ⟨aq6, aq14⟩
       ·rw [if_neg c7] at H
        have c7b0 := beq_eq_false_iff_ne.mpr c7
        have c7b1 := bne_iff_ne.mpr c7
        have H' := am H
        clear H
        go_wp2_with (first | ((with_reducible refine gate_callee (f := 98) rfl ?_); refine goesL_ (some 9) rfl rfl Tryz.func98 (by kernel_rfl) rfl #[] rfl aq4 ?_; (with_reducible refine (spec_tiDirs.calls  t101 _ A3.out).mono ?_); rintro e w' ⟨rfl, ⟨nd, rfl⟩⟩; refine ⟨_, rfl, ?_⟩))
        go_roundg k1
        case measure => have := HK1.out; omega
        case rel => exact ⟨(wrap64 (x3_1 + 1)), aq6, H', ⟨aq65⟩, aq14⟩
      ·rw [if_neg c6] at H
       exact absurd H (by simp)
     ·rw [if_neg c5] at H
      exact absurd H (by simp)
    ·rw [if_neg c4] at H
     exact absurd H (by simp)
   ·rw [if_neg c2] at H
    have c2b0 := decide_eq_false c2
    clear c2
    obtain rfl := Option.some.inj H
    go_wp2
    go_ret
    exact ⟨aq6, aq14⟩
def spec_tiWord.l0 : Nat → ByteArray → Int → Option (Bool)
 | 0, _, _ => none
 | k + 1, x0, x3 => if x3 < (x0.size : Int) then (if 0 ≤ x3 then (if x3 ≤ (wrap64 (x3 + 1)) then (if (wrap64 (x3 + 1)) ≤ (x0.size : Int) then ((spec_tiDir.f k (x0.extract (x3 : Int).toNat ((wrap64 (x3 + 1)) : Int).toNat)).bind fun t101 => (if t101 < 0 then (some false) else (spec_tiWord.l0 k x0 (wrap64 (x3 + 1))))) else (none)) else (none)) else (none)) else (some true)
theorem spec_tiWord.mono_l : ∀ k, (∀ y0 y1, LeO (spec_tiWord.l0 k y0 y1) (spec_tiWord.l0 (k + 1) y0 y1))
 | 0 => fun _ _ r h => by simp [spec_tiWord.l0] at h
 | k + 1 => by
  have ih0 := spec_tiWord.mono_l k
  ·intro y0 y1
   unfold spec_tiWord.l0
   have im0 := @spec_tiDir.mono; exact mo
end Go.Proofs.YtdffgeoegdkiaaaGreatDoor.F

namespace Go.Proofs.YtdffgeoegdkiaaaGreatDoor.F
open Go.RowKit Go.Proofs.YtdffgeoegdkiaaaGreatDoor Go.Proofs.YtdffgeoegdkiaaaGreatDoorW.PrintWords Classical
def isWordB (l : List Int) : Bool := decide (l.length ≤ 40) && l.all isDirC
theorem isWordB_iff (l : List Int) : isWordB l = true ↔ l.length ≤ 40 ∧ ∀ c ∈ l, isDirC c = true := by simp [isWordB]
theorem dirSet (c : Int) : c ∈ bytesOf (⟨#[117, 114, 100, 108]⟩ : ByteArray) ↔ isDirC c = true := by
  have : bytesOf (⟨#[117, 114, 100, 108]⟩ : ByteArray) = [117, 114, 100, 108] := by decide
  rw [this]
  unfold isDirC
  simp [or_assoc]
theorem impl_IsWord_eq (s : ByteArray) : impl_IsWord.f s = some (isWordB (bytesOf s)) := by
  unfold impl_IsWord.f
  by_cases h : (s.size : Int) ≤ 40
  · rw [if_pos h]
    obtain ⟨t, ht, hiff⟩ := trim_nil s (⟨#[117, 114, 100, 108]⟩ : ByteArray) ByteArray.empty (by omega) (by decide) (by decide)
    rw [ht, Option.bind_some]
    refine congrArg some ?_
    rw [Bool.eq_iff_iff, beq_iff_eq, hiff, isWordB_iff, bytesOf_length]
    simp only [dirSet]
    constructor
    · intro h2; exact ⟨by omega, h2⟩
    · intro h2; exact h2.2
  · rw [if_neg h]
    refine congrArg some ?_
    rw [Bool.eq_iff_iff, isWordB_iff, bytesOf_length]
    constructor
    · intro h2; cases h2
    · rintro ⟨h1, _⟩; omega
theorem one_extract (s : ByteArray) (i : Nat) (h : i < s.size) : (s.extract i (i + 1)).toList = [s[i]] := by
  rw [Lib.toList_data, Lib.extract_data]
  apply List.ext_getElem?
  intro j
  simp only [List.getElem?_take, List.getElem?_drop]
  have := getElem?_data s i h
  cases j with
  | zero => simpa using this
  | succ j => simp
theorem tiDir_ev (x : ByteArray) (c : Int) (h : bytesOf x = [c]) : Ev (fun k => spec_tiDir.f k x) (dirIx c) := by
  have hx : ∃ b : UInt8, x.toList = [b] ∧ c = b.toNat := by
    unfold bytesOf at h
    rw [Lib.toList_data]
    cases hl : x.data.toList with
    | nil => rw [hl] at h; cases h
    | cons b t =>
      rw [hl] at h
      cases t with
      | nil => simp at h; exact ⟨b, rfl, h.symm⟩
      | cons _ _ => simp at h
  obtain ⟨b, hb, hc⟩ := hx
  have hsz : x.size = 1 := by rw [← bytesOf_length, h]; rfl
  have key : ∀ (i : Nat) (d : UInt8) (z : Int), z = d.toNat → i < 4 → ((⟨#[117, 114, 100, 108]⟩ : ByteArray).extract i (i + 1)).toList = [d] → ∀ k, spec_tiDir.l0 (k + 1) x i = if c = z then some (i : Int) else spec_tiDir.l0 k x (i + 1 : Nat) := by
    intro i d z hz hi e k
    rw [spec_tiDir.l0, if_pos (by omega), show spec_tiDirs.f = some (⟨#[117, 114, 100, 108]⟩ : ByteArray) from rfl, Option.bind_some]
    have hw : wrap64 ((i : Int) + 1) = ((i + 1 : Nat) : Int) := by rw [w64 (by omega) (by omega)]; rfl
    have hsz4 : ((⟨#[117, 114, 100, 108]⟩ : ByteArray).size : Int) = 4 := rfl
    rw [if_pos (by omega), hw, if_pos (by omega), hsz4, if_pos (by omega), Int.toNat_natCast, Int.toNat_natCast, e, hb]
    by_cases hbd : b = d
    · subst hbd; rw [if_pos rfl, if_pos (by omega)]
    · rw [if_neg (by simpa using hbd), if_neg (fun h2 => hbd (UInt8.toNat_inj.1 (by omega)))]
  have hd : (⟨#[117, 114, 100, 108]⟩ : ByteArray).data.toList = [117, 114, 100, 108] := rfl
  have k0 := key 0 117 117 rfl (by omega) (by rw [Lib.toList_data, Lib.extract_data, hd]; rfl)
  have k1 := key 1 114 114 rfl (by omega) (by rw [Lib.toList_data, Lib.extract_data, hd]; rfl)
  have k2 := key 2 100 100 rfl (by omega) (by rw [Lib.toList_data, Lib.extract_data, hd]; rfl)
  have k3 := key 3 108 108 rfl (by omega) (by rw [Lib.toList_data, Lib.extract_data, hd]; rfl)
  have k4 : ∀ k, spec_tiDir.l0 (k + 1) x ((3 + 1 : Nat) : Int) = some (-1) := fun k => by rw [spec_tiDir.l0, if_neg (by omega)]
  clear key hd
  unfold spec_tiDir.f dirIx
  refine ⟨5, fun k hk => ?_⟩
  obtain ⟨k, rfl⟩ : ∃ m, k = m + 5 := ⟨k - 5, by omega⟩
  have e0 := k0 (k + 4)
  have e1 := k1 (k + 3)
  have e2 := k2 (k + 2)
  have e3 := k3 (k + 1)
  have e4 := k4 k
  simp only [Nat.zero_add, Nat.reduceAdd, Int.natCast_zero, Int.natCast_one, Int.cast_ofNat_Int] at e0 e1 e2 e3 e4
  show spec_tiDir.l0 (k + 4 + 1) x 0 = _
  rw [e0]
  by_cases h1 : c = 117
  · rw [if_pos h1, if_pos h1]
  rw [if_neg h1, if_neg h1, e1]
  by_cases h2 : c = 114
  · rw [if_pos h2, if_pos h2]
  rw [if_neg h2, if_neg h2, e2]
  by_cases h3 : c = 100
  · rw [if_pos h3, if_pos h3]
  rw [if_neg h3, if_neg h3, e3]
  by_cases h4 : c = 108
  · rw [if_pos h4, if_pos h4]
  rw [if_neg h4, if_neg h4, e4]
theorem bytes_extract (s : ByteArray) (i : Nat) (h : i < s.size) : bytesOf (s.extract i (i + 1)) = [bt s i] := by
  have h1 := one_extract s i h
  rw [Lib.toList_data] at h1
  unfold bytesOf
  rw [h1]
  simp [bt, h]
end Go.Proofs.YtdffgeoegdkiaaaGreatDoor.F

namespace Go.Proofs.YtdffgeoegdkiaaaGreatDoor.F
open Go.Proofs.YtdffgeoegdkiaaaGreatDoor
open Go.RowKit Go.Proofs.YtdffgeoegdkiaaaGreatDoorW.PrintWords Go.Proofs.YtdffgeoegdkiaaaGreatDoorW.PrintLast Go.Proofs.YtdffgeoegdkiaaaGreatDoorW.PrintMore
attribute [local go_sem] max2_int min2_int max_two min_two max_three min_three max_four min_four
def spec_tyText.l0 : Nat → ByteArray → Int → Int → Int → List Int → Option (ByteArray)
 | 0, _, _, _, _, _ => none
 | k + 1, x3, x4, x102000, x102001, x102002 => if x4 < x102001 then (if x4 > 0 then (if x3.size + 1 ≤ 9223372036854775807 then (if 0 ≤ (wrap64 (x4 * x102000)) then (if (wrap64 (x4 * x102000)) ≤ (wrap64 ((wrap64 (x4 + 1)) * x102000)) then (if (wrap64 ((wrap64 (x4 + 1)) * x102000)) ≤ (x102002.length : Int) then (if (x3 ++ (⟨#[47]⟩ : ByteArray)).size + (strOfNums ((x102002.take ((wrap64 ((wrap64 (x4 + 1)) * x102000)) : Int).toNat).drop ((wrap64 (x4 * x102000)) : Int).toNat)).size ≤ 9223372036854775807 then (spec_tyText.l0 k ((x3 ++ (⟨#[47]⟩ : ByteArray)) ++ (strOfNums ((x102002.take ((wrap64 ((wrap64 (x4 + 1)) * x102000)) : Int).toNat).drop ((wrap64 (x4 * x102000)) : Int).toNat))) (wrap64 (x4 + 1)) x102000 x102001 x102002) else (none)) else (none)) else (none)) else (none)) else (none)) else (if 0 ≤ (wrap64 (x4 * x102000)) then (if (wrap64 (x4 * x102000)) ≤ (wrap64 ((wrap64 (x4 + 1)) * x102000)) then (if (wrap64 ((wrap64 (x4 + 1)) * x102000)) ≤ (x102002.length : Int) then (if x3.size + (strOfNums ((x102002.take ((wrap64 ((wrap64 (x4 + 1)) * x102000)) : Int).toNat).drop ((wrap64 (x4 * x102000)) : Int).toNat)).size ≤ 9223372036854775807 then (spec_tyText.l0 k (x3 ++ (strOfNums ((x102002.take ((wrap64 ((wrap64 (x4 + 1)) * x102000)) : Int).toNat).drop ((wrap64 (x4 * x102000)) : Int).toNat))) (wrap64 (x4 + 1)) x102000 x102001 x102002) else (none)) else (none)) else (none)) else (none))) else (some x3)
def spec_tyText.f (k : Nat) (a0_0 : Int) (a0_1 : Int) (l0_2 : List Int) : Option (ByteArray) := spec_tyText.l0 k (⟨#[]⟩ : ByteArray) 0 a0_0 a0_1 l0_2
theorem spec_tyText.mono_l : ∀ k, (∀ y0 y1 y2 y3 y4, LeO (spec_tyText.l0 k y0 y1 y2 y3 y4) (spec_tyText.l0 (k + 1) y0 y1 y2 y3 y4))
 | 0 => fun _ _ _ _ _ r h => by simp [spec_tyText.l0] at h
 | k + 1 => by
  have ih0 := spec_tyText.mono_l k
  ·intro y0 y1 y2 y3 y4
   unfold spec_tyText.l0
   exact mo
theorem spec_tyText.mono : ∀ a0 a1 a2 k, LeO (spec_tyText.f k a0 a1 a2) (spec_tyText.f (k + 1) a0 a1 a2) := by
 intro a0 a1 a2 k
 have ih0 := spec_tyText.mono_l k
 unfold spec_tyText.f
 exact mo
set_option maxHeartbeats 8000000 in
set_option maxRecDepth 100000 in
theorem spec_tyText.calls (k : Nat) (a0_0 : Int) (a0_1 : Int) (A0_2 : Option Addr) (c0_2 : Nat) (l0_2 : List Int) (r : ByteArray) (w : World) (hr0_2 : Kd.C (Kd.int .u8) w A0_2 l0_2.length l0_2) (hc0_2 : l0_2.length ≤ c0_2) (h : spec_tyText.f k a0_0 a0_1 l0_2 = some r) :
  Calls Tryz.prog 87 #[.agg #[.int .i64 a0_0, .int .i64 a0_1, .slice A0_2 l0_2.length c0_2]] w fun e w' => e = .returned (.string r) ∧ Below w.heap.size w w' := by
 have hu62 := Tryz.underlying62
 have HR0_2 := am hr0_2
 have HC0_2 := am hc0_2
 clear hr0_2 hc0_2
 have HB := am (Below.refl w.heap.size w)
 have H : (spec_tyText.l0 k (⟨#[]⟩ : ByteArray) 0 a0_0 a0_1 l0_2) = some r := h
 clear h
 have H' := am H
 clear H
 go_enter Tryz.func87, Tryz.ntmps87
 go_wp2_with (first | ((with_reducible refine gate_dst (N := 1) rfl ?_); refine box_event ?hg (N := 1) ?hd (cs := #[.int .i64 a0_0, .int .i64 a0_1, .slice A0_2 l0_2.length c0_2]) (t := 62) ?hr ?_; (case hd => rfl); (case hg => rfl); (case hr => exact aq19); intro gb101 hg w2 hbox hb; have n0_ := am (below_step aq1 hb); have n1_ := am (hbox); have n2_ := am ((by rw [hg]; exact (below_size aq1) : w.heap.size ≤ gb101)); have n3_ := am ((by rw [hg]; exact (below_size aq1) : w.heap.size ≤ gb101)); clear HB; have HB := n0_; have BK101 := n1_; have GW101 := n2_; have GE101 := n3_; clear n0_ n1_ n2_ n3_; clear hb hbox hg))
 go_loopg [3, 4] k (fun kq v3 v4 w' => ∃ (x3_1 : ByteArray) (x4_1 : Int), v3 = .string x3_1 ∧ v4 = .int .i64 x4_1 ∧ Aside0 (spec_tyText.l0 kq x3_1 x4_1 a0_0 a0_1 l0_2 = some r) ∧ Aside0 (kq ≤ k) ∧ Aside0 (w'.heap[gb101]? = some (.cells #[.int .i64 a0_0, .int .i64 a0_1, (.slice A0_2 l0_2.length c0_2)] 62 (0, 0))) ∧ Aside0 (Below w.heap.size w w'))
 case atStart => exact ⟨((⟨#[]⟩ : ByteArray)), (0), aq6, aq6, H', ⟨Nat.le_refl _⟩, ⟨aq2⟩, ⟨aq0⟩⟩
 case round =>
  clear H'
  try clear p2
  obtain ⟨x3_1, x4_1, rfl, rfl, HA, HK1, BK101, HB⟩ := hrel
  cases gk with
  | zero => exact absurd HA.out (by simp [spec_tyText.l0])
  | succ k1 =>
   have H := HA.out
   clear HA
   simp only [spec_tyText.l0] at H
   by_cases c3 : x4_1 < a0_1
   ·rw [if_pos c3] at H
    have c3b0 := decide_eq_true c3
    clear c3
    by_cases c4 : x4_1 > 0
    ·rw [if_pos c4] at H
     have c4b0 := decide_eq_true c4
     clear c4
     by_cases c5 : x3_1.size + 1 ≤ 9223372036854775807
     ·rw [if_pos c5] at H
      have c5b0 := eq_true c5
      have c5b1 := decide_eq_true c5
      try have c5b2 : (9223372036854775807 < x3_1.size + 1) = False := eq_false (Nat.not_lt.2 c5)
      obtain ⟨ji6, hji6⟩ : ∃ j_ : Int, (wrap64 (x4_1 * a0_0)) = j_ := ⟨_, rfl⟩
      first | rw [hji6] at H | simp only [hji6] at H
      have hji6w : (IntKind.i64.wrap (x4_1 * a0_0)) = ji6 := (i64_w _).trans hji6
      by_cases c7 : 0 ≤ (ji6)
      ·rw [if_pos c7] at H
       have c7b0 := eq_true c7
       have c7b1 := decide_eq_true c7
       clear c7
       by_cases c8 : (ji6) ≤ (wrap64 ((wrap64 (x4_1 + 1)) * a0_0))
       ·rw [if_pos c8] at H
        have c8b0 := eq_true c8
        have c8b1 := decide_eq_true c8
        by_cases c9 : (wrap64 ((wrap64 (x4_1 + 1)) * a0_0)) ≤ (l0_2.length : Int)
        ·rw [if_pos c9] at H
         have c9b0 := eq_true c9
         have c9b1 := decide_eq_true c9
         by_cases c10 : (x3_1 ++ (⟨#[47]⟩ : ByteArray)).size + (strOfNums ((l0_2.take ((wrap64 ((wrap64 (x4_1 + 1)) * a0_0)) : Int).toNat).drop ((ji6) : Int).toNat)).size ≤ 9223372036854775807
         ·rw [if_pos c10] at H
          have c10b0 := eq_true c10
          have c10b1 := decide_eq_true c10
          try have c10b2 : (9223372036854775807 < (x3_1 ++ (⟨#[47]⟩ : ByteArray)).size + (strOfNums ((l0_2.take ((wrap64 ((wrap64 (x4_1 + 1)) * a0_0)) : Int).toNat).drop ((ji6) : Int).toNat)).size) = False := eq_false (Nat.not_lt.2 c10)
          have H' := am H
          clear H
          obtain ⟨hcz11_0, hcz11_1, hcz11_2, hfz11_0, hfz11_1, hfz11_2⟩ := blk3_ BK101.out
          obtain ⟨i012, hi012, _, hsz12, _⟩ := info_parts info5
          obtain ⟨A12, hcut12, hA12, hC12⟩ := print_mid_of (P := Tryz.prog) (Value.int .u8) 0 60 5 .i64 .i64 Tryz.underlying60 hi012 hsz12 A0_2 c0_2 l0_2 (ji6) (wrap64 ((wrap64 (x4_1 + 1)) * a0_0)) (of_decide_eq_true aq5) (by first | omega | exact of_decide_eq_true aq5) (of_decide_eq_true aq5) HC0_2.out
          have HR102 := am (Kd.C_of_reads (h1 := fun _ => rfl) (hA12 _ (Kd.reads_of_C HR0_2.out)))
          have HC102 := am hC12
          clear hA12 hC12 hi012 hsz12
          have hcv13 := Kd.C_string (P := Tryz.prog) (A := A12) (c := (c0_2 - (ji6).toNat)) Tryz.underlying60 Tryz.underlying5 Tryz.underlying9 (Kd.C_below HR102.out HB.out)
          (try rw [List.length_drop, List.length_take, Nat.min_eq_left (Int.toNat_le.2 (of_decide_eq_true aq5))] at hcv13)
          go_wp2
          go_roundg k1
          case measure => have := HK1.out; omega
          case rel => exact ⟨((x3_1 ++ (⟨#[47]⟩ : ByteArray)) ++ (strOfNums ((l0_2.take ((wrap64 ((wrap64 (x4_1 + 1)) * a0_0)) : Int).toNat).drop ((ji6) : Int).toNat))), (wrap64 (x4_1 + 1)), (by first | rfl | (simp; done) | (simp only [← hji6] <;> (first | rfl | simp)) | (simp [*]; done)), aq6, H', ⟨aq65⟩, ⟨aq2⟩, ⟨aq0⟩⟩
         ·rw [if_neg c10] at H
          exact absurd H (by simp)
        ·rw [if_neg c9] at H
         exact absurd H (by simp)
       ·rw [if_neg c8] at H
        exact absurd H (by simp)
      ·rw [if_neg c7] at H
       exact absurd H (by simp)
     ·rw [if_neg c5] at H
      exact absurd H (by simp)
    ·rw [if_neg c4] at H
     have c4b0 := decide_eq_false c4
     clear c4
     obtain ⟨ji14, hji14⟩ : ∃ j_ : Int, (wrap64 (x4_1 * a0_0)) = j_ := ⟨_, rfl⟩
     first | rw [hji14] at H | simp only [hji14] at H
     have hji14w : (IntKind.i64.wrap (x4_1 * a0_0)) = ji14 := (i64_w _).trans hji14
     by_cases c15 : 0 ≤ (ji14)
     ·rw [if_pos c15] at H
      have c15b0 := eq_true c15
      have c15b1 := decide_eq_true c15
      clear c15
      by_cases c16 : (ji14) ≤ (wrap64 ((wrap64 (x4_1 + 1)) * a0_0))
      ·rw [if_pos c16] at H
       have c16b0 := eq_true c16
       have c16b1 := decide_eq_true c16
       by_cases c17 : (wrap64 ((wrap64 (x4_1 + 1)) * a0_0)) ≤ (l0_2.length : Int)
       ·rw [if_pos c17] at H
        have c17b0 := eq_true c17
        have c17b1 := decide_eq_true c17
        by_cases c18 : x3_1.size + (strOfNums ((l0_2.take ((wrap64 ((wrap64 (x4_1 + 1)) * a0_0)) : Int).toNat).drop ((ji14) : Int).toNat)).size ≤ 9223372036854775807
        ·rw [if_pos c18] at H
         have c18b0 := eq_true c18
         have c18b1 := decide_eq_true c18
         try have c18b2 : (9223372036854775807 < x3_1.size + (strOfNums ((l0_2.take ((wrap64 ((wrap64 (x4_1 + 1)) * a0_0)) : Int).toNat).drop ((ji14) : Int).toNat)).size) = False := eq_false (Nat.not_lt.2 c18)
         have H' := am H
         clear H
         obtain ⟨hcz19_0, hcz19_1, hcz19_2, hfz19_0, hfz19_1, hfz19_2⟩ := blk3_ BK101.out
         obtain ⟨i020, hi020, _, hsz20, _⟩ := info_parts info5
         obtain ⟨A20, hcut20, hA20, hC20⟩ := print_mid_of (P := Tryz.prog) (Value.int .u8) 0 60 5 .i64 .i64 Tryz.underlying60 hi020 hsz20 A0_2 c0_2 l0_2 (ji14) (wrap64 ((wrap64 (x4_1 + 1)) * a0_0)) (of_decide_eq_true aq5) (by first | omega | exact of_decide_eq_true aq5) (of_decide_eq_true aq5) HC0_2.out
         have HR103 := am (Kd.C_of_reads (h1 := fun _ => rfl) (hA20 _ (Kd.reads_of_C HR0_2.out)))
         have HC103 := am hC20
         clear hA20 hC20 hi020 hsz20
         have hcv21 := Kd.C_string (P := Tryz.prog) (A := A20) (c := (c0_2 - (ji14).toNat)) Tryz.underlying60 Tryz.underlying5 Tryz.underlying9 (Kd.C_below HR103.out HB.out)
         (try rw [List.length_drop, List.length_take, Nat.min_eq_left (Int.toNat_le.2 (of_decide_eq_true aq5))] at hcv21)
         go_wp2
         go_roundg k1
         case measure => have := HK1.out; omega
         case rel => exact ⟨(x3_1 ++ (strOfNums ((l0_2.take ((wrap64 ((wrap64 (x4_1 + 1)) * a0_0)) : Int).toNat).drop ((ji14) : Int).toNat))), (wrap64 (x4_1 + 1)), (by first | rfl | (simp; done) | (simp only [← hji14] <;> (first | rfl | simp)) | (simp [*]; done)), aq6, H', ⟨aq65⟩, ⟨aq2⟩, ⟨aq0⟩⟩
        ·rw [if_neg c18] at H
         exact absurd H (by simp)
       ·rw [if_neg c17] at H
        exact absurd H (by simp)
      ·rw [if_neg c16] at H
       exact absurd H (by simp)
     ·rw [if_neg c15] at H
      exact absurd H (by simp)
   ·rw [if_neg c3] at H
    have c3b0 := decide_eq_false c3
    clear c3
    obtain rfl := Option.some.inj H
    obtain ⟨hcz22_0, hcz22_1, hcz22_2, hfz22_0, hfz22_1, hfz22_2⟩ := blk3_ BK101.out
    go_wp2
    go_ret
    exact ⟨aq8, aq0⟩
end Go.Proofs.YtdffgeoegdkiaaaGreatDoor.F

namespace Go.Proofs.YtdffgeoegdkiaaaGreatDoor.F
open Go.RowKit Go.Proofs.YtdffgeoegdkiaaaGreatDoor Go.Proofs.YtdffgeoegdkiaaaGreatDoorW.PrintWords
theorem w64t {n : Nat} (h : n ≤ 9223372036854775807) : wrap64 (n : Int) = n := w64 (by omega) (by omega)
theorem flatten_snoc {α : Type} (f : Nat → List α) (n : Nat) : ((List.range (n + 1)).map f).flatten = ((List.range n).map f).flatten ++ f n := by
  rw [List.range_succ, List.map_append, List.flatten_append]; simp
theorem map_snoc {α : Type} (f : Nat → α) (n : Nat) : (List.range (n + 1)).map f = (List.range n).map f ++ [f n] := by
  rw [List.range_succ, List.map_append]; rfl
def textB (g : (Nat × Nat × List Int)) : ByteArray := strOfNums (textG g)
theorem strOfNums_app (a b : List Int) : strOfNums (a ++ b) = strOfNums a ++ strOfNums b := by
  apply ByteArray.ext
  rw [ByteArray.data_append]
  unfold strOfNums
  simp
theorem strOfNums_len (l : List Int) : (strOfNums l).size = l.length := by
  show ((l.map fun n => UInt8.ofNat n.toNat).toArray).size = _
  simp
theorem joinI_snoc : ∀ (rs : List (List Int)) (r : List Int), rs ≠ [] → joinI (rs ++ [r]) = joinI rs ++ 47 :: r
  | [], r, h => absurd rfl h
  | [a], r, _ => rfl
  | a :: b :: rs, r, _ => by
    have ih := joinI_snoc (b :: rs) r (by simp)
    show a ++ 47 :: joinI ((b :: rs) ++ [r]) = (a ++ 47 :: joinI (b :: rs)) ++ 47 :: r
    rw [ih]; simp
theorem textG_small {g : (Nat × Nat × List Int)} (v : Vg g) : (textG g).length ≤ 42 := by
  have h1 := joinI_length (rowsOf g.1 g.2.1 g.2.2) (rowsOf_ne v.h1)
  rw [rowsOf_flatten _ _ _ v.len, rowsOf_length, v.len] at h1
  have := v.small
  have := v.h7
  show (joinI (rowsOf g.1 g.2.1 g.2.2)).length ≤ 42
  omega
theorem flat_len (w : Nat) (cs : List Int) : ∀ i, (rowsOf w i cs).flatten.length ≤ i * w
  | 0 => by simp [rowsOf]
  | i + 1 => by
    have ih := flat_len w cs i
    unfold rowsOf at ih ⊢
    rw [flatten_snoc, List.length_append, List.length_take, Nat.succ_mul]
    omega
theorem text_ev_l0 {w h : Nat} {cs : List Int} (hw : w ≤ 20) (hh : h ≤ 20) (hl : cs.length = w * h) : ∀ (d i : Nat), i + d = h →
    Ev (fun k => spec_tyText.l0 k (strOfNums (joinI (rowsOf w i cs))) i w h cs) (strOfNums (joinI (rowsOf w h cs)))
  | 0, i, hi => by
    obtain rfl : i = h := by omega
    refine Ev.step (f := fun _ => some _) (fun k => ?_) (Ev.now _)
    rw [spec_tyText.l0, if_neg (by omega)]
  | d + 1, i, hi => by
    have ih := text_ev_l0 hw hh hl d (i + 1) (by omega)
    have hwh : w * h ≤ 400 := Nat.mul_le_mul hw hh
    have hi2 : (i + 1) * w ≤ w * h := by rw [Nat.mul_comm w h]; exact Nat.mul_le_mul_right w (by omega)
    have hi3 : (i + 1) * w = i * w + w := by rw [Nat.add_mul, Nat.one_mul]
    have hrow : (cs.take ((i + 1) * w)).drop (i * w) = (cs.drop (i * w)).take w := by rw [List.drop_take]; congr 1; omega
    have hrl : (strOfNums ((cs.drop (i * w)).take w)).size = w := by rw [strOfNums_len, List.length_take, List.length_drop]; omega
    have hsz : (strOfNums (joinI (rowsOf w i cs))).size ≤ 1000 := by
      rw [strOfNums_len]
      rcases Nat.eq_zero_or_pos i with h0 | h0
      · subst h0; simp [rowsOf, joinI]
      · have h1 := joinI_length (rowsOf w i cs) (rowsOf_ne h0)
        have h2 : (rowsOf w i cs).flatten.length ≤ 400 := by
          exact Nat.le_trans (flat_len w cs i) (Nat.le_trans (Nat.mul_le_mul (show i ≤ 20 by omega) hw) (by decide))
        rw [rowsOf_length] at h1
        omega
    have hnext : strOfNums (joinI (rowsOf w (i + 1) cs)) = if 0 < i then (strOfNums (joinI (rowsOf w i cs)) ++ (⟨#[47]⟩ : ByteArray)) ++ strOfNums ((cs.drop (i * w)).take w) else strOfNums (joinI (rowsOf w i cs)) ++ strOfNums ((cs.drop (i * w)).take w) := by
      have hs : rowsOf w (i + 1) cs = rowsOf w i cs ++ [(cs.drop (i * w)).take w] := map_snoc _ i
      rw [hs]
      rcases Nat.eq_zero_or_pos i with h0 | h0
      · subst h0
        rw [if_neg (by omega)]
        rw [← strOfNums_app]; rfl
      · rw [if_pos h0, joinI_snoc _ _ (rowsOf_ne h0), show (47 :: (cs.drop (i * w)).take w : List Int) = [47] ++ (cs.drop (i * w)).take w from rfl, ← List.append_assoc, strOfNums_app, strOfNums_app]; rfl
    rw [hnext] at ih
    refine Ev.step (fun k => ?_) ih
    have e1 : wrap64 ((i : Int) * w) = ((i * w : Nat) : Int) := by rw [← Int.natCast_mul]; exact w64t (by omega)
    have e2 : wrap64 ((((i + 1 : Nat) : Int)) * w) = (((i + 1) * w : Nat) : Int) := by rw [← Int.natCast_mul]; exact w64t (by clear e1; omega)
    have e3 : wrap64 ((i : Int) + 1) = ((i + 1 : Nat) : Int) := w64t (n := i + 1) (by clear e1 e2; omega)
    rw [spec_tyText.l0, e3, e1, e2]
    clear e1 e2 e3
    rw [if_pos (by omega)]
    by_cases h0 : (i : Int) > 0
    · rw [if_pos h0, if_pos (by omega), if_pos (by omega), if_pos (by omega), if_pos (by omega), Int.toNat_natCast, Int.toNat_natCast, hrow, if_pos, if_pos (show 0 < i by omega)]
      rw [ByteArray.size_append, hrl]
      show (strOfNums (joinI (rowsOf w i cs))).size + 1 + w ≤ _
      omega
    · rw [if_neg h0, if_pos (by omega), if_pos (by omega), if_pos (by omega), Int.toNat_natCast, Int.toNat_natCast, hrow, if_pos, if_neg (show ¬ 0 < i by omega)]
      rw [hrl]; omega
theorem spec_text_ev {w h : Nat} {cs : List Int} (hw : w ≤ 20) (hh : h ≤ 20) (hl : cs.length = w * h) : Ev (fun k => spec_tyText.f k w h cs) (textB (w, h, cs)) := by
  have h1 := text_ev_l0 hw hh hl h 0 (by omega)
  exact Ev.congr (fun k => by rfl) h1
theorem join_strs : ∀ rs : List (List Int), Lib.join ((rs.map strOfNums).map (·.data.toList)) [47] = (joinI rs).map fun n => UInt8.ofNat n.toNat
  | [] => rfl
  | [a] => by simp [Lib.join, joinI, strOfNums]
  | a :: b :: rs => by
    have ih := join_strs (b :: rs)
    rw [joinI]
    unfold Lib.join List.intercalate at ih ⊢
    simp only [List.map_cons] at ih ⊢
    rw [List.intersperse, List.flatten_cons, List.flatten_cons, ih]
    · simp [strOfNums]
    all_goals simp
theorem impl_text_eq {g : (Nat × Nat × List Int)} (v : Vg g) : impl_tray_text.f g.1 g.2.1 g.2.2 = some (textB g) := by
  obtain ⟨w, h, cs⟩ := g
  have hl : cs.length = w * h := v.len
  have hw1 : 1 ≤ w := v.w1
  have hw7 : w ≤ 7 := v.w7
  have hh1 : 1 ≤ h := v.h1
  have hs : w * h ≤ 36 := v.small
  have h0 : 0 < w * h := Nat.mul_pos hw1 hh1
  have hd : cs.length / w = h := by rw [hl, Nat.mul_div_cancel_left h (by omega)]
  have hck : chunksB w cs = (rowsOf w h cs).map strOfNums := by
    unfold chunksB rowsOf
    rw [hd, List.map_map]; rfl
  have htl := textG_small v
  have hj := join_strs (rowsOf w h cs)
  have hjl : (joinI (rowsOf w h cs)).length ≤ 42 := htl
  show impl_tray_text.f w h cs = _
  unfold impl_tray_text.f
  rw [if_pos ⟨by omega, by omega, by omega, by rw [Int.toNat_natCast, hl]; exact Nat.mul_mod_right w h, by omega⟩, Int.toNat_natCast, hck]
  unfold strings_Join.f
  rw [if_pos]
  · unfold joinB
    show some (⟨(Lib.join (((rowsOf w h cs).map strOfNums).map (·.data.toList)) [47]).toArray⟩ : ByteArray) = _
    rw [hj]; rfl
  · refine ⟨by rw [List.length_map, rowsOf_length]; have := v.h7; simp only at this; omega, ?_⟩
    show (Lib.join (((rowsOf w h cs).map strOfNums).map (·.data.toList)) [47]).length ≤ _
    rw [hj, List.length_map]
    omega
end Go.Proofs.YtdffgeoegdkiaaaGreatDoor.F

namespace Go.Proofs.YtdffgeoegdkiaaaGreatDoor.F
open Go.Proofs.YtdffgeoegdkiaaaGreatDoor
open Go.RowKit Go.Proofs.YtdffgeoegdkiaaaGreatDoorW.PrintWords Go.Proofs.YtdffgeoegdkiaaaGreatDoorW.PrintLast Go.Proofs.YtdffgeoegdkiaaaGreatDoorW.PrintMore
attribute [local go_sem] max2_int min2_int max_two min_two max_three min_three max_four min_four
def impl_tray_number.f (a0_0 : Int) (a0_1 : Int) (l0_2 : List Int) (a1 : Int) (a2 : Int) : Option (Int) := some (wrap64 ((wrap64 (a2 * a0_0)) + a1))
set_option maxHeartbeats 8000000 in
set_option maxRecDepth 100000 in
theorem impl_tray_number.calls (a0_0 : Int) (a0_1 : Int) (A0_2 : Option Addr) (c0_2 : Nat) (l0_2 : List Int) (a1 : Int) (a2 : Int) (r : Int) (w : World) (hr0_2 : Kd.C (Kd.int .u8) w A0_2 l0_2.length l0_2) (hc0_2 : l0_2.length ≤ c0_2) (h : impl_tray_number.f a0_0 a0_1 l0_2 a1 a2 = some r) :
  Calls Tryz.prog 214 #[.agg #[.int .i64 a0_0, .int .i64 a0_1, .slice A0_2 l0_2.length c0_2], .int .i64 a1, .int .i64 a2] w fun e w' => e = .returned (.int .i64 r) ∧ Below w.heap.size w w' := by
 have hu93 := Tryz.underlying93
 have HR0_2 := am hr0_2
 have HC0_2 := am hc0_2
 clear hr0_2 hc0_2
 have HB := am (Below.refl w.heap.size w)
 have H : (some (wrap64 ((wrap64 (a2 * a0_0)) + a1))) = some r := h
 clear h
 obtain rfl := Option.some.inj H
 go_enter Tryz.func214, Tryz.ntmps214
 go_wp2_with (first | ((with_reducible refine gate_dst (N := 3) rfl ?_); refine box_event ?hg (N := 3) ?hd (cs := #[.int .i64 a0_0, .int .i64 a0_1, .slice A0_2 l0_2.length c0_2]) (t := 93) ?hr ?_; (case hd => rfl); (case hg => rfl); (case hr => exact aq19); intro gb101 hg w4 hbox hb; have n0_ := am (below_step aq1 hb); have n1_ := am (hbox); have n2_ := am ((by rw [hg]; exact (below_size aq1) : w.heap.size ≤ gb101)); have n3_ := am ((by rw [hg]; exact (below_size aq1) : w.heap.size ≤ gb101)); clear HB; have HB := n0_; have BK101 := n1_; have GW101 := n2_; have GE101 := n3_; clear n0_ n1_ n2_ n3_; clear hb hbox hg; obtain ⟨hcz5_0, hcz5_1, hcz5_2, hfz5_0, hfz5_1, hfz5_2⟩ := blk3_ BK101.out))
 go_ret
 exact ⟨aq8, aq0⟩
def slices_Reverse_int_int.l0 : Nat → List Int → Int → Int → Option (List Int)
 | 0, _, _, _ => none
 | k + 1, x0, x2, x3 => if x2 < x3 then (if 0 ≤ x3 then (if x3 < (x0.length : Int) then (if 0 ≤ x2 then (if x2 < (x0.length : Int) then (slices_Reverse_int_int.l0 k ((x0.set (x2 : Int).toNat (rd x0 x3)).set (x3 : Int).toNat (rd x0 x2)) (wrap64 (x2 + 1)) (wrap64 (x3 - 1))) else (none)) else (none)) else (none)) else (none)) else (some x0)
def slices_Reverse_int_int.f (k : Nat) (l0 : List Int) : Option (List Int) := slices_Reverse_int_int.l0 k l0 0 (wrap64 ((l0.length : Int) - 1))
theorem slices_Reverse_int_int.mono_l : ∀ k, (∀ y0 y1 y2, LeO (slices_Reverse_int_int.l0 k y0 y1 y2) (slices_Reverse_int_int.l0 (k + 1) y0 y1 y2))
 | 0 => fun _ _ _ r h => by simp [slices_Reverse_int_int.l0] at h
 | k + 1 => by
  have ih0 := slices_Reverse_int_int.mono_l k
  ·intro y0 y1 y2
   unfold slices_Reverse_int_int.l0
   exact mo
theorem slices_Reverse_int_int.mono : ∀ a0 k, LeO (slices_Reverse_int_int.f k a0) (slices_Reverse_int_int.f (k + 1) a0) := by
 intro a0 k
 have ih0 := slices_Reverse_int_int.mono_l k
 unfold slices_Reverse_int_int.f
 exact mo
def slices_Reverse_int_int.T3 : Bool × List (List Nat × List Nat) := (true, [([], []), ([], []), ([], []), ([], []), ([], []), ([], []), ([4, 5], [4, 5]), ([6], [6]), ([], []), ([], []), ([8, 9], [8, 9]), ([10], [10]), ([0, 1, 0, 1, 4, 5, 6, 7, 11], [0, 1]), ([12, 7, 0, 1, 4, 5, 6, 7, 11], [7, 12]), ([2, 3, 0, 1, 2, 3, 4, 5, 6, 7, 8, 9, 10, 11, 12, 13], [2, 3]), ([14, 11, 13, 0, 1, 2, 3, 4, 5, 6, 7, 8, 9, 10, 11, 12, 13], [11, 14])])
def slices_Reverse_int_int.B3 : List Nat := [0, 0, 0, 0, 0, 0, 48, 112, 0, 0, 768, 1792, 4083, 8179, 16383, 32767]
theorem slices_Reverse_int_int.tab3 : rtab .any (opsOf Tryz.f215 3) = slices_Reverse_int_int.T3 := by kernel_rfl
theorem slices_Reverse_int_int.bits3 : waitsOk slices_Reverse_int_int.T3.2 slices_Reverse_int_int.B3 = true := by kernel_rfl
set_option maxHeartbeats 8000000 in
set_option maxRecDepth 100000 in
theorem slices_Reverse_int_int.calls (k : Nat) (P0_ : Nat → Prop) (u9000_ : Value) (l0 : List Int) (r : List Int) (w0 w : World) (hB : Below w0.heap.size w0 w) (ho0 : Kd.R (Kd.int .i64) 3 w w0.heap.size P0_ u9000_ l0) (h : slices_Reverse_int_int.f k l0 = some r) :
  Calls Tryz.prog 215 #[u9000_] w fun e w' => e = .returned (.tuple #[]) ∧ Kd.R (Kd.int .i64) 3 w' w0.heap.size (fun k_ => (P0_ k_ ∨ w.heap.size ≤ k_)) u9000_ r ∧ Below w0.heap.size w0 w' ∧ Kept w w' (fun k_ => P0_ k_) := by
 have HO0 := am (show Kd.R (Kd.int .i64) 3 w w0.heap.size (fun k_ => (P0_ k_ ∨ w.heap.size ≤ k_)) u9000_ l0 from Kd.R_mono ho0 (fun k_ hk => (.inl hk)))
 have HK := am (Kept.refl w (fun k_ => P0_ k_))
 have HW0 := am hB.size
 have HB := am hB
 clear hB
 have H : (slices_Reverse_int_int.l0 k l0 0 (wrap64 ((l0.length : Int) - 1))) = some r := h
 clear h
 have H' := am H
 clear H
 obtain ⟨Ao2, co2, eo2⟩ := Kd.R_slice HO0.out
 subst eo2
 go_enter Tryz.func215, Tryz.ntmps215
 go_wp2
 go_loopg [2, 3] k (fun kq v2 v3 w' => ∃ (x0_1 : List Int) (x2_1 : Int) (x3_1 : Int), v2 = .int .i64 x2_1 ∧ v3 = .int .i64 x3_1 ∧ Aside0 (slices_Reverse_int_int.l0 kq x0_1 x2_1 x3_1 = some r) ∧ Aside0 (kq ≤ k) ∧ Aside0 (Kd.R (Kd.int .i64) 3 w' w0.heap.size (fun k_ => (P0_ k_ ∨ w.heap.size ≤ k_)) (.slice Ao2 l0.length co2) x0_1) ∧ Aside0 (Kept w w' (fun k_ => P0_ k_)) ∧ Aside0 (Below w0.heap.size w0 w'))
 case atStart => exact ⟨(l0), (0), (wrap64 ((l0.length : Int) - 1)), aq6, aq6, H', ⟨Nat.le_refl _⟩, ⟨by (with_reducible repeat (first | apply Kd.R_alloc | apply Kd.R_drewN | apply Kd.R_drew)); exact HO0.out⟩, ⟨aq39⟩, ⟨aq1⟩⟩
 case round =>
  clear H'
  try clear c2
  try clear p2
  obtain ⟨x0_1, x2_1, x3_1, rfl, rfl, HA, HK1, HO_0, HK, HB⟩ := hrel
  have hl0_1 := (Kd.R_reads' HO_0.out).1
  rw [hl0_1] at HO_0
  (try simp only [hl0_1])
  cases gk with
  | zero => exact absurd HA.out (by simp [slices_Reverse_int_int.l0])
  | succ k1 =>
   have H := HA.out
   clear HA
   simp only [slices_Reverse_int_int.l0] at H
   by_cases c3 : x2_1 < x3_1
   ·rw [if_pos c3] at H
    have c3b0 := decide_eq_true c3
    clear c3
    by_cases c4 : 0 ≤ x3_1
    ·rw [if_pos c4] at H
     have c4b0 := decide_eq_true c4
     clear c4
     by_cases c5 : x3_1 < (x0_1.length : Int)
     ·rw [if_pos c5] at H
      have c5b0 := decide_eq_true c5
      clear c5
      by_cases c6 : 0 ≤ x2_1
      ·rw [if_pos c6] at H
       have c6b0 := decide_eq_true c6
       clear c6
       by_cases c7 : x2_1 < (x0_1.length : Int)
       ·rw [if_pos c7] at H
        have c7b0 := decide_eq_true c7
        clear c7
        obtain ⟨y103, hy_⟩ : ∃ y_ : List Int, y_ = (x0_1.set (x2_1 : Int).toNat (rd x0_1 x3_1)) := ⟨_, rfl⟩
        replace H : (slices_Reverse_int_int.l0 k1 (y103.set (x3_1 : Int).toNat (rd x0_1 x2_1)) (wrap64 (x2_1 + 1)) (wrap64 (x3_1 - 1))) = some r := aq3
        have Ny103 := am hy_
        clear hy_
        obtain ⟨y104, hy_⟩ : ∃ y_ : List Int, y_ = (y103.set (x3_1 : Int).toNat (rd x0_1 x2_1)) := ⟨_, rfl⟩
        replace H : (slices_Reverse_int_int.l0 k1 y104 (wrap64 (x2_1 + 1)) (wrap64 (x3_1 - 1))) = some r := aq3
        have Ny104 := am hy_
        clear hy_
        have H' := am H
        clear H
        try go_wp2
        have n0_ := am (Kd.R_drew HO_0.out)
        have n1_ := am (Kept.drew HK.out)
        have n2_ := am (below_drew1 HB.out)
        clear HO_0
        clear HK
        clear HB
        have HO_0 := n0_
        have HK := n1_
        have HB := n2_
        clear n0_ n1_ n2_
        have p101 : 0 ≤ (x3_1 : Int) := of_decide_eq_true aq5
        have q101 : x3_1 < (x0_1.length : Int) := of_decide_eq_true aq5
        obtain ⟨ad101, e101, hx101_0⟩ := Kd.at_int (Kd.R_reads' HO_0.out).2.2 x3_1 p101 q101
        cases e101
        replace p101 := eq_true p101
        replace q101 := eq_true q101
        have p102 : 0 ≤ (x2_1 : Int) := of_decide_eq_true aq5
        have q102 : x2_1 < (x0_1.length : Int) := of_decide_eq_true aq5
        obtain ⟨ad102, e102, hx102_0⟩ := Kd.at_int (Kd.R_reads' HO_0.out).2.2 x2_1 p102 q102
        obtain rfl : ad101 = ad102 := (by injection e102)
        replace p102 := eq_true p102
        replace q102 := eq_true q102
        have p8 : 0 ≤ (x2_1 : Int) := of_decide_eq_true aq5
        have q8 : (x2_1 : Int) < ((x0_1.length : Int) : Int) := of_decide_eq_true aq5
        obtain ⟨go8, co8, eo8, gb8, gl8, cl8, HG8⟩ := Kd.R_form HO_0.out (by omega)
        (first | cases eo8 | (injection eo8 with ea_ en_ ec_; (first | subst ea_ | (injection ea_ with ea_; subst ea_)); subst ec_; clear en_))
        have GB8 := am gb8
        have GG8 := am HG8
        clear gb8 gl8 HG8
        have HMgo8 := am (show (P0_ go8 ∨ w.heap.size ≤ go8) from (HO_0.out.1 _ rfl))
        (first | simp only [add_plain] at hx101_0 | skip)
        (first | simp only [add_plain] at hx102_0 | skip)
        obtain ⟨hx8_0, hf8_0⟩ := Kd.R_celln 0 HO_0.out (x2_1 : Int) p8 q8
        replace p8 := eq_true p8
        replace q8 := eq_true q8
        have HP11 := Kd.R_putn HO_0.out (x2_1 : Int) (rd x0_1 x3_1)
        rw [← Ny103.out] at HP11
        have HQ11 := am HP11
        clear HP11
        have p9 : 0 ≤ (x3_1 : Int) := of_decide_eq_true aq5
        have q9 : (x3_1 : Int) < ((x0_1.length : Int) : Int) := of_decide_eq_true aq5
        obtain ⟨hx9_0, hf9_0⟩ := Kd.R_celln 0 HQ11.out (x3_1 : Int) p9 q9
        replace p9 := eq_true p9
        replace q9 := eq_true q9
        have HP12 := Kd.R_putn HQ11.out (x3_1 : Int) (rd x0_1 x2_1)
        rw [← Ny104.out] at HP12
        have HQ12 := am HP12
        clear HP12
        refine start_ (n := 16) (S := fun w' => w'.cell? ⟨go8, (x3_1).toNat, none⟩ = some (.int .i64 (rd x0_1 x3_1)) ∧ w'.cell? ⟨go8, (x2_1).toNat, none⟩ = some (.int .i64 (rd x0_1 x2_1))) (ds := [13, 15]) #[false, false, false, false, false, false, false, false, false, false, false, false, false, false, false, false] (by kernel_rfl) rfl rfl ⟨hx101_0, hx102_0⟩ (fun hHeld => ?_); refine with_tabW slices_Reverse_int_int.tab3 slices_Reverse_int_int.bits3 (fun HT_ HW_ => ?_)
        generalize wr.drew = w10 at HO_0 HK HB GG8 HQ11 HQ12 hf8_0 hf9_0 hx101_0 hx102_0 hx8_0 hx9_0 hHeld ⊢
        refine pure_ (i := 0) (N := some 14) (v := ?_) (a' := ?_) (bm 16 1) rfl rfl (any_of HT_.out (by kernel_rfl)) (fun _ _ _ h => h) (Or.inl ⟨by rfl, ?_⟩) ?_ ?_
        rotate_left
        ·intro w'
         go_simp
         with_reducible rfl
        rotate_left
        ·simp only [Act.put, ac_]
         rfl
        refine pure_ (i := 1) (N := some 15) (v := ?_) (a' := ?_) (bm 16 3) rfl rfl (any_of HT_.out (by kernel_rfl)) (fun _ _ _ h => h) (Or.inl ⟨by rfl, ?_⟩) ?_ ?_
        rotate_left
        ·intro w'
         go_simp
         with_reducible rfl
        rotate_left
        ·simp only [Act.put, ac_]
         rfl
        refine pure_ (i := 2) (N := some 16) (v := ?_) (a' := ?_) (bm 16 7) rfl rfl (any_of HT_.out (by kernel_rfl)) (fun _ _ _ h => h) (Or.inl ⟨by rfl, ?_⟩) ?_ ?_
        rotate_left
        ·intro w'
         go_simp
         with_reducible rfl
        rotate_left
        ·simp only [Act.put, ac_]
         rfl
        refine pure_ (i := 3) (N := some 17) (v := ?_) (a' := ?_) (bm 16 15) rfl rfl (any_of HT_.out (by kernel_rfl)) (fun _ _ _ h => h) (Or.inl ⟨by rfl, ?_⟩) ?_ ?_
        rotate_left
        ·intro w'
         go_simp
         with_reducible rfl
        rotate_left
        ·simp only [Act.put, ac_]
         rfl
        refine pure_ (i := 4) (N := some 18) (v := ?_) (a' := ?_) (bm 16 31) rfl rfl (any_of HT_.out (by kernel_rfl)) (fun _ _ _ h => h) (Or.inl ⟨by rfl, ?_⟩) ?_ ?_
        rotate_left
        ·intro w'
         go_simp
         with_reducible rfl
        rotate_left
        ·simp only [Act.put, ac_]
         rfl
        refine pure_ (i := 5) (N := some 19) (v := ?_) (a' := ?_) (bm 16 63) rfl rfl (any_of HT_.out (by kernel_rfl)) (fun _ _ _ h => h) (Or.inl ⟨by rfl, ?_⟩) ?_ ?_
        rotate_left
        ·intro w'
         go_simp
         with_reducible rfl
        rotate_left
        ·simp only [Act.put, ac_]
         rfl
        refine pure_ (i := 6) (N := some 20) (v := ?_) (a' := ?_) (bm 16 127) rfl rfl (any_of HT_.out (by kernel_rfl)) (fun _ _ _ h => h) (Or.inl ⟨by rfl, ?_⟩) ?_ ?_
        rotate_left
        ·intro w'
         go_simp
         with_reducible rfl
        rotate_left
        ·simp only [Act.put, ac_]
         rfl
        refine pure_ (i := 8) (N := some 22) (v := ?_) (a' := ?_) (bm 16 383) rfl rfl (any_of HT_.out (by kernel_rfl)) (fun _ _ _ h => h) (Or.inl ⟨by rfl, ?_⟩) ?_ ?_
        rotate_left
        ·intro w'
         go_simp
         with_reducible rfl
        rotate_left
        ·simp only [Act.put, ac_]
         rfl
        refine pure_ (i := 9) (N := some 23) (v := ?_) (a' := ?_) (bm 16 895) rfl rfl (any_of HT_.out (by kernel_rfl)) (fun _ _ _ h => h) (Or.inl ⟨by rfl, ?_⟩) ?_ ?_
        rotate_left
        ·intro w'
         go_simp
         with_reducible rfl
        rotate_left
        ·simp only [Act.put, ac_]
         rfl
        refine pure_ (i := 10) (N := some 24) (v := ?_) (a' := ?_) (bm 16 1919) rfl rfl (any_of HT_.out (by kernel_rfl)) (fun _ _ _ h => h) (Or.inl ⟨by rfl, ?_⟩) ?_ ?_
        rotate_left
        ·intro w'
         go_simp
         with_reducible rfl
        rotate_left
        ·simp only [Act.put, ac_]
         rfl
        refine take_ (i := 7) (N := some 21) (v := ?_) (a' := ?_) (bm 16 2047) rfl rfl (take_ofW HT_.out HW_.out (by kernel_rfl)) (fun _ _ _ h => h) (Or.inl ⟨by rfl, ?_⟩) hHeld ?_ ?_
        rotate_left
        ·rintro w' ⟨s0, s1⟩
         go_simp
         with_reducible rfl
        rotate_left
        ·simp only [Act.put, ac_]
         rfl
        refine take_ (i := 11) (N := some 25) (v := ?_) (a' := ?_) (bm 16 4095) rfl rfl (take_ofW HT_.out HW_.out (by kernel_rfl)) (fun _ _ _ h => h) (Or.inl ⟨by rfl, ?_⟩) hHeld ?_ ?_
        rotate_left
        ·rintro w' ⟨s0, s1⟩
         go_simp
         with_reducible rfl
        rotate_left
        ·simp only [Act.put, ac_]
         rfl
        refine pure_ (i := 12) (N := some 26) (v := ?_) (a' := ?_) (bm 16 8191) rfl rfl (any_of HT_.out (by kernel_rfl)) (fun _ _ _ h => h) (Or.inl ⟨by rfl, ?_⟩) ?_ ?_
        rotate_left
        ·intro w'
         go_simp
         with_reducible rfl
        rotate_left
        ·simp only [Act.put, ac_]
         rfl
        refine last_ (i := 13) (N := none) (bm 16 16383) rfl rfl (one_of HT_.out (by kernel_rfl)) (by decide) (fun K hK => ?_)
        refine skip_ (w1 := ?_) (by rfl) rfl ?_ ?_
        rotate_left
        ·go_simp
         rfl
        refine hK.out _ _ ?_
        clear hK K
        refine pure_ (i := 14) (N := some 27) (v := ?_) (a' := ?_) (bm 16 32767) rfl rfl (any_of HT_.out (by kernel_rfl)) (fun _ _ _ h => h) (Or.inl ⟨by rfl, ?_⟩) ?_ ?_
        rotate_left
        ·intro w'
         go_simp
         with_reducible rfl
        rotate_left
        ·simp only [Act.put, ac_]
         rfl
        refine last_ (i := 15) (N := none) (bm 16 65535) rfl rfl (one_of HT_.out (by kernel_rfl)) (by decide) (fun K hK => ?_)
        refine skip_ (w1 := ?_) (by rfl) rfl ?_ ?_
        rotate_left
        ·go_simp
         rfl
        refine hK.out _ _ ?_
        clear hK K
        refine done_ (done_of HT_.out (by kernel_rfl)) ?_
        try go_wp2
        (try simp only [← hl0_1])
        go_roundg k1
        case measure => have := HK1.out; omega
        case rel => exact ⟨(y104), (wrap64 (x2_1 + 1)), (wrap64 (x3_1 - 1)), aq6, aq6, H', ⟨aq65⟩, ⟨by (try simp only [hl0_1]); (with_reducible repeat (first | apply Kd.R_alloc | apply Kd.R_drewN | apply Kd.R_drew)); exact HQ12.out⟩, ⟨by repeat (first | (with_reducible first | exact HK.out | apply Kept.alloc | apply Kept.drewN | apply Kept.drew | refine Kept.setCell ?_ HMgo8.out _ | refine Kept.setCell ?_ HMgo8.out _) | exact HK.out)⟩, ⟨by repeat (first | (with_reducible first | exact HB.out | apply below_alloc | apply pw_below_drewN | apply below_drew1 | refine below_set ?_ GB8.out | refine below_set ?_ GB8.out) | exact HB.out)⟩⟩
       ·rw [if_neg c7] at H
        exact absurd H (by simp)
      ·rw [if_neg c6] at H
       exact absurd H (by simp)
     ·rw [if_neg c5] at H
      exact absurd H (by simp)
    ·rw [if_neg c4] at H
     exact absurd H (by simp)
   ·rw [if_neg c3] at H
    have c3b0 := decide_eq_false c3
    clear c3
    obtain rfl := Option.some.inj H
    go_wp2
    first | go_end0 | ((try simp only [Exit.inBlock, Exit.then]); refine bodyPost_ret (results_none rfl _ _ _) rfl ?_)
    exact ⟨aq8, (by first | exact aq55 | (simp only [hl0_1]; exact aq55)), aq1, aq39⟩
end Go.Proofs.YtdffgeoegdkiaaaGreatDoor.F
