/- The proof that the law's row holds, part 5: the kit's words, the printed walks and the plain law. No conditions beyond the card's own. -/
import Derived.Test.YtdffgeoegdkiaaaGreatDoorM0
import Derived.Test.YtdffgeoegdkiaaaGreatDoorM1
import Derived.Test.YtdffgeoegdkiaaaGreatDoorM2
import Derived.Test.YtdffgeoegdkiaaaGreatDoorM3
import Derived.Test.YtdffgeoegdkiaaaGreatDoorM4
set_option linter.unusedVariables false
set_option linter.unusedSimpArgs false
namespace Go.Proofs.YtdffgeoegdkiaaaGreatDoor.F
open Go.Proofs.YtdffgeoegdkiaaaGreatDoor
open Go.RowKit Go.Proofs.YtdffgeoegdkiaaaGreatDoorW.PrintWords Go.Proofs.YtdffgeoegdkiaaaGreatDoorW.PrintLast Go.Proofs.YtdffgeoegdkiaaaGreatDoorW.PrintMore
attribute [local go_sem] max2_int min2_int max_two min_two max_three min_three max_four min_four
mutual
def spec_mcCycles.l0 : Nat → List Int → List (List Int) → List Bool → Int → Int → Option ((List (List Int)))
 | 0, _, _, _, _, _ => none
 | k + 1, x0, x3, x4, x12, x13 => if x13 < x12 then (spec_mcCycles.l1 k x0 x3 x4 ([] : List Int) x13 x12 x13) else (some x3)
def spec_mcCycles.l1 : Nat → List Int → List (List Int) → List Bool → List Int → Int → Int → Int → Option ((List (List Int)))
 | 0, _, _, _, _, _, _, _ => none
 | k + 1, x0, x3, x4, x6, x7, x12, x13 => if 0 ≤ x7 then (if x7 < (x4.length : Int) then (if rdOf false x4 x7 = true then (if (x6.length : Int) > 0 then (if x3.length < 5864062014805 then (spec_mcCycles.l0 k x0 (x3 ++ [x6]) x4 x12 (wrap64 (x13 + 1))) else (none)) else (spec_mcCycles.l0 k x0 x3 x4 x12 (wrap64 (x13 + 1)))) else (if x6.length < 17592186044416 then (if x7 < (x0.length : Int) then (spec_mcCycles.l1 k x0 x3 (x4.set (x7 : Int).toNat true) (x6 ++ [x7]) (rd x0 x7) x12 x13) else (none)) else (none))) else (none)) else (none)
end
def spec_mcCycles.f (k : Nat) (l0 : List Int) : Option ((List (List Int))) := if 0 ≤ (l0.length : Int) then (if ((l0.length : Int) : Int).toNat ≤ 281474976710656 then (spec_mcCycles.l0 k l0 ([] : List (List Int)) (List.replicate ((l0.length : Int) : Int).toNat false) (l0.length : Int) 0) else (none)) else (none)
theorem spec_mcCycles.mono_l : ∀ k, (∀ y0 y1 y2 y3 y4, LeO (spec_mcCycles.l0 k y0 y1 y2 y3 y4) (spec_mcCycles.l0 (k + 1) y0 y1 y2 y3 y4)) ∧ (∀ y0 y1 y2 y3 y4 y5 y6, LeO (spec_mcCycles.l1 k y0 y1 y2 y3 y4 y5 y6) (spec_mcCycles.l1 (k + 1) y0 y1 y2 y3 y4 y5 y6))
 | 0 => ⟨fun _ _ _ _ _ r h => by simp [spec_mcCycles.l0] at h, fun _ _ _ _ _ _ _ r h => by simp [spec_mcCycles.l1] at h⟩
 | k + 1 => by
  obtain ⟨ih0, ih1⟩ := spec_mcCycles.mono_l k
  refine ⟨?_, ?_⟩
  ·intro y0 y1 y2 y3 y4
   unfold spec_mcCycles.l0
   exact mo
  ·intro y0 y1 y2 y3 y4 y5 y6
   unfold spec_mcCycles.l1
   exact mo
theorem spec_mcCycles.mono : ∀ a0 k, LeO (spec_mcCycles.f k a0) (spec_mcCycles.f (k + 1) a0) := by
 intro a0 k
 obtain ⟨ih0, ih1⟩ := spec_mcCycles.mono_l k
 unfold spec_mcCycles.f
 exact mo
set_option maxHeartbeats 8000000 in
set_option maxRecDepth 100000 in
theorem spec_mcCycles.calls (k : Nat) (A0 : Option Addr) (c0 : Nat) (l0 : List Int) (r : List (List Int)) (w : World) (hr0 : Kd.C (Kd.int .i64) w A0 l0.length l0) (hc0 : l0.length ≤ c0) (h : spec_mcCycles.f k l0 = some r) :
  Calls Tryz.prog 68 #[.slice A0 l0.length c0] w fun e w' => ∃ v0_ : Value, e = .returned (v0_) ∧ Kd.S (Kd.slice 3 (Kd.int .i64)) 28 w' w.heap.size (fun _ => True) v0_ r ∧ Below w.heap.size w w' := by
 have HR0 := am hr0
 have HC0 := am hc0
 clear hr0 hc0
 have HB := am (Below.refl w.heap.size w)
 have H : (if 0 ≤ (l0.length : Int) then (if ((l0.length : Int) : Int).toNat ≤ 281474976710656 then (spec_mcCycles.l0 k l0 ([] : List (List Int)) (List.replicate ((l0.length : Int) : Int).toNat false) (l0.length : Int) 0) else (none)) else (none)) = some r := h
 clear h
 by_cases c2 : 0 ≤ (l0.length : Int)
 ·rw [if_pos c2] at H
  have c2b0 := eq_true c2
  have c2b1 : decide (0 ≤ (l0.length : Int)) = true := decide_eq_true c2
  clear c2
  by_cases c3 : ((l0.length : Int) : Int).toNat ≤ 281474976710656
  ·rw [if_pos c3] at H
   have c3b0 := eq_true c3
   have c3b1 : decide (((l0.length : Int) : Int).toNat ≤ 281474976710656) = true := decide_eq_true c3
   clear c3
   obtain ⟨y101, hy101⟩ : ∃ y_ : List Bool, y_ = (List.replicate ((l0.length : Int) : Int).toNat false) := ⟨_, rfl⟩
   replace H : (spec_mcCycles.l0 k l0 ([] : List (List Int)) y101 (l0.length : Int) 0) = some r := by first | (rw [hy101]; with_reducible exact H) | (have H2_ := (Option.bind_some _ _).symm.trans H; rw [hy101]; with_reducible exact H2_) | (have H2_ := (Option.bind_some _ _).symm.trans H; with_reducible exact H2_) | with_reducible exact H | (rw [hy101]; exact H) | exact H
   have Ny101 := am hy101
   clear hy101
   have H' := am H
   clear H
   go_enter Tryz.func68, Tryz.ntmps68
   go_wp2_with (first | ((with_reducible refine gate_dst (N := 10) rfl ?_); refine Kd.R_make Kd.bool _ 4 rfl (N := 10) rfl 83 _ _ rfl (l0.length : Int) rfl rfl Tryz.underlying83 (.bool false) 1 info4 rfl (by decide) (by omega) false (ok := fun _ => True) (okp := fun _ => True) rfl (fun _ hk => hk) trivial (of_decide_eq_true aq5) (Nat.le_trans (Nat.mul_le_mul_right _ (of_decide_eq_true aq5 : (l0.length : Int).toNat ≤ 281474976710656)) (by omega)) (Below.refl _ _) (Nat.le_refl _) ?_; intro v102 w4 ho5 hb hg_ hnew_; clear hg_ hnew_; (first | rw [← Ny101.out] at ho5 | (simp only [Int.reduceToNat] at ho5; rw [← Ny101.out] at ho5)); have n0_ := am (Kd.R_lower ho5 (below_size aq1)); have n1_ := am (below_step aq1 hb); clear HB; have HO103 := n0_; have HB := n1_; clear n0_ n1_; clear hb ho5))
   go_loopg [3, 13] k (fun kq v3 v13 w' => ∃ (x3_1 : List (List Int)) (x4_1 : List Bool) (x13_1 : Int), v13 = .int .i64 x13_1 ∧ Aside0 (spec_mcCycles.l0 kq l0 x3_1 x4_1 (l0.length : Int) x13_1 = some r) ∧ Aside0 (kq ≤ k) ∧ Aside0 (Kd.S (Kd.slice 3 (Kd.int .i64)) 28 w' w.heap.size (fun _ => True) v3 x3_1) ∧ Aside0 (Kd.R Kd.bool 4 w' w.heap.size (fun _ => True) v102 x4_1) ∧ Aside0 (Below w.heap.size w w'))
   case atStart => exact ⟨(([] : List (List Int))), (y101), (0), aq6, H', ⟨Nat.le_refl _⟩, ⟨aq60⟩, ⟨aq98⟩, ⟨aq1⟩⟩
   case round =>
    clear H'
    try clear c2
    try clear c2b0
    try clear c2b1
    try clear p2
    try clear c3
    try clear c3b0
    try clear c3b1
    obtain ⟨x3_1, x4_1, x13_1, rfl, HA, HK1, HO_3, HO_4, HB⟩ := hrel
    cases gk with
    | zero => exact absurd HA.out (by simp [spec_mcCycles.l0])
    | succ k1 =>
     have H := HA.out
     clear HA
     simp only [spec_mcCycles.l0] at H
     by_cases c6 : x13_1 < (l0.length : Int)
     ·rw [if_pos c6] at H
      have c6b0 : decide (x13_1 < (l0.length : Int)) = true := decide_eq_true c6
      clear c6
      have H' := am H
      clear H
      go_wp2
      go_loopg [6, 7] k1 (fun kq v6 v7 w' => ∃ (x4_2 : List Bool) (x6_2 : List Int) (x7_2 : Int), v7 = .int .i64 x7_2 ∧ Aside0 (spec_mcCycles.l1 kq l0 x3_1 x4_2 x6_2 x7_2 (l0.length : Int) x13_1 = some r) ∧ Aside0 (kq ≤ k1) ∧ Aside0 (Kd.S (Kd.slice 3 (Kd.int .i64)) 28 w' w.heap.size (fun k_ => some k_ ≠ (v6 : Value).ownBlock) u3 x3_1) ∧ Aside0 (Kd.R Kd.bool 4 w' w.heap.size (fun _ => True) v102 x4_2) ∧ Aside0 (Kd.R (Kd.int .i64) 3 w' w.heap.size (fun _ => True) v6 x6_2) ∧ Aside0 (Below w.heap.size w w'))
      case atStart => exact ⟨(x4_1), (([] : List Int)), (x13_1), aq6, H', ⟨Nat.le_refl _⟩, ⟨by (with_reducible repeat (first | apply Kd.S_alloc | apply Kd.S_drewN | apply Kd.S_drew)); exact Kd.S_mono HO_3.out (fun _ hk => (by simp [Value.ownBlock]))⟩, ⟨aq51⟩, ⟨aq16⟩, ⟨aq1⟩⟩
      case round =>
       clear H'
       try clear c2
       try clear c2b0
       try clear c2b1
       try clear p2
       try clear c3
       try clear c3b0
       try clear c3b1
       try clear c6
       try clear c6b0
       try clear p2
       obtain ⟨x4_2, x6_2, x7_2, rfl, HA, HK2, HO_3, HO_4, HO_6, HB⟩ := hrel
       cases gk with
       | zero => exact absurd HA.out (by simp [spec_mcCycles.l1])
       | succ k2 =>
        have H := HA.out
        clear HA
        simp only [spec_mcCycles.l1] at H
        by_cases c7 : 0 ≤ x7_2
        ·rw [if_pos c7] at H
         have c7b0 : decide (0 ≤ x7_2) = true := decide_eq_true c7
         clear c7
         by_cases c8 : x7_2 < (x4_2.length : Int)
         ·rw [if_pos c8] at H
          have c8b0 : decide (x7_2 < (x4_2.length : Int)) = true := decide_eq_true c8
          clear c8
          obtain ⟨bq9, hbq9⟩ : ∃ b_ : Bool, b_ = (rdOf false x4_2 x7_2) := ⟨_, rfl⟩
          replace H : (if bq9 = true then (if (x6_2.length : Int) > 0 then (if x3_1.length < 5864062014805 then (spec_mcCycles.l0 k2 l0 (x3_1 ++ [x6_2]) x4_2 (l0.length : Int) (wrap64 (x13_1 + 1))) else (none)) else (spec_mcCycles.l0 k2 l0 x3_1 x4_2 (l0.length : Int) (wrap64 (x13_1 + 1)))) else (if x6_2.length < 17592186044416 then (if x7_2 < (l0.length : Int) then (spec_mcCycles.l1 k2 l0 x3_1 (x4_2.set (x7_2 : Int).toNat true) (x6_2 ++ [x7_2]) (rd l0 x7_2) (l0.length : Int) x13_1) else (none)) else (none))) = some r := by rw [← hbq9] at H; exact H
          have Nbq9 := am hbq9
          clear hbq9
          by_cases c10 : bq9 = true
          ·subst c10
           have H1 : (if (x6_2.length : Int) > 0 then (if x3_1.length < 5864062014805 then (spec_mcCycles.l0 k2 l0 (x3_1 ++ [x6_2]) x4_2 (l0.length : Int) (wrap64 (x13_1 + 1))) else (none)) else (spec_mcCycles.l0 k2 l0 x3_1 x4_2 (l0.length : Int) (wrap64 (x13_1 + 1)))) = some r := by rw [if_pos rfl] at H; exact H
           clear H
           have H := H1
           clear H1
           by_cases c11 : (x6_2.length : Int) > 0
           ·rw [if_pos c11] at H
            have c11b0 : decide (0 < (x6_2.length : Int)) = true := decide_eq_true c11
            have c11b1 : decide (0 < x6_2.length) = true := decide_eq_true (by omega)
            clear c11
            by_cases c12 : x3_1.length < 5864062014805
            ·rw [if_pos c12] at H
             have LMc12 := am c12
             clear c12
             obtain ⟨y105, hy105⟩ : ∃ y_ : List (List Int), y_ = (x3_1 ++ [x6_2]) := ⟨_, rfl⟩
             replace H : (spec_mcCycles.l0 k2 l0 y105 x4_2 (l0.length : Int) (wrap64 (x13_1 + 1))) = some r := by first | (rw [hy105]; with_reducible exact H) | (have H2_ := (Option.bind_some _ _).symm.trans H; rw [hy105]; with_reducible exact H2_) | (have H2_ := (Option.bind_some _ _).symm.trans H; with_reducible exact H2_) | with_reducible exact H | (rw [hy105]; exact H) | exact H
             have Ny105 := am hy105
             clear hy105
             have H' := am H
             clear H
             obtain ⟨Ao13, co13, eo13⟩ := Kd.R_slice HO_4.out
             subst eo13
             have p104 : 0 ≤ (x7_2 : Int) := of_decide_eq_true aq5
             have q104 : x7_2 < (x4_2.length : Int) := of_decide_eq_true aq5
             obtain ⟨ad104, e104, hx104_0⟩ := Kd.at_bool (Kd.R_reads' HO_4.out).2.2 x7_2 p104 q104
             (try rw [← Nbq9.out] at hx104_0)
             cases e104
             replace p104 := eq_true p104
             replace q104 := eq_true q104
             obtain ⟨Ao14, co14, eo14⟩ := Kd.R_slice HO_6.out
             subst eo14
             go_wp2_with (first | ((with_reducible refine gate_builtin (b := .append) (xs := #[.tmp 36, .tmp 38]) rfl ?_); at_builtin; refine Kd.S_append (Kd.slice 3 (Kd.int .i64)) (w0 := w) w.heap.size rfl (.tmp 36) (.tmp 38) 40 28 (.slice none 0 0) 24 rfl Tryz.underlying40 info28 rfl (by decide) (by omega) u3 x3_1 x6_2 [.slice Ao14 x6_2.length co14] (fun _ => True) (fun k_ => some k_ = (.slice Ao14 x6_2.length co14 : Value).ownBlock) rfl rfl ?aP (fun k_ hk_ => ((Kd.R_mono (ok' := fun k_ => ((fun _ => True)) k_ ∧ some k_ ≠ (u3 : Value).ownBlock) (Kd.R_apart' (HO_6.out) (Kd.S_typed HO_3.out) (by decide)) (fun k_ hk => ⟨trivial, hk.2⟩))).1 k_ hk_.symm) ?aF ?aO ?aB ?aS ?aL ?_; (case aP => exact Kd.M_row (Kd.R_mono (Kd.R_tight rfl (Kd.R_mono (ok' := fun k_ => ((fun _ => True)) k_ ∧ some k_ ≠ (u3 : Value).ownBlock) (Kd.R_apart' (HO_6.out) (Kd.S_typed HO_3.out) (by decide)) (fun k_ hk => ⟨trivial, hk.2⟩))) (fun _ h_ => h_))); (case aB => exact aq1); (case aF => exact aq84); (case aO => exact (by (with_reducible repeat (first | apply Kd.S_alloc | apply Kd.S_drewN | apply Kd.S_drew)); exact Kd.S_mono HO_3.out (fun k_ hk => ⟨trivial, fun e_ => hk e_⟩))); (case aS => exact (below_size aq1)); (case aL => have := LMc12.out; omega); intro v106 w15 ho hb hg hat; rw [← Ny105.out] at ho; have n0_ := am (Kd.R_over' aq51 (Kd.S_typed aq95) (by decide) hg); have n1_ := am (hb); have n2_ := am (ho); clear HO_4; clear HB; clear HO_3; clear HO_6; have HO_4 := n0_; have HB := n1_; have HO107 := n2_; clear n0_ n1_ n2_; clear ho hb hg hat))
             go_roundg k2
             case measure => have := HK1.out; have := HK2.out; omega
             case rel => exact ⟨(y105), (x4_2), (wrap64 (x13_1 + 1)), aq6, H', ⟨aq45⟩, ⟨aq96⟩, ⟨aq51⟩, ⟨aq1⟩⟩
            ·rw [if_neg c12] at H
             exact absurd H (by simp)
           ·rw [if_neg c11] at H
            have c11b0 : decide (0 < (x6_2.length : Int)) = false := decide_eq_false c11
            have c11b1 : decide (0 < x6_2.length) = false := decide_eq_false (by omega)
            clear c11
            have H' := am H
            clear H
            obtain ⟨Ao16, co16, eo16⟩ := Kd.R_slice HO_4.out
            subst eo16
            have p104 : 0 ≤ (x7_2 : Int) := of_decide_eq_true aq5
            have q104 : x7_2 < (x4_2.length : Int) := of_decide_eq_true aq5
            obtain ⟨ad104, e104, hx104_0⟩ := Kd.at_bool (Kd.R_reads' HO_4.out).2.2 x7_2 p104 q104
            (try rw [← Nbq9.out] at hx104_0)
            cases e104
            replace p104 := eq_true p104
            replace q104 := eq_true q104
            obtain ⟨Ao17, co17, eo17⟩ := Kd.R_slice HO_6.out
            subst eo17
            go_wp2
            go_roundg k2
            case measure => have := HK1.out; have := HK2.out; omega
            case rel => exact ⟨(x3_1), (x4_2), (wrap64 (x13_1 + 1)), aq6, H', ⟨aq45⟩, ⟨by (with_reducible repeat (first | apply Kd.S_alloc | apply Kd.S_drewN | apply Kd.S_drew)); exact Kd.S_mono HO_3.out (fun _ hk => trivial)⟩, ⟨aq51⟩, ⟨aq1⟩⟩
          ·replace c10 := Bool.eq_false_iff.mpr c10
           subst c10
           have H1 : (if x6_2.length < 17592186044416 then (if x7_2 < (l0.length : Int) then (spec_mcCycles.l1 k2 l0 x3_1 (x4_2.set (x7_2 : Int).toNat true) (x6_2 ++ [x7_2]) (rd l0 x7_2) (l0.length : Int) x13_1) else (none)) else (none)) = some r := by rw [if_neg (show ¬ (false = true) by decide)] at H; exact H
           clear H
           have H := H1
           clear H1
           obtain ⟨y108, hy108⟩ : ∃ y_ : List Bool, y_ = (x4_2.set (x7_2 : Int).toNat true) := ⟨_, rfl⟩
           replace H : (if x6_2.length < 17592186044416 then (if x7_2 < (l0.length : Int) then (spec_mcCycles.l1 k2 l0 x3_1 y108 (x6_2 ++ [x7_2]) (rd l0 x7_2) (l0.length : Int) x13_1) else (none)) else (none)) = some r := by first | (rw [hy108]; with_reducible exact H) | (have H2_ := (Option.bind_some _ _).symm.trans H; rw [hy108]; with_reducible exact H2_) | (have H2_ := (Option.bind_some _ _).symm.trans H; with_reducible exact H2_) | with_reducible exact H | (rw [hy108]; exact H) | exact H
           have Ny108 := am hy108
           clear hy108
           by_cases c19 : x6_2.length < 17592186044416
           ·rw [if_pos c19] at H
            have LMc19 := am c19
            clear c19
            obtain ⟨y109, hy109⟩ : ∃ y_ : List Int, y_ = (x6_2 ++ [x7_2]) := ⟨_, rfl⟩
            replace H : (if x7_2 < (l0.length : Int) then (spec_mcCycles.l1 k2 l0 x3_1 y108 y109 (rd l0 x7_2) (l0.length : Int) x13_1) else (none)) = some r := by first | (rw [hy109]; with_reducible exact H) | (have H2_ := (Option.bind_some _ _).symm.trans H; rw [hy109]; with_reducible exact H2_) | (have H2_ := (Option.bind_some _ _).symm.trans H; with_reducible exact H2_) | with_reducible exact H | (rw [hy109]; exact H) | exact H
            have Ny109 := am hy109
            clear hy109
            by_cases c20 : x7_2 < (l0.length : Int)
            ·rw [if_pos c20] at H
             have c20b0 : decide (x7_2 < (l0.length : Int)) = true := decide_eq_true c20
             clear c20
             have H' := am H
             clear H
             obtain ⟨Ao21, co21, eo21⟩ := Kd.R_slice HO_4.out
             subst eo21
             have p104 : 0 ≤ (x7_2 : Int) := of_decide_eq_true aq5
             have q104 : x7_2 < (x4_2.length : Int) := of_decide_eq_true aq5
             obtain ⟨ad104, e104, hx104_0⟩ := Kd.at_bool (Kd.R_reads' HO_4.out).2.2 x7_2 p104 q104
             (try rw [← Nbq9.out] at hx104_0)
             cases e104
             replace p104 := eq_true p104
             replace q104 := eq_true q104
             have p18 : 0 ≤ (x7_2 : Int) := of_decide_eq_true aq5
             have q18 : (x7_2 : Int) < ((x4_2.length : Int) : Int) := of_decide_eq_true aq5
             obtain ⟨go18, co18, eo18, gb18, gl18, cl18, HG18⟩ := Kd.R_form HO_4.out (by omega)
             (first | cases eo18 | (injection eo18 with ea_ en_ ec_; (first | subst ea_ | (injection ea_ with ea_; subst ea_)); subst ec_; clear en_))
             have GB18 := am gb18
             have GG18 := am HG18
             clear gb18 gl18 HG18
             (first | simp only [add_plain] at hx104_0 | skip)
             obtain ⟨hx18_0, hf18_0⟩ := Kd.R_celln false HO_4.out (x7_2 : Int) p18 q18
             replace p18 := eq_true p18
             replace q18 := eq_true q18
             have HP22 := Kd.R_putg HO_4.out (x7_2 : Int) true
             go_wp2_with (first | ((with_reducible refine gate_store (t := 4) (p := 28) rfl ?_); refine store_event (t := 4) (p := 28) (v := ?vo_w23) (w1 := (wr.setCell ⟨go18, (x7_2 : Int).toNat, none⟩ (.bool true))) ?hg ?ho ?hn ?hr ?_; (case ho => rfl); (case hg => rfl); (case hn => rfl); (case hr => exact aq15); intro w23 hw; have hg : wr.grownBy w23 (some go18) := (by rw [hw]; exact HP22.2); have hp_ : Kd.R Kd.bool 4 w23 w.heap.size (fun _ => True) (.slice (some ⟨go18, 0, none⟩) x4_2.length co21) y108 := (by rw [hw, Ny108.out]; exact HP22.1); clear HP22; have n0_ := am (Kd.S_over' (v := (.slice (some ⟨go18, 0, none⟩) x4_2.length co21)) aq95 (Kd.R_typed HO_4.out) (by decide) hg); have n1_ := am (hp_); have n2_ := am (Kd.R_over' (v := (.slice (some ⟨go18, 0, none⟩) x4_2.length co21)) aq28 (Kd.R_typed HO_4.out) (by decide) hg); have n3_ := am ((by rw [hw]; exact below_set (HB.out) GB18.out : Below w.heap.size w w23)); clear HO_3; clear HO_4; clear HO_6; clear HB; have HO_3 := n0_; have HO_4 := n1_; have HO_6 := n2_; have HB := n3_; clear n0_ n1_ n2_ n3_; clear hg hw hp_) | ((with_reducible refine gate_builtin (b := .append) (xs := #[.tmp 29, .tmp 31]) rfl ?_); at_builtin; refine Kd.R_append (Kd.int .i64) (w0 := w) w.heap.size rfl (.tmp 29) (.tmp 31) 28 3 (.int .i64 0) 8 rfl Tryz.underlying28 info3 rfl (by decide) (by omega) u6 x6_2 x7_2 [.int .i64 x7_2] (fun _ => True) (fun _ => False) rfl rfl ?aP (fun _ hk => hk.elim) ?aF ?aO ?aB ?aS ?aL ?_; (case aP => exact rfl); (case aB => exact aq1); (case aF => exact aq84); (case aO => exact aq28); (case aS => exact (below_size aq1)); (case aL => have := LMc19.out; omega); intro v110 w24 ho hb hg hat; rw [← Ny109.out] at ho; have n0_ := am (Kd.S_after (ok := (fun _ => True)) (by (with_reducible repeat (first | apply Kd.S_alloc | apply Kd.S_drewN | apply Kd.S_drew)); exact Kd.S_mono HO_3.out (fun _ hk => ⟨trivial, hk⟩)) hg hat); have n1_ := am (Kd.R_over' aq51 (Kd.R_typed aq28) (by decide) hg); have n2_ := am (hb); have n3_ := am (ho); clear HO_3; clear HO_4; clear HB; clear HO_6; have HO_3 := n0_; have HO_4 := n1_; have HB := n2_; have HO111 := n3_; clear n0_ n1_ n2_ n3_; clear ho hb hg hat; have p112 : 0 ≤ (x7_2 : Int) := of_decide_eq_true aq5; have q112 : x7_2 < (l0.length : Int) := of_decide_eq_true aq5; obtain ⟨ad112, e112, hx112_0⟩ := Kd.at_int HR0.out x7_2 p112 q112; cases e112; replace hx112_0 := (HB.out.cell (World.block_lt_of_cell? w _ hx112_0)).trans hx112_0; replace p112 := eq_true p112; replace q112 := eq_true q112))
             go_roundg k2
             case measure => have := HK1.out; have := HK2.out; omega
             case rel => exact ⟨(y108), (y109), (rd l0 x7_2), aq6, H', ⟨aq45⟩, ⟨by (with_reducible repeat (first | apply Kd.S_alloc | apply Kd.S_drewN | apply Kd.S_drew)); exact Kd.S_mono HO_3.out (fun _ hk => hk.2)⟩, ⟨aq51⟩, ⟨aq94⟩, ⟨aq1⟩⟩
            ·rw [if_neg c20] at H
             exact absurd H (by simp)
           ·rw [if_neg c19] at H
            exact absurd H (by simp)
         ·rw [if_neg c8] at H
          exact absurd H (by simp)
        ·rw [if_neg c7] at H
         exact absurd H (by simp)
     ·rw [if_neg c6] at H
      have c6b0 : decide (x13_1 < (l0.length : Int)) = false := decide_eq_false c6
      clear c6
      obtain rfl := Option.some.inj H
      go_wp2
      go_ret
      exact ⟨_, aq7, aq95, aq1⟩
  ·rw [if_neg c3] at H
   exact absurd H (by simp)
 ·rw [if_neg c2] at H
  exact absurd H (by simp)
mutual
def impl_CyclesOfWord.l0 : Nat → List Int → List (List Int) → List Bool → Int → Int → Option ((List (List Int)) × Bool)
 | 0, _, _, _, _, _ => none
 | k + 1, x6, x8, x9, x26, x27 => if x27 < x26 then (impl_CyclesOfWord.l1 k x6 x8 x9 (([] : List Int)) x27 x26 x27) else (some (x8, true))
def impl_CyclesOfWord.l1 : Nat → List Int → List (List Int) → List Bool → List Int → Int → Int → Int → Option ((List (List Int)) × Bool)
 | 0, _, _, _, _, _, _, _ => none
 | k + 1, x6, x8, x9, x11, x12, x26, x27 => if 0 ≤ x12 then (if x12 < (x9.length : Int) then (if rdOf false x9 x12 = true then (if (x11.length : Int) > 0 then (if x8.length < 5864062014805 then (impl_CyclesOfWord.l0 k x6 (x8 ++ [x11]) x9 x26 (wrap64 (x27 + 1))) else (none)) else (impl_CyclesOfWord.l0 k x6 x8 x9 x26 (wrap64 (x27 + 1)))) else (if x11.length < 17592186044416 then (if x12 < (x6.length : Int) then (impl_CyclesOfWord.l1 k x6 x8 (x9.set (x12 : Int).toNat true) (x11 ++ [x12]) (rd x6 x12) x26 x27) else (none)) else (none))) else (none)) else (none)
end
def impl_CyclesOfWord.f (k : Nat) (a0 : ByteArray) (a1 : ByteArray) : Option ((List (List Int)) × Bool) := (impl_PermutationOf.f k a0 a1).bind fun bt101 => (if bt101.2 = true then (if 0 ≤ (bt101.1.length : Int) then (if ((bt101.1.length : Int) : Int).toNat ≤ 281474976710656 then (impl_CyclesOfWord.l0 k bt101.1 (([] : List (List Int))) (List.replicate ((bt101.1.length : Int) : Int).toNat false) (bt101.1.length : Int) 0) else (none)) else (none)) else (some (([] : List (List Int)), false)))
theorem impl_CyclesOfWord.mono_l : ∀ k, (∀ y0 y1 y2 y3 y4, LeO (impl_CyclesOfWord.l0 k y0 y1 y2 y3 y4) (impl_CyclesOfWord.l0 (k + 1) y0 y1 y2 y3 y4)) ∧ (∀ y0 y1 y2 y3 y4 y5 y6, LeO (impl_CyclesOfWord.l1 k y0 y1 y2 y3 y4 y5 y6) (impl_CyclesOfWord.l1 (k + 1) y0 y1 y2 y3 y4 y5 y6))
 | 0 => ⟨fun _ _ _ _ _ r h => by simp [impl_CyclesOfWord.l0] at h, fun _ _ _ _ _ _ _ r h => by simp [impl_CyclesOfWord.l1] at h⟩
 | k + 1 => by
  obtain ⟨ih0, ih1⟩ := impl_CyclesOfWord.mono_l k
  refine ⟨?_, ?_⟩
  ·intro y0 y1 y2 y3 y4
   unfold impl_CyclesOfWord.l0
   have im0 := @impl_PermutationOf.mono; exact mo
  ·intro y0 y1 y2 y3 y4 y5 y6
   unfold impl_CyclesOfWord.l1
   have im0 := @impl_PermutationOf.mono; exact mo
theorem impl_CyclesOfWord.mono : ∀ a0 a1 k, LeO (impl_CyclesOfWord.f k a0 a1) (impl_CyclesOfWord.f (k + 1) a0 a1) := by
 intro a0 a1 k
 obtain ⟨ih0, ih1⟩ := impl_CyclesOfWord.mono_l k
 unfold impl_CyclesOfWord.f
 have im0 := @impl_PermutationOf.mono; exact mo
set_option maxHeartbeats 8000000 in
set_option maxRecDepth 100000 in
theorem impl_CyclesOfWord.calls (k : Nat) (a0 : ByteArray) (a1 : ByteArray) (r1 : List (List Int)) (r2 : Bool) (w : World) (h : impl_CyclesOfWord.f k a0 a1 = some (r1, r2)) :
  Calls Tryz.prog 33 #[.string a0, .string a1] w fun e w' => ∃ v0_ : Value, e = .returned (.tuple #[v0_, .bool r2]) ∧ Kd.S (Kd.slice 3 (Kd.int .i64)) 28 w' w.heap.size (fun _ => True) v0_ r1 ∧ Below w.heap.size w w' := by
 have HB := am (Below.refl w.heap.size w)
 have H : ((impl_PermutationOf.f k a0 a1).bind fun bt101 => (if bt101.2 = true then (if 0 ≤ (bt101.1.length : Int) then (if ((bt101.1.length : Int) : Int).toNat ≤ 281474976710656 then (impl_CyclesOfWord.l0 k bt101.1 (([] : List (List Int))) (List.replicate ((bt101.1.length : Int) : Int).toNat false) (bt101.1.length : Int) 0) else (none)) else (none)) else (some (([] : List (List Int)), false)))) = some (r1, r2) := h
 clear h
 replace H := Option.bind_eq_some_iff.mp H
 obtain ⟨⟨t101, t102⟩, A30, H⟩ := H
 replace H : (if t102 = true then (if 0 ≤ (t101.length : Int) then (if ((t101.length : Int) : Int).toNat ≤ 281474976710656 then (impl_CyclesOfWord.l0 k t101 (([] : List (List Int))) (List.replicate ((t101.length : Int) : Int).toNat false) (t101.length : Int) 0) else (none)) else (none)) else (some (([] : List (List Int)), false))) = some (r1, r2) := H
 have A3 := am A30
 clear A30
 by_cases c4 : t102 = true
 ·subst c4
  have H1 : (if 0 ≤ (t101.length : Int) then (if ((t101.length : Int) : Int).toNat ≤ 281474976710656 then (impl_CyclesOfWord.l0 k t101 (([] : List (List Int))) (List.replicate ((t101.length : Int) : Int).toNat false) (t101.length : Int) 0) else (none)) else (none)) = some (r1, r2) := by rw [if_pos rfl] at H; exact H
  clear H
  have H := H1
  clear H1
  obtain ⟨y105, hy105⟩ : ∃ y_ : List (List Int), y_ = (([] : List (List Int))) := ⟨_, rfl⟩
  replace H : (if 0 ≤ (t101.length : Int) then (if ((t101.length : Int) : Int).toNat ≤ 281474976710656 then (impl_CyclesOfWord.l0 k t101 y105 (List.replicate ((t101.length : Int) : Int).toNat false) (t101.length : Int) 0) else (none)) else (none)) = some (r1, r2) := by first | (rw [hy105]; with_reducible exact H) | (have H2_ := (Option.bind_some _ _).symm.trans H; rw [hy105]; with_reducible exact H2_) | (have H2_ := (Option.bind_some _ _).symm.trans H; with_reducible exact H2_) | with_reducible exact H | (rw [hy105]; exact H) | exact H
  have Ny105 := am hy105
  clear hy105
  by_cases c5 : 0 ≤ (t101.length : Int)
  ·rw [if_pos c5] at H
   have c5b0 := eq_true c5
   have c5b1 : decide (0 ≤ (t101.length : Int)) = true := decide_eq_true c5
   clear c5
   by_cases c6 : ((t101.length : Int) : Int).toNat ≤ 281474976710656
   ·rw [if_pos c6] at H
    have c6b0 := eq_true c6
    have c6b1 : decide (((t101.length : Int) : Int).toNat ≤ 281474976710656) = true := decide_eq_true c6
    clear c6
    obtain ⟨y108, hy108⟩ : ∃ y_ : List Bool, y_ = (List.replicate ((t101.length : Int) : Int).toNat false) := ⟨_, rfl⟩
    replace H : (impl_CyclesOfWord.l0 k t101 y105 y108 (t101.length : Int) 0) = some (r1, r2) := by first | (rw [hy108]; with_reducible exact H) | (have H2_ := (Option.bind_some _ _).symm.trans H; rw [hy108]; with_reducible exact H2_) | (have H2_ := (Option.bind_some _ _).symm.trans H; with_reducible exact H2_) | with_reducible exact H | (rw [hy108]; exact H) | exact H
    have Ny108 := am hy108
    clear hy108
    have H' := am H
    clear H
    go_enter Tryz.func33, Tryz.ntmps33
    try go_wp2_with (first | ((with_reducible refine gate_callee (f := 75) rfl ?_); refine goesL_ (some 16) rfl rfl Tryz.func75 (by kernel_rfl) rfl #[.string a0, .string a1] rfl aq4 ?_; (with_reducible refine (impl_PermutationOf.calls k a0 a1 t101 true _ A3.out).mono ?_); rintro e w7 ⟨v103, rfl, ho0, hb⟩; refine ⟨_, rfl, ?_⟩; have n0_ := am (Kd.R_lower ho0 (below_size aq1)); have n1_ := am (below_step aq1 hb); clear HB; have HO104 := n0_; have HB := n1_; clear n0_ n1_; (try clear hb); (try clear hb2); (try clear hk); (try clear hi); (try clear ho0)))
    have n0_ := am (Kd.R_drew HO104.out)
    have n1_ := am (below_drew1 HB.out)
    clear HO104
    clear HB
    have HO104 := n0_
    have HB := n1_
    clear n0_ n1_
    obtain ⟨Ao9, co9, eo9⟩ := Kd.R_slice HO104.out
    (first | subst eo9 | (injection eo9 with f1_ f2_ f3_; have f4_ := f1_.symm; have f5_ := f3_.symm; clear f1_ f2_ f3_; subst f4_; subst f5_))
    refine start_ (n := 6) (S := fun w' => True) (ds := []) #[false, false, false, false, false, false] (by kernel_rfl) rfl rfl trivial (fun hHeld => ?_)
    generalize w7.drew = w8 at HO104 HB hHeld ⊢
    refine pure_ (i := 1) (N := some 22) (v := ?_) (a' := ?_) (bm 6 2) rfl rfl (by kernel_rfl) (fun _ _ _ h => h) (Or.inl ⟨by rfl, ?_⟩) ?_ ?_
    rotate_left
    ·intro w'
     go_simp
     with_reducible rfl
    rotate_left
    ·simp only [Act.put, ac_]
     rfl
    refine pure_ (i := 2) (N := some 23) (v := ?_) (a' := ?_) (bm 6 6) rfl rfl (by kernel_rfl) (fun _ _ _ h => h) (Or.inl ⟨by rfl, ?_⟩) ?_ ?_
    rotate_left
    ·intro w'
     go_simp
     with_reducible rfl
    rotate_left
    ·simp only [Act.put, ac_]
     rfl
    refine join_ (σ := Value × Value) 1 #[true, true, true, true, true, false] (fun s_ => [(21, s_.1), (24, s_.2), (8, s_.1)]) (fun s_ w' => (Kd.R (Kd.int .i64) 3 w' w.heap.size (fun _ => True) (.slice Ao9 t101.length co9) t101) ∧ (Kd.S (Kd.slice 3 (Kd.int .i64)) 28 w' w.heap.size (fun k_ => some k_ ≠ (.slice Ao9 t101.length co9 : Value).ownBlock) s_.1 y105) ∧ (Kd.R Kd.bool 4 w' w.heap.size (fun _ => True) s_.2 y108) ∧ (Below w.heap.size w w')) ?_ ?_
    rotate_left
    ·intro hCont
     refine two_ (i := 0) (j := 3) (Ni := some 21) (Nj := some 24) #[true, true, true, false, false, false] #[false, true, true, true, false, false] rfl rfl rfl rfl (by kernel_rfl) (by decide) (by decide) (fun K hK => ?_) (fun K hK => ?_)
     ·skip
      refine Kd.S_lit_step (Kd.slice 3 (Kd.int .i64)) _ 28 ?hg (N := 21) ?hd (xs := ([] : List (List Int))) (inner := []) (ok := fun _ => True) (okp := fun _ => True) ?hr ?hp (fun _ hk => hk) trivial (Below.refl _ _) (Nat.le_refl _) (by simp) ?_; (case hd => rfl); (case hg => rfl); (case hr => exact aq15); (case hp => exact aq117)
      intro v106 w10 ho11 hb hg_ hnew_
      clear hg_ hnew_
      (first | rw [← Ny105.out] at ho11 | (simp only [Int.reduceToNat] at ho11; rw [← Ny105.out] at ho11))
      have n0_ := am (Kd.R_below aq21 hb)
      have n1_ := am (Kd.S_lower (Kd.S_new' ho11 (Kd.R_lt aq21)) (below_size aq1))
      have n2_ := am (below_step aq1 hb)
      clear HO104
      clear HB
      have HO104 := n0_
      have HO107 := n1_
      have HB := n2_
      clear n0_ n1_ n2_
      clear hb ho11
      refine hK.out _ _ trivial (fun hHeld => ?_)
      clear hK K
      refine norm_ (a' := ?_) ?_ ?_
      rotate_left
      ·show Act.put _ (some 21) _ = _
       simp only [Act.put, ac_]
       rfl
      refine pure_ (i := 4) (N := some 8) (v := ?_) (a' := ?_) (bm 6 23) rfl rfl (by kernel_rfl) (fun _ _ _ h => h) (Or.inl ⟨by rfl, ?_⟩) ?_ ?_
      rotate_left
      ·intro w'
       go_simp
       with_reducible rfl
      rotate_left
      ·simp only [Act.put, ac_]
       rfl
      refine one_ (i := 3) (N := some 24) (bm 6 31) rfl rfl (by kernel_rfl) (by decide) (fun K hK => ?_)
      refine Kd.R_make_step Kd.bool _ 4 (by rfl) (N := 24) rfl 83 _ _ rfl (t101.length : Int) rfl rfl Tryz.underlying83 (.bool false) 1 info4 rfl (by decide) (by omega) false (ok := fun _ => True) (okp := fun _ => True) rfl (fun _ hk => hk) trivial (of_decide_eq_true aq5) (Nat.le_trans (Nat.mul_le_mul_right _ (of_decide_eq_true aq5 : (t101.length : Int).toNat ≤ 281474976710656)) (by omega)) (Below.refl _ _) (Nat.le_refl _) ?_
      intro v109 w12 ho13 hb hg_ hnew_
      clear hg_ hnew_
      (first | rw [← Ny108.out] at ho13 | (simp only [Int.reduceToNat] at ho13; rw [← Ny108.out] at ho13))
      have n0_ := am (Kd.R_below aq21 hb)
      have n1_ := am (Kd.S_below aq96 hb)
      have n2_ := am (Kd.R_lower ho13 (below_size aq1))
      have n3_ := am (below_step aq1 hb)
      clear HO104
      clear HO107
      clear HB
      have HO104 := n0_
      have HO107 := n1_
      have HO110 := n2_
      have HB := n3_
      clear n0_ n1_ n2_ n3_
      clear hb ho13
      refine hK.out _ _ trivial (fun hHeld => ?_)
      clear hK K
      refine norm_ (a' := ?_) ?_ ?_
      rotate_left
      ·show Act.put _ (some 24) _ = _
       simp only [Act.put, ac_]
       rfl
      exact norm_ aq116 (hCont (v106, v109) _ ⟨aq21, aq83, aq42, aq1⟩)
     ·skip
      refine Kd.R_make_step Kd.bool _ 4 (by rfl) (N := 24) rfl 83 _ _ rfl (t101.length : Int) rfl rfl Tryz.underlying83 (.bool false) 1 info4 rfl (by decide) (by omega) false (ok := fun _ => True) (okp := fun _ => True) rfl (fun _ hk => hk) trivial (of_decide_eq_true aq5) (Nat.le_trans (Nat.mul_le_mul_right _ (of_decide_eq_true aq5 : (t101.length : Int).toNat ≤ 281474976710656)) (by omega)) (Below.refl _ _) (Nat.le_refl _) ?_
      intro v109 w10 ho11 hb hg_ hnew_
      clear hg_ hnew_
      (first | rw [← Ny108.out] at ho11 | (simp only [Int.reduceToNat] at ho11; rw [← Ny108.out] at ho11))
      have n0_ := am (Kd.R_below aq21 hb)
      have n1_ := am (Kd.R_lower ho11 (below_size aq1))
      have n2_ := am (below_step aq1 hb)
      clear HO104
      clear HB
      have HO104 := n0_
      have HO110 := n1_
      have HB := n2_
      clear n0_ n1_ n2_
      clear hb ho11
      refine hK.out _ _ trivial (fun hHeld => ?_)
      clear hK K
      refine norm_ (a' := ?_) ?_ ?_
      rotate_left
      ·show Act.put _ (some 24) _ = _
       simp only [Act.put, ac_]
       rfl
      refine one_ (i := 0) (N := some 21) (bm 6 15) rfl rfl (by kernel_rfl) (by decide) (fun K hK => ?_)
      refine Kd.S_lit_step (Kd.slice 3 (Kd.int .i64)) _ 28 ?hg (N := 21) ?hd (xs := ([] : List (List Int))) (inner := []) (ok := fun _ => True) (okp := fun _ => True) ?hr ?hp (fun _ hk => hk) trivial (Below.refl _ _) (Nat.le_refl _) (by simp) ?_; (case hd => rfl); (case hg => rfl); (case hr => exact aq15); (case hp => exact aq117)
      intro v106 w12 ho13 hb hg_ hnew_
      clear hg_ hnew_
      (first | rw [← Ny105.out] at ho13 | (simp only [Int.reduceToNat] at ho13; rw [← Ny105.out] at ho13))
      have n0_ := am (Kd.R_below aq21 hb)
      have n1_ := am (Kd.R_below aq42 hb)
      have n2_ := am (Kd.S_lower (Kd.S_new' ho13 (Kd.R_lt aq21)) (below_size aq1))
      have n3_ := am (below_step aq1 hb)
      clear HO104
      clear HO110
      clear HB
      have HO104 := n0_
      have HO110 := n1_
      have HO107 := n2_
      have HB := n3_
      clear n0_ n1_ n2_ n3_
      clear hb ho13
      refine hK.out _ _ trivial (fun hHeld => ?_)
      clear hK K
      refine norm_ (a' := ?_) ?_ ?_
      rotate_left
      ·show Act.put _ (some 21) _ = _
       simp only [Act.put, ac_]
       rfl
      refine pure_ (i := 4) (N := some 8) (v := ?_) (a' := ?_) (bm 6 31) rfl rfl (by kernel_rfl) (fun _ _ _ h => h) (Or.inl ⟨by rfl, ?_⟩) ?_ ?_
      rotate_left
      ·intro w'
       go_simp
       with_reducible rfl
      rotate_left
      ·simp only [Act.put, ac_]
       rfl
      exact norm_ aq116 (hCont (v106, v109) _ ⟨aq21, aq83, aq42, aq1⟩)
    rintro ⟨v106, v109⟩ w14 ⟨h0_, h1_, h2_, h3_⟩
    have n0_ : Aside0 (Kd.R (Kd.int .i64) 3 w14 w.heap.size (fun _ => True) (.slice Ao9 t101.length co9) t101) := ⟨h0_⟩
    have n1_ : Aside0 (Kd.S (Kd.slice 3 (Kd.int .i64)) 28 w14 w.heap.size (fun k_ => some k_ ≠ (.slice Ao9 t101.length co9 : Value).ownBlock) v106 y105) := ⟨h1_⟩
    have n2_ : Aside0 (Kd.R Kd.bool 4 w14 w.heap.size (fun _ => True) v109 y108) := ⟨h2_⟩
    have n3_ : Aside0 (Below w.heap.size w w14) := ⟨h3_⟩
    clear HO104
    clear HB
    clear h0_ h1_ h2_ h3_
    have HO104 := n0_
    have HO107 := n1_
    have HO110 := n2_
    have HB := n3_
    clear n0_ n1_ n2_ n3_
    have hHeld := trivial
    refine norm_ (a' := ?_) ?_ ?_
    rotate_left
    ·simp only [Go.Proofs.YtdffgeoegdkiaaaGreatDoorW.PrintLast.putAll, Act.put, List.setIfInBounds_toArray, List.set_cons_zero, List.set_cons_succ]
     rfl
    refine pure_ (i := 5) (N := some 9) (v := ?_) (a' := ?_) (bm 6 63) rfl rfl (by kernel_rfl) (fun _ _ _ h => h) (Or.inl ⟨by rfl, ?_⟩) ?_ ?_
    rotate_left
    ·intro w'
     go_simp
     with_reducible rfl
    rotate_left
    ·simp only [Act.put, ac_]
     rfl
    refine done_ (by kernel_rfl) ?_
    try go_wp2
    go_loopg [8, 27] k (fun kq v8 v27 w' => ∃ (x8_1 : List (List Int)) (x9_1 : List Bool) (x27_1 : Int), v27 = .int .i64 x27_1 ∧ Aside0 (impl_CyclesOfWord.l0 kq t101 x8_1 x9_1 (t101.length : Int) x27_1 = some (r1, r2)) ∧ Aside0 (kq ≤ k) ∧ Aside0 (Kd.R (Kd.int .i64) 3 w' w.heap.size (fun _ => True) (.slice Ao9 t101.length co9) t101) ∧ Aside0 (Kd.S (Kd.slice 3 (Kd.int .i64)) 28 w' w.heap.size (fun k_ => some k_ ≠ ((.slice Ao9 t101.length co9) : Value).ownBlock) v8 x8_1) ∧ Aside0 (Kd.R Kd.bool 4 w' w.heap.size (fun _ => True) v109 x9_1) ∧ Aside0 (Below w.heap.size w w'))
    case atStart => exact ⟨(y105), (y108), (0), aq6, H', ⟨Nat.le_refl _⟩, ⟨aq21⟩, ⟨aq96⟩, ⟨aq42⟩, ⟨aq1⟩⟩
    case round =>
     clear H'
     try clear p2
     try clear c3
     try clear c4
     try clear c5
     try clear c5b0
     try clear c5b1
     try clear c6
     try clear c6b0
     try clear c6b1
     try clear c7
     obtain ⟨x8_1, x9_1, x27_1, rfl, HA, HK1, HO_6, HO_8, HO_9, HB⟩ := hrel
     cases gk with
     | zero => exact absurd HA.out (by simp [impl_CyclesOfWord.l0])
     | succ k1 =>
      have H := HA.out
      clear HA
      simp only [impl_CyclesOfWord.l0] at H
      by_cases c15 : x27_1 < (t101.length : Int)
      ·rw [if_pos c15] at H
       have c15b0 : decide (x27_1 < (t101.length : Int)) = true := decide_eq_true c15
       clear c15
       obtain ⟨y111, hy111⟩ : ∃ y_ : List Int, y_ = (([] : List Int)) := ⟨_, rfl⟩
       replace H : (impl_CyclesOfWord.l1 k1 t101 x8_1 x9_1 y111 x27_1 (t101.length : Int) x27_1) = some (r1, r2) := by first | (rw [hy111]; with_reducible exact H) | (have H2_ := (Option.bind_some _ _).symm.trans H; rw [hy111]; with_reducible exact H2_) | (have H2_ := (Option.bind_some _ _).symm.trans H; with_reducible exact H2_) | with_reducible exact H | (rw [hy111]; exact H) | exact H
       have Ny111 := am hy111
       clear hy111
       have H' := am H
       clear H
       go_wp2_with (first | ((with_reducible refine gate_dst (N := 30) rfl ?_); refine Kd.R_lit (Kd.int .i64) _ 3 ?hg (N := 30) ?hd (xs := ([] : List Int)) (inner := []) (ok := fun _ => True) (okp := fun _ => True) ?hr ?hp (fun _ hk => hk) trivial (Below.refl _ _) (Nat.le_refl _) (by simp) ?_; (case hd => rfl); (case hg => rfl); (case hr => exact aq15); (case hp => exact aq117); intro v112 w16 ho17 hb hg_ hnew_; clear hg_ hnew_; (first | rw [← Ny111.out] at ho17 | (simp only [Int.reduceToNat] at ho17; rw [← Ny111.out] at ho17)); have n0_ := am (Kd.R_elder' aq28 (Kd.R_base ho17) hb); have n1_ := am (Kd.S_elder' aq44 (Kd.R_base ho17) hb); have n2_ := am (Kd.R_below aq14 hb); have n3_ := am (Kd.R_lower (Kd.R_new' ho17 (Kd.R_lt aq28)) (below_size aq1)); have n4_ := am (below_step aq1 hb); clear HO_6; clear HO_8; clear HO_9; clear HB; have HO_6 := n0_; have HO_8 := n1_; have HO_9 := n2_; have HO113 := n3_; have HB := n4_; clear n0_ n1_ n2_ n3_ n4_; clear hb ho17))
       go_loopg [11, 12] k1 (fun kq v11 v12 w' => ∃ (x9_2 : List Bool) (x11_2 : List Int) (x12_2 : Int), v12 = .int .i64 x12_2 ∧ Aside0 (impl_CyclesOfWord.l1 kq t101 x8_1 x9_2 x11_2 x12_2 (t101.length : Int) x27_1 = some (r1, r2)) ∧ Aside0 (kq ≤ k1) ∧ Aside0 (Kd.R (Kd.int .i64) 3 w' w.heap.size (fun k_ => some k_ ≠ (v11 : Value).ownBlock) (.slice Ao9 t101.length co9) t101) ∧ Aside0 (Kd.S (Kd.slice 3 (Kd.int .i64)) 28 w' w.heap.size (fun k_ => some k_ ≠ ((.slice Ao9 t101.length co9) : Value).ownBlock ∧ some k_ ≠ (v11 : Value).ownBlock) u8 x8_1) ∧ Aside0 (Kd.R Kd.bool 4 w' w.heap.size (fun _ => True) v109 x9_2) ∧ Aside0 (Kd.R (Kd.int .i64) 3 w' w.heap.size (fun k_ => some k_ ≠ ((.slice Ao9 t101.length co9) : Value).ownBlock) v11 x11_2) ∧ Aside0 (Below w.heap.size w w'))
       case atStart => exact ⟨(x9_1), (y111), (x27_1), aq6, H', ⟨Nat.le_refl _⟩, ⟨aq130⟩, ⟨aq44⟩, ⟨aq14⟩, ⟨by (with_reducible repeat (first | apply Kd.R_alloc | apply Kd.R_drewN | apply Kd.R_drew)); exact Kd.R_mono HO113.out (fun _ hk => hk.2)⟩, ⟨aq1⟩⟩
       case round =>
        clear H'
        try clear c1
        try clear p2
        try clear c3
        try clear c4
        try clear c5
        try clear c5b0
        try clear c5b1
        try clear c6
        try clear c6b0
        try clear c6b1
        try clear c7
        try clear c15
        try clear c15b0
        try clear p2
        obtain ⟨x9_2, x11_2, x12_2, rfl, HA, HK2, HO_6, HO_8, HO_9, HO_11, HB⟩ := hrel
        cases gk with
        | zero => exact absurd HA.out (by simp [impl_CyclesOfWord.l1])
        | succ k2 =>
         have H := HA.out
         clear HA
         simp only [impl_CyclesOfWord.l1] at H
         by_cases c18 : 0 ≤ x12_2
         ·rw [if_pos c18] at H
          have c18b0 : decide (0 ≤ x12_2) = true := decide_eq_true c18
          clear c18
          by_cases c19 : x12_2 < (x9_2.length : Int)
          ·rw [if_pos c19] at H
           have c19b0 : decide (x12_2 < (x9_2.length : Int)) = true := decide_eq_true c19
           clear c19
           obtain ⟨bq20, hbq20⟩ : ∃ b_ : Bool, b_ = (rdOf false x9_2 x12_2) := ⟨_, rfl⟩
           replace H : (if bq20 = true then (if (x11_2.length : Int) > 0 then (if x8_1.length < 5864062014805 then (impl_CyclesOfWord.l0 k2 t101 (x8_1 ++ [x11_2]) x9_2 (t101.length : Int) (wrap64 (x27_1 + 1))) else (none)) else (impl_CyclesOfWord.l0 k2 t101 x8_1 x9_2 (t101.length : Int) (wrap64 (x27_1 + 1)))) else (if x11_2.length < 17592186044416 then (if x12_2 < (t101.length : Int) then (impl_CyclesOfWord.l1 k2 t101 x8_1 (x9_2.set (x12_2 : Int).toNat true) (x11_2 ++ [x12_2]) (rd t101 x12_2) (t101.length : Int) x27_1) else (none)) else (none))) = some (r1, r2) := by rw [← hbq20] at H; exact H
           have Nbq20 := am hbq20
           clear hbq20
           by_cases c21 : bq20 = true
           ·subst c21
            have H1 : (if (x11_2.length : Int) > 0 then (if x8_1.length < 5864062014805 then (impl_CyclesOfWord.l0 k2 t101 (x8_1 ++ [x11_2]) x9_2 (t101.length : Int) (wrap64 (x27_1 + 1))) else (none)) else (impl_CyclesOfWord.l0 k2 t101 x8_1 x9_2 (t101.length : Int) (wrap64 (x27_1 + 1)))) = some (r1, r2) := by rw [if_pos rfl] at H; exact H
            clear H
            have H := H1
            clear H1
            by_cases c22 : (x11_2.length : Int) > 0
            ·rw [if_pos c22] at H
             have c22b0 : decide (0 < (x11_2.length : Int)) = true := decide_eq_true c22
             have c22b1 : decide (0 < x11_2.length) = true := decide_eq_true (by omega)
             clear c22
             by_cases c23 : x8_1.length < 5864062014805
             ·rw [if_pos c23] at H
              have LMc23 := am c23
              clear c23
              obtain ⟨y115, hy115⟩ : ∃ y_ : List (List Int), y_ = (x8_1 ++ [x11_2]) := ⟨_, rfl⟩
              replace H : (impl_CyclesOfWord.l0 k2 t101 y115 x9_2 (t101.length : Int) (wrap64 (x27_1 + 1))) = some (r1, r2) := by first | (rw [hy115]; with_reducible exact H) | (have H2_ := (Option.bind_some _ _).symm.trans H; rw [hy115]; with_reducible exact H2_) | (have H2_ := (Option.bind_some _ _).symm.trans H; with_reducible exact H2_) | with_reducible exact H | (rw [hy115]; exact H) | exact H
              have Ny115 := am hy115
              clear hy115
              have H' := am H
              clear H
              obtain ⟨Ao24, co24, eo24⟩ := Kd.R_slice HO_9.out
              subst eo24
              have p114 : 0 ≤ (x12_2 : Int) := of_decide_eq_true aq5
              have q114 : x12_2 < (x9_2.length : Int) := of_decide_eq_true aq5
              obtain ⟨ad114, e114, hx114_0⟩ := Kd.at_bool (Kd.R_reads' HO_9.out).2.2 x12_2 p114 q114
              (try rw [← Nbq20.out] at hx114_0)
              cases e114
              replace p114 := eq_true p114
              replace q114 := eq_true q114
              obtain ⟨Ao25, co25, eo25⟩ := Kd.R_slice HO_11.out
              subst eo25
              go_wp2_with (first | ((with_reducible refine gate_builtin (b := .append) (xs := #[.tmp 51, .tmp 53]) rfl ?_); at_builtin; refine Kd.S_append (Kd.slice 3 (Kd.int .i64)) (w0 := w) w.heap.size rfl (.tmp 51) (.tmp 53) 40 28 (.slice none 0 0) 24 rfl Tryz.underlying40 info28 rfl (by decide) (by omega) u8 x8_1 x11_2 [.slice Ao25 x11_2.length co25] (fun k_ => some k_ ≠ (.slice Ao9 t101.length co9 : Value).ownBlock) (fun k_ => some k_ = (.slice Ao25 x11_2.length co25 : Value).ownBlock) rfl rfl ?aP (fun k_ hk_ => ((Kd.R_mono (ok' := fun k_ => ((fun k_ => some k_ ≠ (.slice Ao9 t101.length co9 : Value).ownBlock)) k_ ∧ some k_ ≠ (u8 : Value).ownBlock) (Kd.R_apart' (HO_11.out) (Kd.S_typed HO_8.out) (by decide)) (fun k_ hk => ⟨hk.1, hk.2⟩))).1 k_ hk_.symm) ?aF ?aO ?aB ?aS ?aL ?_; (case aP => exact Kd.M_row (Kd.R_mono (Kd.R_tight rfl (Kd.R_mono (ok' := fun k_ => ((fun k_ => some k_ ≠ (.slice Ao9 t101.length co9 : Value).ownBlock)) k_ ∧ some k_ ≠ (u8 : Value).ownBlock) (Kd.R_apart' (HO_11.out) (Kd.S_typed HO_8.out) (by decide)) (fun k_ hk => ⟨hk.1, hk.2⟩))) (fun _ h_ => h_))); (case aB => exact aq1); (case aF => exact (fun k_ hk => Kd.fresh' (Kd.R_lt aq28) k_ hk)); (case aO => exact (by (with_reducible repeat (first | apply Kd.S_alloc | apply Kd.S_drewN | apply Kd.S_drew)); exact Kd.S_mono HO_8.out (fun k_ hk => ⟨hk.1, fun e_ => hk.2 e_⟩))); (case aS => exact (below_size aq1)); (case aL => have := LMc23.out; omega); intro v116 w26 ho hb hg hat; rw [← Ny115.out] at ho; have n0_ := am (Kd.R_over' aq28 (Kd.S_typed aq44) (by decide) hg); have n1_ := am (Kd.R_over' aq14 (Kd.S_typed aq44) (by decide) hg); have n2_ := am (hb); have n3_ := am (ho); clear HO_6; clear HO_9; clear HB; clear HO_8; clear HO_11; have HO_6 := n0_; have HO_9 := n1_; have HB := n2_; have HO117 := n3_; clear n0_ n1_ n2_ n3_; clear ho hb hg hat))
              go_roundg k2
              case measure => have := HK1.out; have := HK2.out; omega
              case rel => exact ⟨(y115), (x9_2), (wrap64 (x27_1 + 1)), aq6, H', ⟨aq45⟩, ⟨aq124⟩, ⟨by (with_reducible repeat (first | apply Kd.S_alloc | apply Kd.S_drewN | apply Kd.S_drew)); exact HO117.out⟩, ⟨aq14⟩, ⟨aq1⟩⟩
             ·rw [if_neg c23] at H
              exact absurd H (by simp)
            ·rw [if_neg c22] at H
             have c22b0 : decide (0 < (x11_2.length : Int)) = false := decide_eq_false c22
             have c22b1 : decide (0 < x11_2.length) = false := decide_eq_false (by omega)
             clear c22
             have H' := am H
             clear H
             obtain ⟨Ao27, co27, eo27⟩ := Kd.R_slice HO_9.out
             subst eo27
             have p114 : 0 ≤ (x12_2 : Int) := of_decide_eq_true aq5
             have q114 : x12_2 < (x9_2.length : Int) := of_decide_eq_true aq5
             obtain ⟨ad114, e114, hx114_0⟩ := Kd.at_bool (Kd.R_reads' HO_9.out).2.2 x12_2 p114 q114
             (try rw [← Nbq20.out] at hx114_0)
             cases e114
             replace p114 := eq_true p114
             replace q114 := eq_true q114
             obtain ⟨Ao28, co28, eo28⟩ := Kd.R_slice HO_11.out
             subst eo28
             go_wp2
             go_roundg k2
             case measure => have := HK1.out; have := HK2.out; omega
             case rel => exact ⟨(x8_1), (x9_2), (wrap64 (x27_1 + 1)), aq6, H', ⟨aq45⟩, ⟨aq124⟩, ⟨by (with_reducible repeat (first | apply Kd.S_alloc | apply Kd.S_drewN | apply Kd.S_drew)); exact Kd.S_mono HO_8.out (fun _ hk => hk.1)⟩, ⟨aq14⟩, ⟨aq1⟩⟩
           ·replace c21 := Bool.eq_false_iff.mpr c21
            subst c21
            have H1 : (if x11_2.length < 17592186044416 then (if x12_2 < (t101.length : Int) then (impl_CyclesOfWord.l1 k2 t101 x8_1 (x9_2.set (x12_2 : Int).toNat true) (x11_2 ++ [x12_2]) (rd t101 x12_2) (t101.length : Int) x27_1) else (none)) else (none)) = some (r1, r2) := by rw [if_neg (show ¬ (false = true) by decide)] at H; exact H
            clear H
            have H := H1
            clear H1
            obtain ⟨y118, hy118⟩ : ∃ y_ : List Bool, y_ = (x9_2.set (x12_2 : Int).toNat true) := ⟨_, rfl⟩
            replace H : (if x11_2.length < 17592186044416 then (if x12_2 < (t101.length : Int) then (impl_CyclesOfWord.l1 k2 t101 x8_1 y118 (x11_2 ++ [x12_2]) (rd t101 x12_2) (t101.length : Int) x27_1) else (none)) else (none)) = some (r1, r2) := by first | (rw [hy118]; with_reducible exact H) | (have H2_ := (Option.bind_some _ _).symm.trans H; rw [hy118]; with_reducible exact H2_) | (have H2_ := (Option.bind_some _ _).symm.trans H; with_reducible exact H2_) | with_reducible exact H | (rw [hy118]; exact H) | exact H
            have Ny118 := am hy118
            clear hy118
            by_cases c30 : x11_2.length < 17592186044416
            ·rw [if_pos c30] at H
             have LMc30 := am c30
             clear c30
             obtain ⟨y119, hy119⟩ : ∃ y_ : List Int, y_ = (x11_2 ++ [x12_2]) := ⟨_, rfl⟩
             replace H : (if x12_2 < (t101.length : Int) then (impl_CyclesOfWord.l1 k2 t101 x8_1 y118 y119 (rd t101 x12_2) (t101.length : Int) x27_1) else (none)) = some (r1, r2) := by first | (rw [hy119]; with_reducible exact H) | (have H2_ := (Option.bind_some _ _).symm.trans H; rw [hy119]; with_reducible exact H2_) | (have H2_ := (Option.bind_some _ _).symm.trans H; with_reducible exact H2_) | with_reducible exact H | (rw [hy119]; exact H) | exact H
             have Ny119 := am hy119
             clear hy119
             by_cases c31 : x12_2 < (t101.length : Int)
             ·rw [if_pos c31] at H
              have c31b0 : decide (x12_2 < (t101.length : Int)) = true := decide_eq_true c31
              clear c31
              have H' := am H
              clear H
              obtain ⟨Ao32, co32, eo32⟩ := Kd.R_slice HO_9.out
              subst eo32
              have p114 : 0 ≤ (x12_2 : Int) := of_decide_eq_true aq5
              have q114 : x12_2 < (x9_2.length : Int) := of_decide_eq_true aq5
              obtain ⟨ad114, e114, hx114_0⟩ := Kd.at_bool (Kd.R_reads' HO_9.out).2.2 x12_2 p114 q114
              (try rw [← Nbq20.out] at hx114_0)
              cases e114
              replace p114 := eq_true p114
              replace q114 := eq_true q114
              have p29 : 0 ≤ (x12_2 : Int) := of_decide_eq_true aq5
              have q29 : (x12_2 : Int) < ((x9_2.length : Int) : Int) := of_decide_eq_true aq5
              obtain ⟨go29, co29, eo29, gb29, gl29, cl29, HG29⟩ := Kd.R_form HO_9.out (by omega)
              (first | cases eo29 | (injection eo29 with ea_ en_ ec_; (first | subst ea_ | (injection ea_ with ea_; subst ea_)); subst ec_; clear en_))
              have GB29 := am gb29
              have GG29 := am HG29
              clear gb29 gl29 HG29
              (first | simp only [add_plain] at hx114_0 | skip)
              obtain ⟨hx29_0, hf29_0⟩ := Kd.R_celln false HO_9.out (x12_2 : Int) p29 q29
              replace p29 := eq_true p29
              replace q29 := eq_true q29
              have HP33 := Kd.R_putg HO_9.out (x12_2 : Int) true
              go_wp2_with (first | ((with_reducible refine gate_store (t := 4) (p := 43) rfl ?_); refine store_event (t := 4) (p := 43) (v := ?vo_w34) (w1 := (wr.setCell ⟨go29, (x12_2 : Int).toNat, none⟩ (.bool true))) ?hg ?ho ?hn ?hr ?_; (case ho => rfl); (case hg => rfl); (case hn => rfl); (case hr => exact aq15); intro w34 hw; have hg : wr.grownBy w34 (some go29) := (by rw [hw]; exact HP33.2); have hp_ : Kd.R Kd.bool 4 w34 w.heap.size (fun _ => True) (.slice (some ⟨go29, 0, none⟩) x9_2.length co32) y118 := (by rw [hw, Ny118.out]; exact HP33.1); clear HP33; have n0_ := am (Kd.R_over' (v := (.slice (some ⟨go29, 0, none⟩) x9_2.length co32)) aq28 (Kd.R_typed HO_9.out) (by decide) hg); have n1_ := am (Kd.S_over' (v := (.slice (some ⟨go29, 0, none⟩) x9_2.length co32)) aq44 (Kd.R_typed HO_9.out) (by decide) hg); have n2_ := am (hp_); have n3_ := am (Kd.R_over' (v := (.slice (some ⟨go29, 0, none⟩) x9_2.length co32)) aq91 (Kd.R_typed HO_9.out) (by decide) hg); have n4_ := am ((by rw [hw]; exact below_set (HB.out) GB29.out : Below w.heap.size w w34)); clear HO_6; clear HO_8; clear HO_9; clear HO_11; clear HB; have HO_6 := n0_; have HO_8 := n1_; have HO_9 := n2_; have HO_11 := n3_; have HB := n4_; clear n0_ n1_ n2_ n3_ n4_; clear hg hw hp_) | ((with_reducible refine gate_builtin (b := .append) (xs := #[.tmp 44, .tmp 46]) rfl ?_); at_builtin; refine Kd.R_append (Kd.int .i64) (w0 := w) w.heap.size rfl (.tmp 44) (.tmp 46) 28 3 (.int .i64 0) 8 rfl Tryz.underlying28 info3 rfl (by decide) (by omega) u11 x11_2 x12_2 [.int .i64 x12_2] (fun k_ => some k_ ≠ (.slice Ao9 t101.length co9 : Value).ownBlock) (fun _ => False) rfl rfl ?aP (fun _ hk => hk.elim) ?aF ?aO ?aB ?aS ?aL ?_; (case aP => exact rfl); (case aB => exact aq1); (case aF => exact (fun k_ hk => Kd.fresh' (Kd.R_lt aq28) k_ hk)); (case aO => exact aq91); (case aS => exact (below_size aq1)); (case aL => have := LMc30.out; omega); intro v120 w35 ho hb hg hat; rw [← Ny119.out] at ho; have n0_ := am (Kd.R_after (ok := (fun _ => True)) (by (with_reducible repeat (first | apply Kd.R_alloc | apply Kd.R_drewN | apply Kd.R_drew)); exact Kd.R_mono HO_6.out (fun _ hk => ⟨trivial, hk⟩)) hg hat); have n1_ := am (Kd.S_after (ok := (fun k_ => some k_ ≠ (.slice Ao9 t101.length co9 : Value).ownBlock)) aq44 hg hat); have n2_ := am (Kd.R_over' aq14 (Kd.R_typed aq91) (by decide) hg); have n3_ := am (hb); have n4_ := am (ho); clear HO_6; clear HO_8; clear HO_9; clear HB; clear HO_11; have HO_6 := n0_; have HO_8 := n1_; have HO_9 := n2_; have HB := n3_; have HO121 := n4_; clear n0_ n1_ n2_ n3_ n4_; clear ho hb hg hat; have p122 : 0 ≤ (x12_2 : Int) := of_decide_eq_true aq5; have q122 : x12_2 < (t101.length : Int) := of_decide_eq_true aq5; obtain ⟨ad122, e122, hx122_0⟩ := Kd.at_int (Kd.R_reads' HO_6.out).2.2 x12_2 p122 q122; cases e122; replace p122 := eq_true p122; replace q122 := eq_true q122))
              go_roundg k2
              case measure => have := HK1.out; have := HK2.out; omega
              case rel => exact ⟨(y118), (y119), (rd t101 x12_2), aq6, H', ⟨aq45⟩, ⟨aq130⟩, ⟨aq44⟩, ⟨aq14⟩, ⟨by (with_reducible repeat (first | apply Kd.R_alloc | apply Kd.R_drewN | apply Kd.R_drew)); exact HO121.out⟩, ⟨aq1⟩⟩
             ·rw [if_neg c31] at H
              exact absurd H (by simp)
            ·rw [if_neg c30] at H
             exact absurd H (by simp)
          ·rw [if_neg c19] at H
           exact absurd H (by simp)
         ·rw [if_neg c18] at H
          exact absurd H (by simp)
      ·rw [if_neg c15] at H
       have c15b0 : decide (x27_1 < (t101.length : Int)) = false := decide_eq_false c15
       clear c15
       simp only [Option.some.injEq, Prod.mk.injEq] at H
       obtain ⟨rfl, rfl⟩ := H
       go_wp2
       go_ret2
       exact ⟨_, aq7, by (with_reducible repeat (first | apply Kd.S_alloc | apply Kd.S_drewN | apply Kd.S_drew)); exact Kd.S_mono HO_8.out (fun _ hk => trivial), aq1⟩
   ·rw [if_neg c6] at H
    exact absurd H (by simp)
  ·rw [if_neg c5] at H
   exact absurd H (by simp)
 ·replace c4 := Bool.eq_false_iff.mpr c4
  subst c4
  have H1 : (some (([] : List (List Int)), false)) = some (r1, r2) := by rw [if_neg (show ¬ (false = true) by decide)] at H; exact H
  clear H
  have H := H1
  clear H1
  simp only [Option.some.injEq, Prod.mk.injEq] at H
  obtain ⟨rfl, rfl⟩ := H
  go_enter Tryz.func33, Tryz.ntmps33
  go_wp2_with (first | ((with_reducible refine gate_callee (f := 75) rfl ?_); refine goesL_ (some 16) rfl rfl Tryz.func75 (by kernel_rfl) rfl #[.string a0, .string a1] rfl aq4 ?_; (with_reducible refine (impl_PermutationOf.calls k a0 a1 t101 false _ A3.out).mono ?_); rintro e w36 ⟨v103, rfl, ho0, hb⟩; refine ⟨_, rfl, ?_⟩; have n0_ := am (Kd.R_lower ho0 (below_size aq1)); have n1_ := am (below_step aq1 hb); clear HB; have HO104 := n0_; have HB := n1_; clear n0_ n1_; (try clear hb); (try clear hb2); (try clear hk); (try clear hi); (try clear ho0)))
  go_ret2
  exact ⟨_, aq7, aq60, aq1⟩
end Go.Proofs.YtdffgeoegdkiaaaGreatDoor.F

namespace Go.Proofs.YtdffgeoegdkiaaaGreatDoor.F
open Go.RowKit Go.Proofs.YtdffgeoegdkiaaaGreatDoor Go.Proofs.YtdffgeoegdkiaaaGreatDoorW.PrintWords Go.Proofs.YtdffgeoegdkiaaaGreatDoorW.PrintMore
theorem cyc_same : ∀ k, (∀ p C s n i, impl_CyclesOfWord.l0 k p C s n i = (spec_mcCycles.l0 k p C s n i).bind fun c => some (c, true)) ∧ (∀ p C s c j n i, impl_CyclesOfWord.l1 k p C s c j n i = (spec_mcCycles.l1 k p C s c j n i).bind fun c => some (c, true))
  | 0 => ⟨fun _ _ _ _ _ => rfl, fun _ _ _ _ _ _ _ => rfl⟩
  | k + 1 => by
    obtain ⟨h0, h1⟩ := cyc_same k
    refine ⟨fun p C s n i => ?_, fun p C s c j n i => ?_⟩
    · rw [impl_CyclesOfWord.l0, spec_mcCycles.l0]
      split
      · exact h1 ..
      · rfl
    · rw [impl_CyclesOfWord.l1, spec_mcCycles.l1]
      split
      · split
        · split
          · split
            · split
              · exact h0 ..
              · rfl
            · exact h0 ..
          · split
            · split
              · exact h1 ..
              · rfl
            · rfl
        · rfl
      · rfl
theorem count_set {s : List Bool} {j : Nat} (hj : j < s.length) (h : s[j]'hj = false) : (s.set j true).count true = s.count true + 1 ∧ (s.set j true).count false + 1 = s.count false := by
  have e : s = s.take j ++ s[j]'hj :: s.drop (j + 1) := by rw [← List.drop_eq_getElem_cons hj, List.take_append_drop]
  have e2 : s.set j true = s.take j ++ true :: s.drop (j + 1) := by
    rw [List.set_eq_take_append_cons_drop, if_pos hj]
  rw [h] at e
  constructor
  · rw [e2, List.count_append, List.count_cons]; conv => rhs; rw [e, List.count_append, List.count_cons]
    simp; omega
  · rw [e2, List.count_append, List.count_cons]; conv => rhs; rw [e, List.count_append, List.count_cons]
    simp; omega
theorem count_le (s : List Bool) : s.count true ≤ s.length := List.count_le_length
section
variable {p : List Int} (hp : p.length ≤ 1000) (hin : ∀ x ∈ p, 0 ≤ x ∧ x < (p.length : Int))
include hp hin
def CycOk (C : List (List Int)) (m : Nat) : Prop := (∀ c ∈ C, 1 ≤ c.length) ∧ C.flatten.length ≤ m
theorem cyc_l1 {i : Nat} (hi : i < p.length)
    (hnext : ∀ C s, s.length = p.length → CycOk C (s.count true) → ∃ R, Ev (fun k => spec_mcCycles.l0 k p C s (p.length : Int) ((i + 1 : Nat) : Int)) R ∧ CycOk R p.length) : ∀ (m : Nat) (C : List (List Int)) (s : List Bool) (c : List Int) (j : Nat), s.count false = m → s.length = p.length → j < p.length → (∀ c ∈ C, 1 ≤ c.length) → C.flatten.length + c.length ≤ s.count true →
    ∃ R, Ev (fun k => spec_mcCycles.l1 k p C s c (j : Int) (p.length : Int) (i : Int)) R ∧ CycOk R p.length := by
  intro m
  induction m with
  | zero =>
    intro C s c j hm hsl hj h1 h2
    have HW : Aside0 (wrap64 ((i : Int) + 1) = ((i + 1 : Nat) : Int)) := ⟨by rw [w64 (by omega) (by omega)]; rfl⟩
    have hct := count_le s
    have hjs : j < s.length := by omega
    have hsj : s[j]'hjs = true := by
      rcases hb : s[j]'hjs with _ | _
      · have : false ∈ s := by rw [← hb]; exact List.getElem_mem hjs
        have := List.count_pos_iff.2 this
        omega
      · rfl
    have hrd : rdOf false s (j : Int) = true := by
      show s.getD (j : Int).toNat false = true
      rw [Int.toNat_natCast, List.getD_eq_getElem?_getD, List.getElem?_eq_getElem hjs, hsj]; rfl
    have hfl : C.length ≤ C.flatten.length := by
      clear h2
      induction C with
      | nil => simp
      | cons a C ih =>
        have := ih (fun c hc => h1 c (List.mem_cons_of_mem _ hc))
        have := h1 a List.mem_cons_self
        simp only [List.flatten_cons, List.length_append, List.length_cons]; omega
    by_cases hc : c.length = 0
    · obtain ⟨R, hR, hok⟩ := hnext C s hsl ⟨h1, by omega⟩
      refine ⟨R, Ev.step (fun k => ?_) hR, hok⟩
      rw [spec_mcCycles.l1, if_pos (by omega), if_pos (by omega), if_pos hrd, if_neg (by omega), HW.out]
    · obtain ⟨R, hR, hok⟩ := hnext (C ++ [c]) s hsl ⟨fun x hx => by
        rcases List.mem_append.1 hx with h | h
        · exact h1 x h
        · rw [List.mem_singleton.1 h]; omega, by simp only [List.flatten_append, List.length_append, List.flatten_cons, List.flatten_nil, List.append_nil]; omega⟩
      refine ⟨R, Ev.step (fun k => ?_) hR, hok⟩
      rw [spec_mcCycles.l1, if_pos (by omega), if_pos (by omega), if_pos hrd, if_pos (by omega), if_pos (by omega), HW.out]
  | succ m ih =>
    intro C s c j hm hsl hj h1 h2
    have HW : Aside0 (wrap64 ((i : Int) + 1) = ((i + 1 : Nat) : Int)) := ⟨by rw [w64 (by omega) (by omega)]; rfl⟩
    have hct := count_le s
    have hjs : j < s.length := by omega
    have hrd : rdOf false s (j : Int) = s[j]'hjs := by
      show s.getD (j : Int).toNat false = _
      rw [Int.toNat_natCast, List.getD_eq_getElem?_getD, List.getElem?_eq_getElem hjs]; rfl
    have hfl : C.length ≤ C.flatten.length := by
      clear h2
      induction C with
      | nil => simp
      | cons a C ih =>
        have := ih (fun c hc => h1 c (List.mem_cons_of_mem _ hc))
        have := h1 a List.mem_cons_self
        simp only [List.flatten_cons, List.length_append, List.length_cons]; omega
    rcases hb : s[j]'hjs with _ | _
    · obtain ⟨q1, q2⟩ := count_set hjs hb
      have hx := hin _ (List.getElem_mem (l := p) (n := j) hj)
      obtain ⟨y, hy⟩ : ∃ y : Nat, p[j]'hj = (y : Int) := ⟨(p[j]'hj).toNat, by omega⟩
      have hrp : rd p (j : Int) = (y : Int) := by rw [rdN, getD_at hj, hy]
      obtain ⟨R, hR, hok⟩ := ih C (s.set j true) (c ++ [(j : Int)]) y (by omega) (by rw [List.length_set]; exact hsl) (by omega) h1 (by rw [List.length_append, List.length_singleton]; omega)
      refine ⟨R, Ev.step (fun k => ?_) hR, hok⟩
      rw [spec_mcCycles.l1, if_pos (by omega), if_pos (by omega), if_neg (by rw [hrd, hb]; exact Bool.false_ne_true), if_pos (by omega), if_pos (by omega), Int.toNat_natCast, hrp]
    · rw [hb] at hrd
      by_cases hc : c.length = 0
      · obtain ⟨R, hR, hok⟩ := hnext C s hsl ⟨h1, by omega⟩
        refine ⟨R, Ev.step (fun k => ?_) hR, hok⟩
        rw [spec_mcCycles.l1, if_pos (by omega), if_pos (by omega), if_pos hrd, if_neg (by omega), HW.out]
      · obtain ⟨R, hR, hok⟩ := hnext (C ++ [c]) s hsl ⟨fun x hx => by
          rcases List.mem_append.1 hx with h | h
          · exact h1 x h
          · rw [List.mem_singleton.1 h]; omega, by simp only [List.flatten_append, List.length_append, List.flatten_cons, List.flatten_nil, List.append_nil]; omega⟩
        refine ⟨R, Ev.step (fun k => ?_) hR, hok⟩
        rw [spec_mcCycles.l1, if_pos (by omega), if_pos (by omega), if_pos hrd, if_pos (by omega), if_pos (by omega), HW.out]
theorem cyc_l0 : ∀ (n i : Nat) (C : List (List Int)) (s : List Bool), i + n = p.length → s.length = p.length → CycOk C (s.count true) →
    ∃ R, Ev (fun k => spec_mcCycles.l0 k p C s (p.length : Int) (i : Int)) R ∧ CycOk R p.length
  | 0, i, C, s, hi, hsl, hok => by
    have := count_le s
    exact ⟨C, Ev.step (f := fun _ => some C) (fun k => by rw [spec_mcCycles.l0, if_neg (by omega)]) (Ev.now _), hok.1, by have := hok.2; omega⟩
  | n + 1, i, C, s, hi, hsl, hok => by
    obtain ⟨R, hR, hr⟩ := cyc_l1 hp hin (i := i) (by omega) (fun C s h1 h2 => cyc_l0 n (i + 1) C s (by omega) h1 h2) (s.count false) C s [] i rfl hsl (by omega) hok.1 (by have := hok.2; simpa using this)
    exact ⟨R, Ev.step (fun k => by rw [spec_mcCycles.l0, if_pos (by omega)]) hR, hr⟩
theorem cycles_ev : ∃ R, Ev (fun k => spec_mcCycles.f k p) R ∧ CycOk R p.length := by
  obtain ⟨R, hR, hr⟩ := cyc_l0 hp hin p.length 0 [] (List.replicate p.length false) (by omega) (by simp) ⟨fun c hc => (by cases hc), by simp⟩
  refine ⟨R, Ev.congr (fun k => ?_) hR, hr⟩
  unfold spec_mcCycles.f
  rw [if_pos (by omega), if_pos (by omega), Int.toNat_natCast]
  rfl
end
theorem permA_in (t wd : ByteArray) : (castsI (permA t wd).1).length ≤ 1000 ∧ ∀ x ∈ castsI (permA t wd).1, 0 ≤ x ∧ x < ((castsI (permA t wd).1).length : Int) := by
  obtain ⟨h1, h2⟩ := permA_lt t wd
  refine ⟨by rw [castsI_length]; omega, fun x hx => ?_⟩
  obtain ⟨y, hy, rfl⟩ := List.mem_map.1 hx
  have := h2 y hy
  rw [castsI_length]
  exact ⟨Int.natCast_nonneg _, by show ((y : Nat) : Int) < _; omega⟩
theorem both_cycles (t wd : ByteArray) (ht : t.size < 4294967281) : ∃ R, CycOk R 49 ∧ Ev (fun k => spec_mcCycles.f k (castsI (permA t wd).1)) R ∧ Ev (fun k => impl_CyclesOfWord.f k t wd) (if (permA t wd).2 = true then R else [], (permA t wd).2) := by
  obtain ⟨h1, h2⟩ := permA_in t wd
  obtain ⟨R, hR, hok⟩ := cycles_ev h1 h2
  refine ⟨R, ⟨hok.1, Nat.le_trans hok.2 (by rw [castsI_length]; exact (permA_lt t wd).1)⟩, hR, ?_⟩
  unfold impl_CyclesOfWord.f
  refine Ev.bind (impl_perm_ev t wd ht) ?_
  by_cases hb : (permA t wd).2 = true
  · rw [if_pos hb]
    refine Ev.congr (fun k => if_pos hb) ?_
    rw [hb]
    refine Ev.congr (f := fun k => (spec_mcCycles.f k (castsI (permA t wd).1)).bind fun c => some (c, true)) (fun k => ?_) (Ev.bind hR (Ev.now _))
    unfold spec_mcCycles.f
    split
    · split
      · exact (cyc_same k).1 ..
      · rfl
    · rfl
  · rw [if_neg hb]
    refine Ev.congr (fun k => if_neg hb) ?_
    rw [Bool.not_eq_true] at hb
    rw [hb]
    exact Ev.now _
end Go.Proofs.YtdffgeoegdkiaaaGreatDoor.F

namespace Go.Proofs.YtdffgeoegdkiaaaGreatDoor.F
open Go.Proofs.YtdffgeoegdkiaaaGreatDoor
open Go.RowKit Go.Proofs.YtdffgeoegdkiaaaGreatDoorW.PrintWords Go.Proofs.YtdffgeoegdkiaaaGreatDoorW.PrintLast Go.Proofs.YtdffgeoegdkiaaaGreatDoorW.PrintMore
attribute [local go_sem] max2_int min2_int max_two min_two max_three min_three max_four min_four
def spec_CyclesOfWord.f (k : Nat) (a0 : ByteArray) (a1 : ByteArray) : Option ((List (List Int)) × Bool) := (spec_mcAsked.f k a0 a1).bind fun bt101 => (if bt101.2 = true then ((spec_mcCycles.f k bt101.1).bind fun t105 => (some (t105, true))) else (some (([] : List (List Int)), false)))
theorem spec_CyclesOfWord.mono : ∀ a0 a1 k, LeO (spec_CyclesOfWord.f k a0 a1) (spec_CyclesOfWord.f (k + 1) a0 a1) := by
 intro a0 a1 k
 unfold spec_CyclesOfWord.f
 have im0 := @spec_mcAsked.mono; have im1 := @spec_mcCycles.mono; exact mo
set_option maxHeartbeats 8000000 in
set_option maxRecDepth 100000 in
theorem spec_CyclesOfWord.calls (k : Nat) (a0 : ByteArray) (a1 : ByteArray) (r1 : List (List Int)) (r2 : Bool) (w : World) (h : spec_CyclesOfWord.f k a0 a1 = some (r1, r2)) :
  Calls Tryz.prog 32 #[.string a0, .string a1] w fun e w' => ∃ v0_ : Value, e = .returned (.tuple #[v0_, .bool r2]) ∧ Kd.S (Kd.slice 3 (Kd.int .i64)) 28 w' w.heap.size (fun _ => True) v0_ r1 ∧ Below w.heap.size w w' := by
 have HB := am (Below.refl w.heap.size w)
 have H : ((spec_mcAsked.f k a0 a1).bind fun bt101 => (if bt101.2 = true then ((spec_mcCycles.f k bt101.1).bind fun t105 => (some (t105, true))) else (some (([] : List (List Int)), false)))) = some (r1, r2) := h
 clear h
 replace H := Option.bind_eq_some_iff.mp H
 obtain ⟨⟨t101, t102⟩, A30, H⟩ := H
 replace H : (if t102 = true then ((spec_mcCycles.f k t101).bind fun t105 => (some (t105, true))) else (some (([] : List (List Int)), false))) = some (r1, r2) := H
 have A3 := am A30
 clear A30
 by_cases c4 : t102 = true
 ·subst c4
  have H1 : ((spec_mcCycles.f k t101).bind fun t105 => (some (t105, true))) = some (r1, r2) := by rw [if_pos rfl] at H; exact H
  clear H
  have H := H1
  clear H1
  replace H := Option.bind_eq_some_iff.mp H
  obtain ⟨t105, A50, H⟩ := H
  replace H : (some (t105, true)) = some (r1, r2) := H
  have A5 := am A50
  clear A50
  simp only [Option.some.injEq, Prod.mk.injEq] at H
  obtain ⟨rfl, rfl⟩ := H
  go_enter Tryz.func32, Tryz.ntmps32
  go_wp2_with (first | ((with_reducible refine gate_callee (f := 67) rfl ?_); refine goesL_ (some 11) rfl rfl Tryz.func67 (by kernel_rfl) rfl #[.string a0, .string a1] rfl aq4 ?_; (with_reducible refine (spec_mcAsked.calls k a0 a1 t101 true _ A3.out).mono ?_); rintro e w6 ⟨v103, rfl, ho0, hb⟩; refine ⟨_, rfl, ?_⟩; have n0_ := am (Kd.R_lower ho0 (below_size aq1)); have n1_ := am (below_step aq1 hb); clear HB; have HO104 := n0_; have HB := n1_; clear n0_ n1_; (try clear hb); (try clear hb2); (try clear hk); (try clear hi); (try clear ho0); obtain ⟨Ao7, co7, eo7⟩ := Kd.R_slice HO104.out; subst eo7) | ((with_reducible refine gate_callee (f := 68) rfl ?_); refine goesL_ (some 17) rfl rfl Tryz.func68 (by kernel_rfl) rfl #[.slice Ao7 t101.length co7] rfl aq4 ?_; (with_reducible refine (spec_mcCycles.calls k _ _ t101 t105 _ ?side1 ?side2 A5.out).mono ?_); (case side1 => exact aq110); (case side2 => exact (Kd.R_reads' HO104.out).2.1); rintro e w8 ⟨v106, rfl, ho0, hb⟩; refine ⟨_, rfl, ?_⟩; have n0_ := am (Kd.R_below aq21 hb); have n1_ := am (Kd.S_lower (Kd.S_new' ho0 (Kd.R_lt aq21)) (below_size aq1)); have n2_ := am (below_step aq1 hb); clear HO104; clear HB; have HO104 := n0_; have HO107 := n1_; have HB := n2_; clear n0_ n1_ n2_; (try clear hb); (try clear hb2); (try clear hk); (try clear hi); (try clear ho0)))
  go_ret2
  exact ⟨_, aq7, by (with_reducible repeat (first | apply Kd.S_alloc | apply Kd.S_drewN | apply Kd.S_drew)); exact Kd.S_mono HO107.out (fun _ hk => trivial), aq1⟩
 ·replace c4 := Bool.eq_false_iff.mpr c4
  subst c4
  have H1 : (some (([] : List (List Int)), false)) = some (r1, r2) := by rw [if_neg (show ¬ (false = true) by decide)] at H; exact H
  clear H
  have H := H1
  clear H1
  simp only [Option.some.injEq, Prod.mk.injEq] at H
  obtain ⟨rfl, rfl⟩ := H
  go_enter Tryz.func32, Tryz.ntmps32
  go_wp2_with (first | ((with_reducible refine gate_callee (f := 67) rfl ?_); refine goesL_ (some 11) rfl rfl Tryz.func67 (by kernel_rfl) rfl #[.string a0, .string a1] rfl aq4 ?_; (with_reducible refine (spec_mcAsked.calls k a0 a1 t101 false _ A3.out).mono ?_); rintro e w9 ⟨v103, rfl, ho0, hb⟩; refine ⟨_, rfl, ?_⟩; have n0_ := am (Kd.R_lower ho0 (below_size aq1)); have n1_ := am (below_step aq1 hb); clear HB; have HO104 := n0_; have HB := n1_; clear n0_ n1_; (try clear hb); (try clear hb2); (try clear hk); (try clear hi); (try clear ho0)))
  go_ret2
  exact ⟨_, aq7, aq60, aq1⟩
def laws_heldIntSS.l0 : Nat → List (List Int) → Int → Int → Option (Int)
 | 0, _, _, _ => none
 | k + 1, x0, x1, x5 => if x5 < (x0.length : Int) then (if 0 ≤ x5 then ((laws_heldIntS.f k (rd_L3 x0 x5) x1).bind fun t102 => (if t102 < 0 then (some (-1)) else (laws_heldIntSS.l0 k x0 t102 (wrap64 (x5 + 1))))) else (none)) else (some x1)
def laws_heldIntSS.f (k : Nat) (l0 : List (List Int)) (a1 : Int) : Option (Int) := laws_heldIntSS.l0 k l0 a1 0
theorem laws_heldIntSS.mono_l : ∀ k, (∀ y0 y1 y2, LeO (laws_heldIntSS.l0 k y0 y1 y2) (laws_heldIntSS.l0 (k + 1) y0 y1 y2))
 | 0 => fun _ _ _ r h => by simp [laws_heldIntSS.l0] at h
 | k + 1 => by
  have ih0 := laws_heldIntSS.mono_l k
  ·intro y0 y1 y2
   unfold laws_heldIntSS.l0
   have im0 := @laws_heldIntS.mono; exact mo
theorem laws_heldIntSS.mono : ∀ a0 a1 k, LeO (laws_heldIntSS.f k a0 a1) (laws_heldIntSS.f (k + 1) a0 a1) := by
 intro a0 a1 k
 have ih0 := laws_heldIntSS.mono_l k
 unfold laws_heldIntSS.f
 have im0 := @laws_heldIntS.mono; exact mo
set_option maxHeartbeats 8000000 in
set_option maxRecDepth 100000 in
theorem laws_heldIntSS.calls (k : Nat) (A0 : Option Addr) (c0 : Nat) (l0 : List (List Int)) (a1 : Int) (r : Int) (w : World) (hr0 : Kd.C (Kd.slice 3 (Kd.int .i64)) w A0 l0.length l0) (hc0 : l0.length ≤ c0) (h : laws_heldIntSS.f k l0 a1 = some r) :
  Calls Tryz.prog 36 #[.slice A0 l0.length c0, .int .i64 a1] w fun e w' => e = .returned (.int .i64 r) ∧ Drawn0 w w' := by
 have HR0 := am hr0
 have HC0 := am hc0
 clear hr0 hc0
 have H : (laws_heldIntSS.l0 k l0 a1 0) = some r := h
 clear h
 have H' := am H
 clear H
 go_enter Tryz.func36, Tryz.ntmps36
 go_wp2
 go_loopg [1, 5] k (fun kq v1 v5 w' => ∃ (x1_1 : Int) (x5_1 : Int), v1 = .int .i64 x1_1 ∧ v5 = .int .i64 x5_1 ∧ Aside0 (laws_heldIntSS.l0 kq l0 x1_1 x5_1 = some r) ∧ Aside0 (kq ≤ k) ∧ Drawn0 w w')
 case atStart => exact ⟨(a1), (0), aq6, aq6, H', ⟨Nat.le_refl _⟩, aq12⟩
 case round =>
  clear H'
  try clear p2
  obtain ⟨x1_1, x5_1, rfl, rfl, HA, HK1, ⟨m1, rfl⟩⟩ := hrel
  cases gk with
  | zero => exact absurd HA.out (by simp [laws_heldIntSS.l0])
  | succ k1 =>
   have H := HA.out
   clear HA
   simp only [laws_heldIntSS.l0] at H
   by_cases c3 : x5_1 < (l0.length : Int)
   ·rw [if_pos c3] at H
    have c3b0 : decide (x5_1 < (l0.length : Int)) = true := decide_eq_true c3
    clear c3
    by_cases c4 : 0 ≤ x5_1
    ·rw [if_pos c4] at H
     have c4b0 : decide (0 ≤ x5_1) = true := decide_eq_true c4
     clear c4
     replace H := Option.bind_eq_some_iff.mp H
     obtain ⟨t102, A50, H⟩ := H
     replace H : (if t102 < 0 then (some (-1)) else (laws_heldIntSS.l0 k1 l0 t102 (wrap64 (x5_1 + 1)))) = some r := H
     have A5 := am A50
     clear A50
     by_cases c6 : t102 < 0
     ·rw [if_pos c6] at H
      have c6b0 : decide (t102 < 0) = true := decide_eq_true c6
      clear c6
      obtain rfl := Option.some.inj H
      have p101 : 0 ≤ (x5_1 : Int) := of_decide_eq_true aq5
      have q101 : x5_1 < (l0.length : Int) := of_decide_eq_true aq5
      obtain ⟨ad101, A101_0, c101_0, e101, hx101_0, hl101_0, hi101_0⟩ := at_L3 HR0.out x5_1 p101 q101
      cases e101
      have HR101_0 := am hi101_0
      have HC101_0 := am hl101_0
      clear hi101_0 hl101_0
      replace p101 := eq_true p101
      replace q101 := eq_true q101
      go_wp2_with (first | ((with_reducible refine gate_callee (f := 25) rfl ?_); refine goesL_ (some 17) rfl rfl Tryz.func25 (by kernel_rfl) rfl #[.slice A101_0 (rd_L3 l0 x5_1).length c101_0, .int .i64 x1_1] rfl aq4 ?_; (with_reducible refine (laws_heldIntS.calls k1 _ _ (rd_L3 l0 x5_1) x1_1 t102 _ ?side1 ?side2 A5.out).mono ?_); (case side1 => exact aq26); (case side2 => exact HC101_0.out); rintro e w' ⟨rfl, ⟨nd, rfl⟩⟩; refine ⟨_, rfl, ?_⟩))
      go_ret
      exact ⟨aq6, aq12⟩
     ·rw [if_neg c6] at H
      have c6b0 : decide (t102 < 0) = false := decide_eq_false c6
      clear c6
      have H' := am H
      clear H
      have p101 : 0 ≤ (x5_1 : Int) := of_decide_eq_true aq5
      have q101 : x5_1 < (l0.length : Int) := of_decide_eq_true aq5
      obtain ⟨ad101, A101_0, c101_0, e101, hx101_0, hl101_0, hi101_0⟩ := at_L3 HR0.out x5_1 p101 q101
      cases e101
      have HR101_0 := am hi101_0
      have HC101_0 := am hl101_0
      clear hi101_0 hl101_0
      replace p101 := eq_true p101
      replace q101 := eq_true q101
      go_wp2_with (first | ((with_reducible refine gate_callee (f := 25) rfl ?_); refine goesL_ (some 17) rfl rfl Tryz.func25 (by kernel_rfl) rfl #[.slice A101_0 (rd_L3 l0 x5_1).length c101_0, .int .i64 x1_1] rfl aq4 ?_; (with_reducible refine (laws_heldIntS.calls k1 _ _ (rd_L3 l0 x5_1) x1_1 t102 _ ?side1 ?side2 A5.out).mono ?_); (case side1 => exact aq26); (case side2 => exact HC101_0.out); rintro e w' ⟨rfl, ⟨nd, rfl⟩⟩; refine ⟨_, rfl, ?_⟩))
      go_roundg k1
      case measure => have := HK1.out; omega
      case rel => exact ⟨(t102), (wrap64 (x5_1 + 1)), aq6, aq6, H', ⟨aq68⟩, aq12⟩
    ·rw [if_neg c4] at H
     exact absurd H (by simp)
   ·rw [if_neg c3] at H
    have c3b0 : decide (x5_1 < (l0.length : Int)) = false := decide_eq_false c3
    clear c3
    obtain rfl := Option.some.inj H
    go_wp2
    go_ret
    exact ⟨aq6, aq12⟩
end Go.Proofs.YtdffgeoegdkiaaaGreatDoor.F

namespace Go.Proofs.YtdffgeoegdkiaaaGreatDoor.F
open Go.Proofs.YtdffgeoegdkiaaaGreatDoor
open Go.RowKit Go.Proofs.YtdffgeoegdkiaaaGreatDoorW.PrintWords Go.Proofs.YtdffgeoegdkiaaaGreatDoorW.PrintLast Go.Proofs.YtdffgeoegdkiaaaGreatDoorW.PrintMore
attribute [local go_sem] max2_int min2_int
def laws_markIntSS.l0 : Nat → List (List Int) → Int → Int → Option (Int × List (List Int))
  | 0, _, _, _ => none
  | k + 1, x0, x1, x5 => if x5 < (x0.length : Int) then (if 0 ≤ x5 then ((laws_markIntS.f k (rd_L3 x0 x5) x1).bind fun bt => laws_markIntSS.l0 k (x0.set x5.toNat bt.2) bt.1 (wrap64 (x5 + 1))) else none) else some (x1, x0)
def laws_markIntSS.f (k : Nat) (l0 : List (List Int)) (a1 : Int) : Option (Int × List (List Int)) := laws_markIntSS.l0 k l0 a1 0
theorem laws_markIntSS.mono_l : ∀ k, (∀ y0 y1 y2, LeO (laws_markIntSS.l0 k y0 y1 y2) (laws_markIntSS.l0 (k + 1) y0 y1 y2))
  | 0 => fun _ _ _ r h => by simp [laws_markIntSS.l0] at h
  | k + 1 => by
    have ih0 := laws_markIntSS.mono_l k
    intro y0 y1 y2
    unfold laws_markIntSS.l0
    have im0 := @laws_markIntS.mono; exact mo
theorem laws_markIntSS.mono : ∀ a0 a1 k, LeO (laws_markIntSS.f k a0 a1) (laws_markIntSS.f (k + 1) a0 a1) := fun a0 a1 k => laws_markIntSS.mono_l k a0 a1 0
set_option maxHeartbeats 8000000 in
set_option maxRecDepth 100000 in
theorem laws_markIntSS.calls (k : Nat) (P0_ : Nat → Prop) (u_ : Value) (l0 : List (List Int)) (a1 : Int) (r1 : Int) (r2 : List (List Int)) (w0 w : World) (hB : Below w0.heap.size w0 w) (ho0 : Kd.S (Kd.slice 3 (Kd.int .i64)) 28 w w0.heap.size P0_ u_ l0) (h : laws_markIntSS.f k l0 a1 = some (r1, r2)) :
    Calls Tryz.prog 35 #[u_, .int .i64 a1] w fun e w' => e = .returned (.int .i64 r1) ∧ Kd.S (Kd.slice 3 (Kd.int .i64)) 28 w' w0.heap.size P0_ u_ r2 ∧ Below w0.heap.size w0 w' ∧ Kept w w' (fun k_ => P0_ k_) := by
  have HO0 := am ho0
  have HK := am (Kept.refl w (fun k_ => P0_ k_))
  have HB := am hB
  have H' := am (show laws_markIntSS.l0 k l0 a1 0 = some (r1, r2) from h)
  clear hB ho0 h
  go_enter Tryz.func35, Tryz.ntmps35
  go_wp2
  go_loopg [1, 5] k (fun kq v1 v5 w' => ∃ (x0 : List (List Int)) (x1 x5 : Int), v1 = .int .i64 x1 ∧ v5 = .int .i64 x5 ∧ Aside0 (laws_markIntSS.l0 kq x0 x1 x5 = some (r1, r2)) ∧ Aside0 (kq ≤ k) ∧ Aside0 (Kd.S (Kd.slice 3 (Kd.int .i64)) 28 w' w0.heap.size P0_ u_ x0) ∧ Aside0 (Kept w w' (fun k_ => P0_ k_)) ∧ Aside0 (Below w0.heap.size w0 w'))
  case atStart => exact ⟨l0, a1, 0, (by first | rfl | (simp; done)), (by first | rfl | (simp; done)), H', ⟨Nat.le_refl _⟩, HO0, HK, HB⟩
  case round =>
    clear H'
    obtain ⟨x0, x1, x5, rfl, rfl, HA, HK1, HO, HK, HB⟩ := hrel
    obtain ⟨Ao, co, eo⟩ := Kd.S_slice HO.out
    subst eo
    cases gk with
    | zero => exact absurd HA.out (by simp [laws_markIntSS.l0])
    | succ k1 =>
      have H := HA.out
      clear HA
      simp only [laws_markIntSS.l0] at H
      by_cases c3 : x5 < (x0.length : Int)
      · rw [if_pos c3] at H
        by_cases c4 : 0 ≤ x5
        · rw [if_pos c4] at H
          obtain ⟨⟨t1, t2⟩, A50, H⟩ := Option.bind_eq_some_iff.mp H
          have A5 := am A50
          have H' := am H
          clear A50 H
          obtain ⟨g, cap, eo2, hbg, hlg, hcells⟩ := Kd.S_form HO.out (by omega)
          (first | cases eo2 | (injection eo2 with ea_ en_ ec_; (first | subst ea_ | (injection ea_ with ea_; subst ea_)); subst ec_; clear en_))
          obtain ⟨ad, A1, c1, e1, hx, hl, hi⟩ := at_L3 (Kd.S_reads' HO.out).2.2 x5 c4 c3
          cases e1
          obtain ⟨oki, cc, hcl, ⟨v', rfl, hR⟩, hcc, hoki, hH⟩ := Kd.S_lend HO.out ([] : List Int) x5 c4 (by omega)
          have hx2 := hcc 0 _ rfl
          rw [Nat.add_zero, show (Kd.slice 3 (Kd.int .i64)).sz = 1 from rfl, Nat.mul_one] at hx2
          rw [add_plain] at hx
          have ev : v' = .slice A1 (rd_L3 x0 x5).length c1 := Option.some.inj (hx2.symm.trans hx)
          subst ev
          have HR := am hR
          have HH := am hH
          have HOK := am hoki
          have c3b0 : decide (x5 < (x0.length : Int)) = true := decide_eq_true c3
          have c3p := eq_true c3
          have c4p := eq_true c4
          clear hR hH hoki hcc hcl hcells hl hi hx2 c3 c4
          go_wp2_with (first | (go_at_call 24; refine (laws_markIntS.calls k1 oki _ (rd_L3 x0 x5) x1 t1 t2 w0 _ HB.out HR.out A5.out).mono ?_; rintro e w7 ⟨rfl, hy0, hb, hk⟩; have HO2 := am (Kd.H_back (Kd.H_step HH.out (fun k ho hn hlt => hk.2 k hlt hn)) (okp := oki) ⟨_, rfl, Kd.R_reok rfl hy0 (fun k e => HR.out.1 k e)⟩ (fun _ h => h)); have HK2 := am (show Kept w w7 (fun k_ => P0_ k_) from ⟨Nat.le_trans HK.out.1 hk.1, fun i hi hn => (hk.2 i (Nat.lt_of_lt_of_le hi HK.out.1) (fun h => hn (HOK.out i h).1)).trans (HK.out.2 i hi hn)⟩); have HB2 := am hb; clear hy0 hk hb))
          go_roundg k1
          case measure => have := HK1.out; omega
          case rel => exact ⟨x0.set x5.toNat t2, t1, wrap64 (x5 + 1), (by first | rfl | (simp; done) | (simp [*]; done)), (by first | rfl | (simp; done) | (simp [*]; done)), H', ⟨by have := HK1.out; omega⟩, HO2, HK2, HB2⟩
        · rw [if_neg c4] at H
          exact absurd H (by simp)
      · rw [if_neg c3] at H
        have c3b0 : decide (x5 < (x0.length : Int)) = false := decide_eq_false c3
        clear c3
        simp only [Option.some.injEq, Prod.mk.injEq] at H
        obtain ⟨rfl, rfl⟩ := H
        go_wp2
        go_ret
        exact ⟨by first | rfl | (simp; done), HO.out, HB.out, HK.out⟩
end Go.Proofs.YtdffgeoegdkiaaaGreatDoor.F

namespace Go.Proofs.YtdffgeoegdkiaaaGreatDoor.F
open Go.Proofs.YtdffgeoegdkiaaaGreatDoor
open Go.RowKit Go.Proofs.YtdffgeoegdkiaaaGreatDoorW.PrintWords Go.Proofs.YtdffgeoegdkiaaaGreatDoorW.PrintLast Go.Proofs.YtdffgeoegdkiaaaGreatDoorW.PrintMore
attribute [local go_sem] max2_int min2_int max_two min_two max_three min_three max_four min_four
def laws_eqIntSS.l0 : Nat → List (List Int) → List (List Int) → Int → Option (Bool)
 | 0, _, _, _ => none
 | k + 1, x0, x1, x5 => if x5 < (x0.length : Int) then (if 0 ≤ x5 then (if x5 < (x1.length : Int) then ((laws_eqIntS.f k (rd_L3 x0 x5) (rd_L3 x1 x5)).bind fun t103 => (if t103 = true then (laws_eqIntSS.l0 k x0 x1 (wrap64 (x5 + 1))) else (some false))) else (none)) else (none)) else (some true)
def laws_eqIntSS.f (k : Nat) (l0 : List (List Int)) (l1 : List (List Int)) : Option (Bool) := if (l0.length : Int) = (l1.length : Int) then (laws_eqIntSS.l0 k l0 l1 0) else (some false)
theorem laws_eqIntSS.mono_l : ∀ k, (∀ y0 y1 y2, LeO (laws_eqIntSS.l0 k y0 y1 y2) (laws_eqIntSS.l0 (k + 1) y0 y1 y2))
 | 0 => fun _ _ _ r h => by simp [laws_eqIntSS.l0] at h
 | k + 1 => by
  have ih0 := laws_eqIntSS.mono_l k
  ·intro y0 y1 y2
   unfold laws_eqIntSS.l0
   have im0 := @laws_eqIntS.mono; exact mo
theorem laws_eqIntSS.mono : ∀ a0 a1 k, LeO (laws_eqIntSS.f k a0 a1) (laws_eqIntSS.f (k + 1) a0 a1) := by
 intro a0 a1 k
 have ih0 := laws_eqIntSS.mono_l k
 unfold laws_eqIntSS.f
 have im0 := @laws_eqIntS.mono; exact mo
set_option maxHeartbeats 8000000 in
set_option maxRecDepth 100000 in
theorem laws_eqIntSS.calls (k : Nat) (A0 : Option Addr) (c0 : Nat) (l0 : List (List Int)) (A1 : Option Addr) (c1 : Nat) (l1 : List (List Int)) (r : Bool) (w : World) (hr0 : Kd.C (Kd.slice 3 (Kd.int .i64)) w A0 l0.length l0) (hc0 : l0.length ≤ c0) (hr1 : Kd.C (Kd.slice 3 (Kd.int .i64)) w A1 l1.length l1) (hc1 : l1.length ≤ c1) (h : laws_eqIntSS.f k l0 l1 = some r) :
  Calls Tryz.prog 34 #[.slice A0 l0.length c0, .slice A1 l1.length c1] w fun e w' => e = .returned (.bool r) ∧ Drawn0 w w' := by
 have HR0 := am hr0
 have HC0 := am hc0
 clear hr0 hc0
 have HR1 := am hr1
 have HC1 := am hc1
 clear hr1 hc1
 have H : (if (l0.length : Int) = (l1.length : Int) then (laws_eqIntSS.l0 k l0 l1 0) else (some false)) = some r := h
 clear h
 by_cases c3 : (l0.length : Int) = (l1.length : Int)
 ·rw [if_pos c3] at H
  have c3b0 : ((l0.length : Int) == (l1.length : Int)) = true := beq_iff_eq.mpr c3
  have c3b1 : ((l0.length : Int) != (l1.length : Int)) = false := bne_eq_false_iff_eq.mpr c3
  have c3b2 : (l0.length == l1.length) = true := by first | simpa using c3 | (simp at c3 ⊢; omega)
  clear c3
  have H' := am H
  clear H
  go_enter Tryz.func34, Tryz.ntmps34
  go_wp2
  repeat (go_quiet (fail); try go_wp2)
  go_loopg [5] k (fun kq v5 w' => ∃ (x5_1 : Int), v5 = .int .i64 x5_1 ∧ Aside0 (laws_eqIntSS.l0 kq l0 l1 x5_1 = some r) ∧ Aside0 (kq ≤ k) ∧ Drawn0 w w')
  case atStart => exact ⟨(0), aq6, H', ⟨Nat.le_refl _⟩, aq12⟩
  case round =>
   clear H'
   try clear c1
   try clear p2
   try clear c3
   try clear c3b0
   try clear c3b1
   try clear c3b2
   obtain ⟨x5_1, rfl, HA, HK1, ⟨m1, rfl⟩⟩ := hrel
   cases gk with
   | zero => exact absurd HA.out (by simp [laws_eqIntSS.l0])
   | succ k1 =>
    have H := HA.out
    clear HA
    simp only [laws_eqIntSS.l0] at H
    by_cases c4 : x5_1 < (l0.length : Int)
    ·rw [if_pos c4] at H
     have c4b0 : decide (x5_1 < (l0.length : Int)) = true := decide_eq_true c4
     clear c4
     by_cases c5 : 0 ≤ x5_1
     ·rw [if_pos c5] at H
      have c5b0 : decide (0 ≤ x5_1) = true := decide_eq_true c5
      clear c5
      by_cases c6 : x5_1 < (l1.length : Int)
      ·rw [if_pos c6] at H
       have c6b0 : decide (x5_1 < (l1.length : Int)) = true := decide_eq_true c6
       clear c6
       replace H := Option.bind_eq_some_iff.mp H
       obtain ⟨t103, A70, H⟩ := H
       replace H : (if t103 = true then (laws_eqIntSS.l0 k1 l0 l1 (wrap64 (x5_1 + 1))) else (some false)) = some r := H
       have A7 := am A70
       clear A70
       by_cases c8 : t103 = true
       ·subst c8
        have H1 : (laws_eqIntSS.l0 k1 l0 l1 (wrap64 (x5_1 + 1))) = some r := by rw [if_pos rfl] at H; exact H
        clear H
        have H := H1
        clear H1
        have H' := am H
        clear H
        have p101 : 0 ≤ (x5_1 : Int) := of_decide_eq_true aq5
        have q101 : x5_1 < (l0.length : Int) := of_decide_eq_true aq5
        obtain ⟨ad101, A101_0, c101_0, e101, hx101_0, hl101_0, hi101_0⟩ := at_L3 HR0.out x5_1 p101 q101
        cases e101
        have HR101_0 := am hi101_0
        have HC101_0 := am hl101_0
        clear hi101_0 hl101_0
        replace p101 := eq_true p101
        replace q101 := eq_true q101
        have p102 : 0 ≤ (x5_1 : Int) := of_decide_eq_true aq5
        have q102 : x5_1 < (l1.length : Int) := of_decide_eq_true aq5
        obtain ⟨ad102, A102_0, c102_0, e102, hx102_0, hl102_0, hi102_0⟩ := at_L3 HR1.out x5_1 p102 q102
        cases e102
        have HR102_0 := am hi102_0
        have HC102_0 := am hl102_0
        clear hi102_0 hl102_0
        replace p102 := eq_true p102
        replace q102 := eq_true q102
        go_wp2_with (first | (go_at_call 23; (with_reducible refine (laws_eqIntS.calls k1 _ _ (rd_L3 l0 x5_1) _ _ (rd_L3 l1 x5_1) true _ ?side1 ?side2 ?side3 ?side4 A7.out).mono ?_); (case side1 => exact aq26); (case side2 => exact HC101_0.out); (case side3 => exact aq32); (case side4 => exact HC102_0.out); rintro e w' ⟨rfl, ⟨nd, rfl⟩⟩; (try first | exact ⟨rfl, _, World.drewN_drewN _ _ _⟩ | exact ⟨rfl, _, Eq.trans (World.drewN_drewN _ _ _) (congrArg (World.drewN _) (Nat.add_assoc _ _ _))⟩)))
        repeat (go_quiet (first | (go_at_call 23; (with_reducible refine (laws_eqIntS.calls k1 _ _ (rd_L3 l0 x5_1) _ _ (rd_L3 l1 x5_1) true _ ?side1 ?side2 ?side3 ?side4 A7.out).mono ?_); (case side1 => exact aq26); (case side2 => exact HC101_0.out); (case side3 => exact aq32); (case side4 => exact HC102_0.out); rintro e w' ⟨rfl, ⟨nd, rfl⟩⟩; (try first | exact ⟨rfl, _, World.drewN_drewN _ _ _⟩ | exact ⟨rfl, _, Eq.trans (World.drewN_drewN _ _ _) (congrArg (World.drewN _) (Nat.add_assoc _ _ _))⟩))); try go_wp2_with (first | (go_at_call 23; (with_reducible refine (laws_eqIntS.calls k1 _ _ (rd_L3 l0 x5_1) _ _ (rd_L3 l1 x5_1) true _ ?side1 ?side2 ?side3 ?side4 A7.out).mono ?_); (case side1 => exact aq26); (case side2 => exact HC101_0.out); (case side3 => exact aq32); (case side4 => exact HC102_0.out); rintro e w' ⟨rfl, ⟨nd, rfl⟩⟩; (try first | exact ⟨rfl, _, World.drewN_drewN _ _ _⟩ | exact ⟨rfl, _, Eq.trans (World.drewN_drewN _ _ _) (congrArg (World.drewN _) (Nat.add_assoc _ _ _))⟩))))
        go_roundg k1
        case measure => have := HK1.out; omega
        case rel => exact ⟨(wrap64 (x5_1 + 1)), aq6, H', ⟨aq68⟩, aq12⟩
       ·replace c8 := Bool.eq_false_iff.mpr c8
        subst c8
        have H1 : (some false) = some r := by rw [if_neg (show ¬ (false = true) by decide)] at H; exact H
        clear H
        have H := H1
        clear H1
        obtain rfl := Option.some.inj H
        have p101 : 0 ≤ (x5_1 : Int) := of_decide_eq_true aq5
        have q101 : x5_1 < (l0.length : Int) := of_decide_eq_true aq5
        obtain ⟨ad101, A101_0, c101_0, e101, hx101_0, hl101_0, hi101_0⟩ := at_L3 HR0.out x5_1 p101 q101
        cases e101
        have HR101_0 := am hi101_0
        have HC101_0 := am hl101_0
        clear hi101_0 hl101_0
        replace p101 := eq_true p101
        replace q101 := eq_true q101
        have p102 : 0 ≤ (x5_1 : Int) := of_decide_eq_true aq5
        have q102 : x5_1 < (l1.length : Int) := of_decide_eq_true aq5
        obtain ⟨ad102, A102_0, c102_0, e102, hx102_0, hl102_0, hi102_0⟩ := at_L3 HR1.out x5_1 p102 q102
        cases e102
        have HR102_0 := am hi102_0
        have HC102_0 := am hl102_0
        clear hi102_0 hl102_0
        replace p102 := eq_true p102
        replace q102 := eq_true q102
        go_wp2_with (first | (go_at_call 23; (with_reducible refine (laws_eqIntS.calls k1 _ _ (rd_L3 l0 x5_1) _ _ (rd_L3 l1 x5_1) false _ ?side1 ?side2 ?side3 ?side4 A7.out).mono ?_); (case side1 => exact aq26); (case side2 => exact HC101_0.out); (case side3 => exact aq32); (case side4 => exact HC102_0.out); rintro e w' ⟨rfl, ⟨nd, rfl⟩⟩; (try first | exact ⟨rfl, _, World.drewN_drewN _ _ _⟩ | exact ⟨rfl, _, Eq.trans (World.drewN_drewN _ _ _) (congrArg (World.drewN _) (Nat.add_assoc _ _ _))⟩)))
        repeat (go_quiet (first | (go_at_call 23; (with_reducible refine (laws_eqIntS.calls k1 _ _ (rd_L3 l0 x5_1) _ _ (rd_L3 l1 x5_1) false _ ?side1 ?side2 ?side3 ?side4 A7.out).mono ?_); (case side1 => exact aq26); (case side2 => exact HC101_0.out); (case side3 => exact aq32); (case side4 => exact HC102_0.out); rintro e w' ⟨rfl, ⟨nd, rfl⟩⟩; (try first | exact ⟨rfl, _, World.drewN_drewN _ _ _⟩ | exact ⟨rfl, _, Eq.trans (World.drewN_drewN _ _ _) (congrArg (World.drewN _) (Nat.add_assoc _ _ _))⟩))); try go_wp2_with (first | (go_at_call 23; (with_reducible refine (laws_eqIntS.calls k1 _ _ (rd_L3 l0 x5_1) _ _ (rd_L3 l1 x5_1) false _ ?side1 ?side2 ?side3 ?side4 A7.out).mono ?_); (case side1 => exact aq26); (case side2 => exact HC101_0.out); (case side3 => exact aq32); (case side4 => exact HC102_0.out); rintro e w' ⟨rfl, ⟨nd, rfl⟩⟩; (try first | exact ⟨rfl, _, World.drewN_drewN _ _ _⟩ | exact ⟨rfl, _, Eq.trans (World.drewN_drewN _ _ _) (congrArg (World.drewN _) (Nat.add_assoc _ _ _))⟩))))
        go_ret
        exact ⟨aq6, aq12⟩
      ·rw [if_neg c6] at H
       exact absurd H (by simp)
     ·rw [if_neg c5] at H
      exact absurd H (by simp)
    ·rw [if_neg c4] at H
     have c4b0 : decide (x5_1 < (l0.length : Int)) = false := decide_eq_false c4
     clear c4
     obtain rfl := Option.some.inj H
     go_wp2
     repeat (go_quiet (fail); try go_wp2)
     go_ret
     exact ⟨aq6, aq12⟩
 ·rw [if_neg c3] at H
  have c3b0 : ((l0.length : Int) == (l1.length : Int)) = false := beq_eq_false_iff_ne.mpr c3
  have c3b1 : ((l0.length : Int) != (l1.length : Int)) = true := bne_iff_ne.mpr c3
  have c3b2 : (l0.length == l1.length) = false := by first | simpa using c3 | (simp at c3 ⊢; omega)
  obtain rfl := Option.some.inj H
  go_enter Tryz.func34, Tryz.ntmps34
  go_wp2
  repeat (go_quiet (fail); try go_wp2)
  go_ret
  exact ⟨aq6, aq12⟩
mutual
def laws_FnExactCyclesOfWord.j0 : Nat → ByteArray → ByteArray → List (List Int) → Bool → List (List Int) → Bool → Option (Bool)
 | 0, _, _, _, _, _, _ => none
 | k + 1, x0, x1, x5, x6, x7, x39 => if x39 = true then (some false) else ((laws_markIntSS.f k x7 1).bind fun bt110 => ((laws_heldIntSS.f k bt110.2 1).bind fun t112 => (if t112 < 0 then (some false) else (if t112 = bt110.1 then ((impl_CyclesOfWord.f k x0 x1).bind fun bt113 => ((laws_eqIntSS.f k bt113.1 x5).bind fun t117 => (if t117 = true then (laws_FnExactCyclesOfWord.j1 k bt110.2 bt110.1 (bt113.2 != x6)) else (laws_FnExactCyclesOfWord.j1 k bt110.2 bt110.1 true)))) else (some false)))))
def laws_FnExactCyclesOfWord.j1 : Nat → List (List Int) → Int → Bool → Option (Bool)
 | 0, _, _, _ => none
 | k + 1, x7, x9, x65 => if x65 = true then (some false) else ((laws_heldIntSS.f k x7 1).bind fun t118 => (if t118 < 0 then (some false) else (if t118 = x9 then (some true) else (some false))))
end
def laws_FnExactCyclesOfWord.f (k : Nat) (a0 : ByteArray) (a1 : ByteArray) : Option (Bool) := if (a0.size : Int) > 1048576 then (some true) else (if (a1.size : Int) > 1048576 then (some true) else ((spec_CyclesOfWord.f k a0 a1).bind fun bt101 => ((impl_CyclesOfWord.f k a0 a1).bind fun bt105 => ((laws_eqIntSS.f k bt105.1 bt101.1).bind fun t109 => (if t109 = true then (laws_FnExactCyclesOfWord.j0 k a0 a1 bt101.1 bt101.2 bt105.1 (bt105.2 != bt101.2)) else (laws_FnExactCyclesOfWord.j0 k a0 a1 bt101.1 bt101.2 bt105.1 true))))))
theorem laws_FnExactCyclesOfWord.mono_l : ∀ k, (∀ y0 y1 y2 y3 y4 y5, LeO (laws_FnExactCyclesOfWord.j0 k y0 y1 y2 y3 y4 y5) (laws_FnExactCyclesOfWord.j0 (k + 1) y0 y1 y2 y3 y4 y5)) ∧ (∀ y0 y1 y2, LeO (laws_FnExactCyclesOfWord.j1 k y0 y1 y2) (laws_FnExactCyclesOfWord.j1 (k + 1) y0 y1 y2))
 | 0 => ⟨fun _ _ _ _ _ _ r h => by simp [laws_FnExactCyclesOfWord.j0] at h, fun _ _ _ r h => by simp [laws_FnExactCyclesOfWord.j1] at h⟩
 | k + 1 => by
  obtain ⟨ih0, ih1⟩ := laws_FnExactCyclesOfWord.mono_l k
  refine ⟨?_, ?_⟩
  ·intro y0 y1 y2 y3 y4 y5
   unfold laws_FnExactCyclesOfWord.j0
   have im0 := @impl_CyclesOfWord.mono; have im1 := @laws_eqIntSS.mono; have im2 := @laws_heldIntSS.mono; have im3 := @laws_markIntSS.mono; have im4 := @spec_CyclesOfWord.mono; exact mo
  ·intro y0 y1 y2
   unfold laws_FnExactCyclesOfWord.j1
   have im0 := @impl_CyclesOfWord.mono; have im1 := @laws_eqIntSS.mono; have im2 := @laws_heldIntSS.mono; have im3 := @laws_markIntSS.mono; have im4 := @spec_CyclesOfWord.mono; exact mo
set_option maxHeartbeats 8000000 in
set_option maxRecDepth 100000 in
theorem laws_FnExactCyclesOfWord.calls (k : Nat) (a0 : ByteArray) (a1 : ByteArray) (r : Bool) (w : World) (h : laws_FnExactCyclesOfWord.f k a0 a1 = some r) :
  Calls Tryz.prog 8 #[.string a0, .string a1] w fun e w' => e = .returned (.bool r) ∧ Below w.heap.size w w' := by
 have HB := am (Below.refl w.heap.size w)
 have H : (if (a0.size : Int) > 1048576 then (some true) else (if (a1.size : Int) > 1048576 then (some true) else ((spec_CyclesOfWord.f k a0 a1).bind fun bt101 => ((impl_CyclesOfWord.f k a0 a1).bind fun bt105 => ((laws_eqIntSS.f k bt105.1 bt101.1).bind fun t109 => (if t109 = true then (laws_FnExactCyclesOfWord.j0 k a0 a1 bt101.1 bt101.2 bt105.1 (bt105.2 != bt101.2)) else (laws_FnExactCyclesOfWord.j0 k a0 a1 bt101.1 bt101.2 bt105.1 true))))))) = some r := h
 clear h
 by_cases c3 : (a0.size : Int) > 1048576
 ·rw [if_pos c3] at H
  have c3b0 : decide (1048576 < (a0.size : Int)) = true := decide_eq_true c3
  have c3b1 : decide (1048576 < a0.size) = true := decide_eq_true (by omega)
  clear c3
  obtain rfl := Option.some.inj H
  go_enter Tryz.func8, Tryz.ntmps8
  go_wp2
  go_ret
  exact ⟨aq7, aq1⟩
 ·rw [if_neg c3] at H
  have c3b0 : decide (1048576 < (a0.size : Int)) = false := decide_eq_false c3
  have c3b1 : decide (1048576 < a0.size) = false := decide_eq_false (by omega)
  clear c3
  by_cases c4 : (a1.size : Int) > 1048576
  ·rw [if_pos c4] at H
   have c4b0 : decide (1048576 < (a1.size : Int)) = true := decide_eq_true c4
   have c4b1 : decide (1048576 < a1.size) = true := decide_eq_true (by omega)
   clear c4
   obtain rfl := Option.some.inj H
   go_enter Tryz.func8, Tryz.ntmps8
   go_wp2
   go_ret
   exact ⟨aq7, aq1⟩
  ·rw [if_neg c4] at H
   have c4b0 : decide (1048576 < (a1.size : Int)) = false := decide_eq_false c4
   have c4b1 : decide (1048576 < a1.size) = false := decide_eq_false (by omega)
   clear c4
   replace H := Option.bind_eq_some_iff.mp H
   obtain ⟨⟨t101, t102⟩, A50, H⟩ := H
   replace H : ((impl_CyclesOfWord.f k a0 a1).bind fun bt105 => ((laws_eqIntSS.f k bt105.1 t101).bind fun t109 => (if t109 = true then (laws_FnExactCyclesOfWord.j0 k a0 a1 t101 t102 bt105.1 (bt105.2 != t102)) else (laws_FnExactCyclesOfWord.j0 k a0 a1 t101 t102 bt105.1 true)))) = some r := H
   have A5 := am A50
   clear A50
   replace H := Option.bind_eq_some_iff.mp H
   obtain ⟨⟨t105, t106⟩, A60, H⟩ := H
   replace H : ((laws_eqIntSS.f k t105 t101).bind fun t109 => (if t109 = true then (laws_FnExactCyclesOfWord.j0 k a0 a1 t101 t102 t105 (t106 != t102)) else (laws_FnExactCyclesOfWord.j0 k a0 a1 t101 t102 t105 true))) = some r := H
   have A6 := am A60
   clear A60
   have HC7 := am H
   clear H
   go_enter Tryz.func8, Tryz.ntmps8
   go_upto_region 7 with (first | ((with_reducible refine gate_callee (f := 32) rfl ?_); refine goesL_ (some 22) rfl rfl Tryz.func32 (by kernel_rfl) rfl #[.string a0, .string a1] rfl aq4 ?_; (with_reducible refine (spec_CyclesOfWord.calls k a0 a1 t101 t102 _ A5.out).mono ?_); rintro e w8 ⟨v103, rfl, ho0, hb⟩; refine ⟨_, rfl, ?_⟩; have n0_ := am (Kd.S_lower ho0 (below_size aq1)); have n1_ := am (below_step aq1 hb); clear HB; have HO104 := n0_; have HB := n1_; clear n0_ n1_; (try clear hb); (try clear hb2); (try clear hk); (try clear hi); (try clear ho0)) | ((with_reducible refine gate_callee (f := 33) rfl ?_); refine goesL_ (some 28) rfl rfl Tryz.func33 (by kernel_rfl) rfl #[.string a0, .string a1] rfl aq4 ?_; (with_reducible refine (impl_CyclesOfWord.calls k a0 a1 t105 t106 _ A6.out).mono ?_); rintro e w9 ⟨v107, rfl, ho0, hb⟩; refine ⟨_, rfl, ?_⟩; have n0_ := am (Kd.S_mono (Kd.S_old HO104.out hb) (fun k hk => hk.2)); have n1_ := am (Kd.S_lower (Kd.S_mono (Kd.S_bound ho0) (fun k hk => hk.2.1)) (below_size aq1)); have n2_ := am (below_step aq1 hb); clear HO104; clear HB; have HO104 := n0_; have HO108 := n1_; have HB := n2_; clear n0_ n1_ n2_; (try clear hb); (try clear hb2); (try clear hk); (try clear hi); (try clear ho0)))
   (try simp only [Act.put, List.setIfInBounds_toArray, List.set_cons_zero, List.set_cons_succ])
   go_cut [39] (fun v39 wc => ∃ (kq : Nat) (x39_6 : Bool), v39 = .bool x39_6 ∧ Aside0 (laws_FnExactCyclesOfWord.j0 kq a0 a1 t101 t102 t105 x39_6 = some r) ∧ Aside0 (kq ≤ k) ∧ Aside0 (Kd.S (Kd.slice 3 (Kd.int .i64)) 28 wc w.heap.size (fun k_ => k_ < w8.heap.size) v103 t101) ∧ Aside0 (Kd.S (Kd.slice 3 (Kd.int .i64)) 28 wc w.heap.size (fun k_ => w8.heap.size ≤ k_) v107 t105) ∧ Aside0 (Below w.heap.size w wc))
   case first =>
    have H := HC7.out
    clear HC7
    replace H := Option.bind_eq_some_iff.mp H
    obtain ⟨t109, A100, H⟩ := H
    replace H : (if t109 = true then (laws_FnExactCyclesOfWord.j0 k a0 a1 t101 t102 t105 (t106 != t102)) else (laws_FnExactCyclesOfWord.j0 k a0 a1 t101 t102 t105 true)) = some r := H
    have A10 := am A100
    clear A100
    by_cases c11 : t109 = true
    ·subst c11
     have H1 : (laws_FnExactCyclesOfWord.j0 k a0 a1 t101 t102 t105 (t106 != t102)) = some r := by rw [if_pos rfl] at H; exact H
     clear H
     have H := H1
     clear H1
     have H' := am H
     clear H
     obtain ⟨Ao12, co12, eo12⟩ := Kd.S_slice HO108.out
     subst eo12
     obtain ⟨Ao13, co13, eo13⟩ := Kd.S_slice HO104.out
     subst eo13
     go_wp2_with (first | ((with_reducible refine gate_callee (f := 34) rfl ?_); refine goesL_ (some 33) rfl rfl Tryz.func34 (by kernel_rfl) rfl #[.slice Ao12 t105.length co12, .slice Ao13 t101.length co13] rfl aq4 ?_; (with_reducible refine (laws_eqIntSS.calls k _ _ t105 _ _ t101 true _ ?side1 ?side2 ?side3 ?side4 A10.out).mono ?_); (case side1 => exact aq108); (case side2 => exact (Kd.S_reads' HO108.out).2.1); (case side3 => exact aq109); (case side4 => exact (Kd.S_reads' HO104.out).2.1); rintro e w' ⟨rfl, ⟨nd, rfl⟩⟩; refine ⟨_, rfl, ?_⟩))
     go_meet
     case rel => exact ⟨_, ((t106 != t102)), aq6, H', ⟨by first | omega | exact Nat.le_refl _⟩, ⟨aq132⟩, ⟨aq131⟩, ⟨aq1⟩⟩
    ·replace c11 := Bool.eq_false_iff.mpr c11
     subst c11
     have H1 : (laws_FnExactCyclesOfWord.j0 k a0 a1 t101 t102 t105 true) = some r := by rw [if_neg (show ¬ (false = true) by decide)] at H; exact H
     clear H
     have H := H1
     clear H1
     have H' := am H
     clear H
     obtain ⟨Ao14, co14, eo14⟩ := Kd.S_slice HO108.out
     subst eo14
     obtain ⟨Ao15, co15, eo15⟩ := Kd.S_slice HO104.out
     subst eo15
     go_wp2_with (first | ((with_reducible refine gate_callee (f := 34) rfl ?_); refine goesL_ (some 33) rfl rfl Tryz.func34 (by kernel_rfl) rfl #[.slice Ao14 t105.length co14, .slice Ao15 t101.length co15] rfl aq4 ?_; (with_reducible refine (laws_eqIntSS.calls k _ _ t105 _ _ t101 false _ ?side1 ?side2 ?side3 ?side4 A10.out).mono ?_); (case side1 => exact aq108); (case side2 => exact (Kd.S_reads' HO108.out).2.1); (case side3 => exact aq109); (case side4 => exact (Kd.S_reads' HO104.out).2.1); rintro e w' ⟨rfl, ⟨nd, rfl⟩⟩; refine ⟨_, rfl, ?_⟩))
     go_meet
     case rel => exact ⟨_, (true), aq6, H', ⟨by first | omega | exact Nat.le_refl _⟩, ⟨aq132⟩, ⟨aq131⟩, ⟨aq1⟩⟩
   case rest =>
    clear HC7
    try clear c1
    try clear c2
    try clear p2
    try clear c3
    try clear c3b0
    try clear c3b1
    try clear c4
    try clear c4b0
    try clear c4b1
    try clear c8
    try clear c11
    obtain ⟨kq, x39_6, rfl, HA, HJ6, HO_5, HO_7, HB⟩ := hcut
    cases kq with
    | zero => exact absurd HA.out (by simp [laws_FnExactCyclesOfWord.j0])
    | succ kj6 =>
     have H := HA.out
     clear HA
     simp only [laws_FnExactCyclesOfWord.j0] at H
     by_cases c16 : x39_6 = true
     ·subst c16
      have H1 : (some false) = some r := by rw [if_pos rfl] at H; exact H
      clear H
      have H := H1
      clear H1
      obtain rfl := Option.some.inj H
      go_wp2
      go_ret
      exact ⟨aq7, aq1⟩
     ·replace c16 := Bool.eq_false_iff.mpr c16
      subst c16
      have H1 : ((laws_markIntSS.f kj6 t105 1).bind fun bt110 => ((laws_heldIntSS.f kj6 bt110.2 1).bind fun t112 => (if t112 < 0 then (some false) else (if t112 = bt110.1 then ((impl_CyclesOfWord.f kj6 a0 a1).bind fun bt113 => ((laws_eqIntSS.f kj6 bt113.1 t101).bind fun t117 => (if t117 = true then (laws_FnExactCyclesOfWord.j1 kj6 bt110.2 bt110.1 (bt113.2 != t102)) else (laws_FnExactCyclesOfWord.j1 kj6 bt110.2 bt110.1 true)))) else (some false))))) = some r := by rw [if_neg (show ¬ (false = true) by decide)] at H; exact H
      clear H
      have H := H1
      clear H1
      replace H := Option.bind_eq_some_iff.mp H
      obtain ⟨⟨t110, t111⟩, A170, H⟩ := H
      replace H : ((laws_heldIntSS.f kj6 t111 1).bind fun t112 => (if t112 < 0 then (some false) else (if t112 = t110 then ((impl_CyclesOfWord.f kj6 a0 a1).bind fun bt113 => ((laws_eqIntSS.f kj6 bt113.1 t101).bind fun t117 => (if t117 = true then (laws_FnExactCyclesOfWord.j1 kj6 t111 t110 (bt113.2 != t102)) else (laws_FnExactCyclesOfWord.j1 kj6 t111 t110 true)))) else (some false)))) = some r := H
      have A17 := am A170
      clear A170
      replace H := Option.bind_eq_some_iff.mp H
      obtain ⟨t112, A180, H⟩ := H
      replace H : (if t112 < 0 then (some false) else (if t112 = t110 then ((impl_CyclesOfWord.f kj6 a0 a1).bind fun bt113 => ((laws_eqIntSS.f kj6 bt113.1 t101).bind fun t117 => (if t117 = true then (laws_FnExactCyclesOfWord.j1 kj6 t111 t110 (bt113.2 != t102)) else (laws_FnExactCyclesOfWord.j1 kj6 t111 t110 true)))) else (some false))) = some r := H
      have A18 := am A180
      clear A180
      by_cases c19 : t112 < 0
      ·rw [if_pos c19] at H
       have c19b0 : decide (t112 < 0) = true := decide_eq_true c19
       clear c19
       obtain rfl := Option.some.inj H
       obtain ⟨Ao20, co20, eo20⟩ := Kd.S_slice HO_7.out
       subst eo20
       go_wp2_with (first | ((with_reducible refine gate_callee (f := 35) rfl ?_); refine goesL_ (some 42) rfl rfl Tryz.func35 (by kernel_rfl) rfl #[.slice Ao20 t105.length co20, .int .i64 1] rfl aq4 ?_; (with_reducible refine (laws_markIntSS.calls kj6 (fun k_ => w8.heap.size ≤ k_) (.slice Ao20 t105.length co20) t105 1 t110 t111 w _ ?side1 ?side2 A17.out).mono ?_); (case side1 => exact aq1); (case side2 => exact HO_7.out); rintro e w21 ⟨rfl, hy0, hb, hkp⟩; refine ⟨_, rfl, ?_⟩; have n0_ := am (Kd.S_kept HO_5.out hkp (fun k hk hs => absurd hk (Nat.not_lt.2 hs))); have n1_ := am (hy0); have n2_ := am (hb); clear HO_5; clear HO_7; clear HB; have HO_5 := n0_; have HO_7 := n1_; have HB := n2_; clear n0_ n1_ n2_; (try clear hb); (try clear hkp); (try clear hy0)) | ((with_reducible refine gate_callee (f := 36) rfl ?_); refine goesL_ (some 45) rfl rfl Tryz.func36 (by kernel_rfl) rfl #[.slice Ao20 t111.length co20, .int .i64 1] rfl aq54 ?_; (with_reducible refine (laws_heldIntSS.calls kj6 _ _ t111 1 t112 _ ?side1 ?side2 A18.out).mono ?_); (case side1 => exact aq30); (case side2 => exact aq100); rintro e w' ⟨rfl, ⟨nd, rfl⟩⟩; refine ⟨_, rfl, ?_⟩))
       go_ret
       exact ⟨aq7, aq1⟩
      ·rw [if_neg c19] at H
       have c19b0 : decide (t112 < 0) = false := decide_eq_false c19
       clear c19
       by_cases c22 : t112 = t110
       ·rw [if_pos c22] at H
        have c22b0 : (t112 == t110) = true := beq_iff_eq.mpr c22
        have c22b1 : (t112 != t110) = false := bne_eq_false_iff_eq.mpr c22
        clear c22
        replace H := Option.bind_eq_some_iff.mp H
        obtain ⟨⟨t113, t114⟩, A230, H⟩ := H
        replace H : ((laws_eqIntSS.f kj6 t113 t101).bind fun t117 => (if t117 = true then (laws_FnExactCyclesOfWord.j1 kj6 t111 t110 (t114 != t102)) else (laws_FnExactCyclesOfWord.j1 kj6 t111 t110 true))) = some r := H
        have A23 := am A230
        clear A230
        have HC24 := am H
        clear H
        obtain ⟨Ao25, co25, eo25⟩ := Kd.S_slice HO_7.out
        subst eo25
        go_upto_region 18 with (first | ((with_reducible refine gate_callee (f := 35) rfl ?_); refine goesL_ (some 42) rfl rfl Tryz.func35 (by kernel_rfl) rfl #[.slice Ao25 t105.length co25, .int .i64 1] rfl aq4 ?_; (with_reducible refine (laws_markIntSS.calls kj6 (fun k_ => w8.heap.size ≤ k_) (.slice Ao25 t105.length co25) t105 1 t110 t111 w _ ?side1 ?side2 A17.out).mono ?_); (case side1 => exact aq1); (case side2 => exact HO_7.out); rintro e w26 ⟨rfl, hy0, hb, hkp⟩; refine ⟨_, rfl, ?_⟩; have n0_ := am (Kd.S_kept HO_5.out hkp (fun k hk hs => absurd hk (Nat.not_lt.2 hs))); have n1_ := am (hy0); have n2_ := am (hb); clear HO_5; clear HO_7; clear HB; have HO_5 := n0_; have HO_7 := n1_; have HB := n2_; clear n0_ n1_ n2_; (try clear hb); (try clear hkp); (try clear hy0)) | ((with_reducible refine gate_callee (f := 36) rfl ?_); refine goesL_ (some 45) rfl rfl Tryz.func36 (by kernel_rfl) rfl #[.slice Ao25 t111.length co25, .int .i64 1] rfl aq54 ?_; (with_reducible refine (laws_heldIntSS.calls kj6 _ _ t111 1 t112 _ ?side1 ?side2 A18.out).mono ?_); (case side1 => exact aq30); (case side2 => exact aq100); rintro e w' ⟨rfl, ⟨nd, rfl⟩⟩; refine ⟨_, rfl, ?_⟩) | ((with_reducible refine gate_callee (f := 33) rfl ?_); refine goesL_ (some 54) rfl rfl Tryz.func33 (by kernel_rfl) rfl #[.string a0, .string a1] rfl aq4 ?_; (with_reducible refine (impl_CyclesOfWord.calls kj6 a0 a1 t113 t114 _ A23.out).mono ?_); rintro e w27 ⟨v115, rfl, ho0, hb⟩; refine ⟨_, rfl, ?_⟩; have n0_ := am (Kd.S_below aq22 hb); have n1_ := am (Kd.S_below (by (with_reducible repeat (first | apply Kd.S_alloc | apply Kd.S_drewN | apply Kd.S_drew)); exact HO_7.out) hb); have n2_ := am (Kd.S_lower ho0 (below_size aq1)); have n3_ := am (below_step aq1 hb); clear HO_5; clear HO_7; clear HB; have HO_5 := n0_; have HO_7 := n1_; have HO116 := n2_; have HB := n3_; clear n0_ n1_ n2_ n3_; (try clear hb); (try clear hb2); (try clear hk); (try clear hi); (try clear ho0)))
        (try simp only [Act.put, List.setIfInBounds_toArray, List.set_cons_zero, List.set_cons_succ])
        go_cut [65] (fun v65 wc => ∃ (kq : Nat) (x65_23 : Bool), v65 = .bool x65_23 ∧ Aside0 (laws_FnExactCyclesOfWord.j1 kq t111 t110 x65_23 = some r) ∧ Aside0 (kq ≤ kj6) ∧ Aside0 (Kd.S (Kd.slice 3 (Kd.int .i64)) 28 wc w.heap.size (fun _ => True) (.slice Ao25 t105.length co25) t111) ∧ Aside0 (Below w.heap.size w wc))
        case first =>
         have H := HC24.out
         clear HC24
         replace H := Option.bind_eq_some_iff.mp H
         obtain ⟨t117, A280, H⟩ := H
         replace H : (if t117 = true then (laws_FnExactCyclesOfWord.j1 kj6 t111 t110 (t114 != t102)) else (laws_FnExactCyclesOfWord.j1 kj6 t111 t110 true)) = some r := H
         have A28 := am A280
         clear A280
         by_cases c29 : t117 = true
         ·subst c29
          have H1 : (laws_FnExactCyclesOfWord.j1 kj6 t111 t110 (t114 != t102)) = some r := by rw [if_pos rfl] at H; exact H
          clear H
          have H := H1
          clear H1
          have H' := am H
          clear H
          obtain ⟨Ao30, co30, eo30⟩ := Kd.S_slice HO116.out
          subst eo30
          obtain ⟨Ao31, co31, eo31⟩ := Kd.S_slice HO_5.out
          subst eo31
          go_wp2_with (first | ((with_reducible refine gate_callee (f := 34) rfl ?_); refine goesL_ (some 59) rfl rfl Tryz.func34 (by kernel_rfl) rfl #[.slice Ao30 t113.length co30, .slice Ao31 t101.length co31] rfl aq4 ?_; (with_reducible refine (laws_eqIntSS.calls kj6 _ _ t113 _ _ t101 true _ ?side1 ?side2 ?side3 ?side4 A28.out).mono ?_); (case side1 => exact aq107); (case side2 => exact (Kd.S_reads' HO116.out).2.1); (case side3 => exact aq111); (case side4 => exact (Kd.S_reads' HO_5.out).2.1); rintro e w' ⟨rfl, ⟨nd, rfl⟩⟩; refine ⟨_, rfl, ?_⟩))
          go_meet
          case rel => exact ⟨_, ((t114 != t102)), aq6, H', ⟨by have := HJ6.out; first | omega | exact Nat.le_refl _⟩, ⟨aq123⟩, ⟨aq1⟩⟩
         ·replace c29 := Bool.eq_false_iff.mpr c29
          subst c29
          have H1 : (laws_FnExactCyclesOfWord.j1 kj6 t111 t110 true) = some r := by rw [if_neg (show ¬ (false = true) by decide)] at H; exact H
          clear H
          have H := H1
          clear H1
          have H' := am H
          clear H
          obtain ⟨Ao32, co32, eo32⟩ := Kd.S_slice HO116.out
          subst eo32
          obtain ⟨Ao33, co33, eo33⟩ := Kd.S_slice HO_5.out
          subst eo33
          go_wp2_with (first | ((with_reducible refine gate_callee (f := 34) rfl ?_); refine goesL_ (some 59) rfl rfl Tryz.func34 (by kernel_rfl) rfl #[.slice Ao32 t113.length co32, .slice Ao33 t101.length co33] rfl aq4 ?_; (with_reducible refine (laws_eqIntSS.calls kj6 _ _ t113 _ _ t101 false _ ?side1 ?side2 ?side3 ?side4 A28.out).mono ?_); (case side1 => exact aq107); (case side2 => exact (Kd.S_reads' HO116.out).2.1); (case side3 => exact aq111); (case side4 => exact (Kd.S_reads' HO_5.out).2.1); rintro e w' ⟨rfl, ⟨nd, rfl⟩⟩; refine ⟨_, rfl, ?_⟩))
          go_meet
          case rel => exact ⟨_, (true), aq6, H', ⟨by have := HJ6.out; first | omega | exact Nat.le_refl _⟩, ⟨aq123⟩, ⟨aq1⟩⟩
        case rest =>
         clear HC24
         try clear c1
         try clear c2
         try clear p2
         try clear c3
         try clear c3b0
         try clear c3b1
         try clear c4
         try clear c4b0
         try clear c4b1
         try clear c8
         try clear c11
         try clear c16
         try clear c19
         try clear c19b0
         try clear c22
         try clear c22b0
         try clear c22b1
         try clear c23
         try clear c24
         try clear c25
         try clear c29
         try clear c32
         try clear c33
         try clear p2
         obtain ⟨kq, x65_23, rfl, HA, HJ23, HO_7, HB⟩ := hcut
         have hl7_23 := (Kd.S_reads' HO_7.out).1
         rw [hl7_23] at HO_7
         (try simp only [hl7_23])
         cases kq with
         | zero => exact absurd HA.out (by simp [laws_FnExactCyclesOfWord.j1])
         | succ kj23 =>
          have H := HA.out
          clear HA
          simp only [laws_FnExactCyclesOfWord.j1] at H
          by_cases c34 : x65_23 = true
          ·subst c34
           have H1 : (some false) = some r := by rw [if_pos rfl] at H; exact H
           clear H
           have H := H1
           clear H1
           obtain rfl := Option.some.inj H
           go_wp2
           go_ret
           exact ⟨aq7, aq1⟩
          ·replace c34 := Bool.eq_false_iff.mpr c34
           subst c34
           have H1 : ((laws_heldIntSS.f kj23 t111 1).bind fun t118 => (if t118 < 0 then (some false) else (if t118 = t110 then (some true) else (some false)))) = some r := by rw [if_neg (show ¬ (false = true) by decide)] at H; exact H
           clear H
           have H := H1
           clear H1
           replace H := Option.bind_eq_some_iff.mp H
           obtain ⟨t118, A350, H⟩ := H
           replace H : (if t118 < 0 then (some false) else (if t118 = t110 then (some true) else (some false))) = some r := H
           have A35 := am A350
           clear A350
           by_cases c36 : t118 < 0
           ·rw [if_pos c36] at H
            have c36b0 : decide (t118 < 0) = true := decide_eq_true c36
            clear c36
            obtain rfl := Option.some.inj H
            go_wp2_with (first | ((with_reducible refine gate_callee (f := 36) rfl ?_); refine goesL_ (some 68) rfl rfl Tryz.func36 (by kernel_rfl) rfl #[.slice Ao25 t111.length co25, .int .i64 1] rfl aq4 ?_; (with_reducible refine (laws_heldIntSS.calls kj23 _ _ t111 1 t118 _ ?side1 ?side2 A35.out).mono ?_); (case side1 => exact aq30); (case side2 => exact (Kd.S_reads' HO_7.out).2.1); rintro e w' ⟨rfl, ⟨nd, rfl⟩⟩; refine ⟨_, rfl, ?_⟩))
            go_ret
            exact ⟨aq7, aq1⟩
           ·rw [if_neg c36] at H
            have c36b0 : decide (t118 < 0) = false := decide_eq_false c36
            clear c36
            by_cases c37 : t118 = t110
            ·rw [if_pos c37] at H
             have c37b0 : (t118 == t110) = true := beq_iff_eq.mpr c37
             have c37b1 : (t118 != t110) = false := bne_eq_false_iff_eq.mpr c37
             clear c37
             obtain rfl := Option.some.inj H
             go_wp2_with (first | ((with_reducible refine gate_callee (f := 36) rfl ?_); refine goesL_ (some 68) rfl rfl Tryz.func36 (by kernel_rfl) rfl #[.slice Ao25 t111.length co25, .int .i64 1] rfl aq4 ?_; (with_reducible refine (laws_heldIntSS.calls kj23 _ _ t111 1 t118 _ ?side1 ?side2 A35.out).mono ?_); (case side1 => exact aq30); (case side2 => exact (Kd.S_reads' HO_7.out).2.1); rintro e w' ⟨rfl, ⟨nd, rfl⟩⟩; refine ⟨_, rfl, ?_⟩))
             go_ret
             exact ⟨aq7, aq1⟩
            ·rw [if_neg c37] at H
             have c37b0 : (t118 == t110) = false := beq_eq_false_iff_ne.mpr c37
             have c37b1 : (t118 != t110) = true := bne_iff_ne.mpr c37
             obtain rfl := Option.some.inj H
             go_wp2_with (first | ((with_reducible refine gate_callee (f := 36) rfl ?_); refine goesL_ (some 68) rfl rfl Tryz.func36 (by kernel_rfl) rfl #[.slice Ao25 t111.length co25, .int .i64 1] rfl aq4 ?_; (with_reducible refine (laws_heldIntSS.calls kj23 _ _ t111 1 t118 _ ?side1 ?side2 A35.out).mono ?_); (case side1 => exact aq30); (case side2 => exact (Kd.S_reads' HO_7.out).2.1); rintro e w' ⟨rfl, ⟨nd, rfl⟩⟩; refine ⟨_, rfl, ?_⟩))
             go_ret
             exact ⟨aq7, aq1⟩
       ·rw [if_neg c22] at H
        have c22b0 : (t112 == t110) = false := beq_eq_false_iff_ne.mpr c22
        have c22b1 : (t112 != t110) = true := bne_iff_ne.mpr c22
        obtain rfl := Option.some.inj H
        obtain ⟨Ao38, co38, eo38⟩ := Kd.S_slice HO_7.out
        subst eo38
        go_wp2_with (first | ((with_reducible refine gate_callee (f := 35) rfl ?_); refine goesL_ (some 42) rfl rfl Tryz.func35 (by kernel_rfl) rfl #[.slice Ao38 t105.length co38, .int .i64 1] rfl aq4 ?_; (with_reducible refine (laws_markIntSS.calls kj6 (fun k_ => w8.heap.size ≤ k_) (.slice Ao38 t105.length co38) t105 1 t110 t111 w _ ?side1 ?side2 A17.out).mono ?_); (case side1 => exact aq1); (case side2 => exact HO_7.out); rintro e w39 ⟨rfl, hy0, hb, hkp⟩; refine ⟨_, rfl, ?_⟩; have n0_ := am (Kd.S_kept HO_5.out hkp (fun k hk hs => absurd hk (Nat.not_lt.2 hs))); have n1_ := am (hy0); have n2_ := am (hb); clear HO_5; clear HO_7; clear HB; have HO_5 := n0_; have HO_7 := n1_; have HB := n2_; clear n0_ n1_ n2_; (try clear hb); (try clear hkp); (try clear hy0)) | ((with_reducible refine gate_callee (f := 36) rfl ?_); refine goesL_ (some 45) rfl rfl Tryz.func36 (by kernel_rfl) rfl #[.slice Ao38 t111.length co38, .int .i64 1] rfl aq54 ?_; (with_reducible refine (laws_heldIntSS.calls kj6 _ _ t111 1 t112 _ ?side1 ?side2 A18.out).mono ?_); (case side1 => exact aq30); (case side2 => exact aq100); rintro e w' ⟨rfl, ⟨nd, rfl⟩⟩; refine ⟨_, rfl, ?_⟩))
        go_ret
        exact ⟨aq7, aq1⟩
end Go.Proofs.YtdffgeoegdkiaaaGreatDoor.F

namespace Go.Proofs.YtdffgeoegdkiaaaGreatDoor.F
open Go.RowKit Go.Proofs.YtdffgeoegdkiaaaGreatDoor Go.Proofs.YtdffgeoegdkiaaaGreatDoorW.PrintWords Go.Proofs.YtdffgeoegdkiaaaGreatDoorW.PrintMore
theorem rdRow (X : List (List Int)) (i : Nat) (h : i < X.length) : rd_L3 X (i : Int) = X[i]'h := by
  show X.getD (i : Int).toNat [] = _
  rw [Int.toNat_natCast, List.getD_eq_getElem?_getD, List.getElem?_eq_getElem h]; rfl
theorem eqISS_l0 (C : List (List Int)) (hC : C.length ≤ 1000) (hr : ∀ c ∈ C, c.length ≤ 1000) : ∀ (n i : Nat), i + n = C.length → Ev (fun k => laws_eqIntSS.l0 k C C (i : Int)) true
  | 0, i, hi => Ev.step (f := fun _ => some true) (fun k => by rw [laws_eqIntSS.l0, if_neg (by omega)]) (Ev.now _)
  | n + 1, i, hi => by
    have hil : i < C.length := by omega
    have HW : Aside0 (wrap64 ((i : Int) + 1) = ((i + 1 : Nat) : Int)) := ⟨by rw [w64 (by omega) (by omega)]; rfl⟩
    have hl := hr _ (List.getElem_mem hil)
    refine Ev.step (f := fun k => (laws_eqIntS.f k (C[i]'hil) (C[i]'hil)).bind fun t103 => if t103 = true then laws_eqIntSS.l0 k C C ((i + 1 : Nat) : Int) else some false) (fun k => ?_) (Ev.bind (eqI_ev _ (by omega)) (Ev.congr (fun k => if_pos rfl) (eqISS_l0 C hC hr n (i + 1) (by omega))))
    rw [laws_eqIntSS.l0, if_pos (by omega), if_pos (by omega), if_pos (by omega), rdRow C i hil, HW.out]
theorem eqISS_ev (C : List (List Int)) (hC : C.length ≤ 1000) (hr : ∀ c ∈ C, c.length ≤ 1000) : Ev (fun k => laws_eqIntSS.f k C C) true :=
  Ev.congr (fun k => by rw [laws_eqIntSS.f, if_pos rfl]; rfl) (eqISS_l0 C hC hr C.length 0 (by omega))
def marksSS : Nat → List (List Int) → List (List Int)
  | _, [] => []
  | m, c :: C => marksI m c.length :: marksSS (m + c.length) C
theorem marksSS_length : ∀ (C : List (List Int)) (m : Nat), (marksSS m C).length = C.length
  | [], m => rfl
  | c :: C, m => by show (marksSS (m + c.length) C).length + 1 = _; rw [marksSS_length C]; rfl
theorem markSS_l0 : ∀ (C A : List (List Int)) (m : Nat), A.length + C.length ≤ 1000 → m + C.flatten.length ≤ 100000 →
    Ev (fun k => laws_markIntSS.l0 k (A ++ C) (m : Int) (A.length : Int)) (((m + C.flatten.length : Nat) : Int), A ++ marksSS m C)
  | [], A, m, hl, hm => by
    refine Ev.step (f := fun _ => some ((m : Int), A)) (fun k => ?_) (by simpa [marksSS] using Ev.now ((m : Int), A))
    rw [laws_markIntSS.l0, List.append_nil, if_neg (by omega)]
  | c :: C, A, m, hl, hm => by
    have hlen : (A ++ c :: C).length = A.length + (C.length + 1) := by simp
    simp only [List.flatten_cons, List.length_append, List.length_cons] at hl hm
    have HW : Aside0 (wrap64 ((A.length : Int) + 1) = ((A.length + 1 : Nat) : Int)) := ⟨by rw [w64 (by omega) (by omega)]; rfl⟩
    have hrd : rd_L3 (A ++ c :: C) (A.length : Int) = c := by
      rw [rdRow _ _ (by omega), List.getElem_append_right (Nat.le_refl _)]
      simp
    have hset : (A ++ c :: C).set A.length (marksI m c.length) = (A ++ [marksI m c.length]) ++ C := by
      rw [List.set_append_right _ _ (Nat.le_refl _), Nat.sub_self, List.set_cons_zero]; simp
    have ih := markSS_l0 C (A ++ [marksI m c.length]) (m + c.length) (by simp; omega) (by omega)
    have e1 : (A ++ [marksI m c.length]).length = A.length + 1 := by simp
    rw [e1] at ih
    have e2 : (((m + (c :: C).flatten.length : Nat) : Int), A ++ marksSS m (c :: C)) = (((m + c.length + C.flatten.length : Nat) : Int), (A ++ [marksI m c.length]) ++ marksSS (m + c.length) C) := by
      rw [List.append_assoc]
      refine Prod.ext ?_ rfl
      show ((m + (c :: C).flatten.length : Nat) : Int) = _
      rw [List.flatten_cons, List.length_append, Nat.add_assoc]
    rw [e2]
    refine Ev.step (f := fun k => (laws_markIntS.f k c (m : Int)).bind fun bt => laws_markIntSS.l0 k ((A ++ c :: C).set A.length bt.2) bt.1 ((A.length + 1 : Nat) : Int)) (fun k => ?_) (Ev.bind (markI_ev c m (by omega) (by omega)) ?_)
    · rw [laws_markIntSS.l0, if_pos (by omega), if_pos (by omega), hrd, Int.toNat_natCast, HW.out]
    · simp only
      rw [hset]
      exact ih
theorem markSS_ev (C : List (List Int)) (m : Nat) (hl : C.length ≤ 1000) (hm : m + C.flatten.length ≤ 100000) : Ev (fun k => laws_markIntSS.f k C (m : Int)) (((m + C.flatten.length : Nat) : Int), marksSS m C) := by
  have h0 := markSS_l0 C [] m (by simpa using hl) hm
  exact h0
theorem heldSS_l0 : ∀ (C A : List (List Int)) (m : Nat), A.length + C.length ≤ 1000 → m + C.flatten.length ≤ 100000 →
    Ev (fun k => laws_heldIntSS.l0 k (A ++ marksSS m C) (m : Int) (A.length : Int)) ((m + C.flatten.length : Nat) : Int)
  | [], A, m, hl, hm => by
    refine Ev.step (f := fun _ => some (m : Int)) (fun k => ?_) (by simpa using Ev.now (m : Int))
    rw [laws_heldIntSS.l0, marksSS, List.append_nil, if_neg (by omega)]
  | c :: C, A, m, hl, hm => by
    have hlen : (A ++ marksSS m (c :: C)).length = A.length + (C.length + 1) := by rw [List.length_append, marksSS_length]; rfl
    simp only [List.flatten_cons, List.length_append, List.length_cons] at hl hm
    have HW : Aside0 (wrap64 ((A.length : Int) + 1) = ((A.length + 1 : Nat) : Int)) := ⟨by rw [w64 (by omega) (by omega)]; rfl⟩
    have e0 : A ++ marksSS m (c :: C) = (A ++ [marksI m c.length]) ++ marksSS (m + c.length) C := by rw [List.append_assoc]; rfl
    have hrd : rd_L3 (A ++ marksSS m (c :: C)) (A.length : Int) = marksI m c.length := by
      rw [rdRow _ _ (by omega), List.getElem_append_right (Nat.le_refl _)]
      simp [marksSS]
    have ih := heldSS_l0 C (A ++ [marksI m c.length]) (m + c.length) (by simp; omega) (by omega)
    have e1 : (A ++ [marksI m c.length]).length = A.length + 1 := by simp
    rw [e1, ← e0] at ih
    have e2 : ((m + (c :: C).flatten.length : Nat) : Int) = ((m + c.length + C.flatten.length : Nat) : Int) := by
      rw [List.flatten_cons, List.length_append, Nat.add_assoc]
    rw [e2]
    refine Ev.step (f := fun k => (laws_heldIntS.f k (marksI m c.length) (m : Int)).bind fun t102 => if t102 < 0 then some (-1) else laws_heldIntSS.l0 k (A ++ marksSS m (c :: C)) t102 ((A.length + 1 : Nat) : Int)) (fun k => ?_) (Ev.bind (heldI_ev m c.length (by omega) (by omega)) (Ev.congr (fun k => if_neg (by omega)) ih))
    rw [laws_heldIntSS.l0, if_pos (by omega), if_pos (by omega), hrd, HW.out]
theorem heldSS_ev (C : List (List Int)) (m : Nat) (hl : C.length ≤ 1000) (hm : m + C.flatten.length ≤ 100000) : Ev (fun k => laws_heldIntSS.f k (marksSS m C) (m : Int)) ((m + C.flatten.length : Nat) : Int) := by
  have h0 := heldSS_l0 C [] m (by simpa using hl) hm
  exact h0
theorem cycOk_lenC {R : List (List Int)} {m : Nat} (h : CycOk R m) : R.length ≤ m ∧ ∀ c ∈ R, c.length ≤ m := by
  obtain ⟨h1, h2⟩ := h
  have q : ∀ R : List (List Int), (∀ c ∈ R, 1 ≤ c.length) → R.length ≤ R.flatten.length ∧ ∀ c ∈ R, c.length ≤ R.flatten.length := by
    intro R
    induction R with
    | nil => exact fun _ => ⟨by simp, fun c hc => (by cases hc)⟩
    | cons a C ih =>
      intro hh
      obtain ⟨i1, i2⟩ := ih (fun c hc => hh c (List.mem_cons_of_mem _ hc))
      have := hh a List.mem_cons_self
      refine ⟨by simp only [List.flatten_cons, List.length_append, List.length_cons]; omega, fun c hc => ?_⟩
      simp only [List.flatten_cons, List.length_append]
      rcases List.mem_cons.1 hc with rfl | hc
      · omega
      · have := i2 c hc; omega
  obtain ⟨a, b⟩ := q R h1
  exact ⟨Nat.le_trans a h2, fun c hc => Nat.le_trans (b c hc) h2⟩
theorem FnExactCyclesOfWord (a b : ByteArray) (ha : a.size ≤ 9223372036854775807) (hb : b.size ≤ 9223372036854775807) : ∃ k, laws_FnExactCyclesOfWord.f k a b = some true := by
  refine Ev.rounds (g := fun k => laws_FnExactCyclesOfWord.f k a b) ?_
  unfold laws_FnExactCyclesOfWord.f
  by_cases c0 : (a.size : Int) > 1048576
  · exact Ev.congr (fun k => if_pos c0) (Ev.now _)
  by_cases c1 : (b.size : Int) > 1048576
  · exact Ev.congr (fun k => by rw [if_neg c0, if_pos c1]) (Ev.now _)
  obtain ⟨C, hok, hC, hI⟩ := both_cycles a b (by omega)
  have hP := spec_perm_ev a b
  have hS : Ev (fun k => spec_CyclesOfWord.f k a b) (if (permA a b).2 = true then C else [], (permA a b).2) := by
    unfold spec_CyclesOfWord.f
    refine Ev.bind hP ?_
    by_cases hp : (permA a b).2 = true
    · rw [if_pos hp]
      refine Ev.congr (fun k => if_pos hp) (Ev.bind hC ?_)
      rw [hp]; exact Ev.now _
    · rw [if_neg hp]
      refine Ev.congr (fun k => if_neg hp) ?_
      rw [Bool.not_eq_true] at hp
      rw [hp]; exact Ev.now _
  have hokR : CycOk (if (permA a b).2 = true then C else []) 49 := by
    split
    · exact hok
    · exact ⟨fun c hc => (by cases hc), by simp⟩
  generalize (if (permA a b).2 = true then C else []) = D at hI hS hokR
  generalize (permA a b).2 = q at hI hS
  obtain ⟨l1, l2⟩ := cycOk_lenC hokR
  have hE := eqISS_ev D (by omega) (fun c hc => by have := l2 c hc; omega)
  have hfl := hokR.2
  have hM : Ev (fun k => laws_markIntSS.f k D 1) (((1 + D.flatten.length : Nat) : Int), marksSS 1 D) := markSS_ev D 1 (by omega) (by omega)
  have hH : Ev (fun k => laws_heldIntSS.f k (marksSS 1 D) 1) ((1 + D.flatten.length : Nat) : Int) := heldSS_ev D 1 (by omega) (by omega)
  have hj1 : Ev (fun k => laws_FnExactCyclesOfWord.j1 k (marksSS 1 D) ((1 + D.flatten.length : Nat) : Int) false) true := by
    refine Ev.step (fun k => by rw [laws_FnExactCyclesOfWord.j1, if_neg Bool.false_ne_true]) (Ev.bind hH ?_)
    exact Ev.congr (fun k => by rw [if_neg (by omega), if_pos rfl]) (Ev.now _)
  have hj0 : Ev (fun k => laws_FnExactCyclesOfWord.j0 k a b D q D false) true := by
    refine Ev.step (fun k => by rw [laws_FnExactCyclesOfWord.j0, if_neg Bool.false_ne_true]) (Ev.bind hM (Ev.bind hH ?_))
    refine Ev.congr (fun k => by rw [if_neg (by omega), if_pos rfl]) (Ev.bind hI (Ev.bind hE ?_))
    refine Ev.congr (fun k => if_pos rfl) ?_
    rw [bne_self_eq_false]
    exact hj1
  refine Ev.congr (fun k => by rw [if_neg c0, if_neg c1]) (Ev.bind hS (Ev.bind hI (Ev.bind hE ?_)))
  refine Ev.congr (fun k => if_pos rfl) ?_
  rw [bne_self_eq_false]
  exact hj0
end Go.Proofs.YtdffgeoegdkiaaaGreatDoor.F
