/- The proof that the law's row holds, part 5: the kit's words, the printed walks and the plain law. No conditions beyond the card's own. -/
import Derived.Test.YtdffgeoegdkiaaaGreatDoorM0
import Derived.Test.YtdffgeoegdkiaaaGreatDoorM1
import Derived.Test.YtdffgeoegdkiaaaGreatDoorM2
import Derived.Test.YtdffgeoegdkiaaaGreatDoorM3
import Derived.Test.YtdffgeoegdkiaaaGreatDoorM4
namespace Go.Proofs.YtdffgeoegdkiaaaGreatDoor.F
open Go.Proofs.YtdffgeoegdkiaaaGreatDoor
open Go.RowKit Go.Proofs.YtdffgeoegdkiaaaGreatDoorW.PrintWords Go.Proofs.YtdffgeoegdkiaaaGreatDoorW.PrintLast Go.Proofs.YtdffgeoegdkiaaaGreatDoorW.PrintMore
attribute [local go_sem] max2_int min2_int max_two min_two max_three min_three max_four min_four   -- for this text's walks alone
set_option linter.unusedVariables false
set_option linter.unusedSimpArgs false
mutual
def impl_CyclesOfWord.l0 : Nat → List Int → List (List Int) → List Bool → Int → Int → Option ((List (List Int)) × Bool)
 | 0, _, _, _, _, _ => none
 | k + 1, x6, x8, x9, x26, x27 => if x27 < x26 then (impl_CyclesOfWord.l1 k x6 x8 x9 (([] : List Int)) x27 x26 x27) else (some (x8, true))
def impl_CyclesOfWord.l1 : Nat → List Int → List (List Int) → List Bool → List Int → Int → Int → Int → Option ((List (List Int)) × Bool)
 | 0, _, _, _, _, _, _, _ => none
 | k + 1, x6, x8, x9, x11, x12, x26, x27 => if 0 ≤ x12 then (if x12 < (x9.length : Int) then (if rdOf false x9 x12 = true then (if (x11.length : Int) > 0 then (if x8.length < 5864062014805 then (impl_CyclesOfWord.l0 k x6 (x8 ++ [x11]) x9 x26 (wrap64 (x27 + 1))) else (none)) else (impl_CyclesOfWord.l0 k x6 x8 x9 x26 (wrap64 (x27 + 1)))) else (if x11.length < 17592186044416 then (if x12 < (x6.length : Int) then (impl_CyclesOfWord.l1 k x6 x8 (x9.set (x12 : Int).toNat true) (x11 ++ [x12]) (rd x6 x12) x26 x27) else (none)) else (none))) else (none)) else (none)
end
def impl_CyclesOfWord.f (k : Nat) (a0 : ByteArray) (a1 : ByteArray) : Option ((List (List Int)) × Bool) := (impl_PermutationOf.f k a0 a1).bind fun bt101 => (if bt101.2 = true then (if 0 ≤ (bt101.1.length : Int) then (if ((bt101.1.length : Int) : Int).toNat ≤ 281474976710656 then (impl_CyclesOfWord.l0 k bt101.1 (([] : List (List Int))) (List.replicate ((bt101.1.length : Int) : Int).toNat false) (bt101.1.length : Int) 0) else (none)) else (none)) else (some (([] : List (List Int)), false)))
theorem impl_CyclesOfWord.mono_l : ∀ k, (∀ y0 y1 y2 y3 y4, LeO (impl_CyclesOfWord.l0 k y0 y1 y2 y3 y4) (impl_CyclesOfWord.l0 (k + 1) y0 y1 y2 y3 y4)) ∧ (∀ y0 y1 y2 y3 y4 y5 y6, LeO (impl_CyclesOfWord.l1 k y0 y1 y2 y3 y4 y5 y6) (impl_CyclesOfWord.l1 (k + 1) y0 y1 y2 y3 y4 y5 y6))
 | 0 => ⟨fun _ _ _ _ _ r h => by simp [impl_CyclesOfWord.l0] at h, fun _ _ _ _ _ _ _ r h => by simp [impl_CyclesOfWord.l1] at h⟩
 | k + 1 => by
  obtain ⟨ih0, ih1⟩ := impl_CyclesOfWord.mono_l k
  refine ⟨?_, ?_⟩
  ·intro y0 y1 y2 y3 y4
   unfold impl_CyclesOfWord.l0
   have im0 := @impl_PermutationOf.mono; exact mo
  ·intro y0 y1 y2 y3 y4 y5 y6
   unfold impl_CyclesOfWord.l1
   have im0 := @impl_PermutationOf.mono; exact mo
theorem impl_CyclesOfWord.mono : ∀ a0 a1 k, LeO (impl_CyclesOfWord.f k a0 a1) (impl_CyclesOfWord.f (k + 1) a0 a1) := by
 intro a0 a1 k
 obtain ⟨ih0, ih1⟩ := impl_CyclesOfWord.mono_l k
 unfold impl_CyclesOfWord.f
 have im0 := @impl_PermutationOf.mono; exact mo
set_option maxHeartbeats 8000000 in
set_option maxRecDepth 100000 in
theorem impl_CyclesOfWord.calls (k : Nat) (a0 : ByteArray) (a1 : ByteArray) (r1 : List (List Int)) (r2 : Bool) (w : World) (h : impl_CyclesOfWord.f k a0 a1 = some (r1, r2)) :
  Calls Tryz.prog 33 #[.string a0, .string a1] w fun e w' => ∃ v0_ : Value, e = .returned (.tuple #[v0_, .bool r2]) ∧ Kd.S (Kd.slice 3 (Kd.int .i64)) 28 w' w.heap.size (fun _ => True) v0_ r1 ∧ Below w.heap.size w w' := by
 have HB := am (Below.refl w.heap.size w)
 have H : ((impl_PermutationOf.f k a0 a1).bind fun bt101 => (if bt101.2 = true then (if 0 ≤ (bt101.1.length : Int) then (if ((bt101.1.length : Int) : Int).toNat ≤ 281474976710656 then (impl_CyclesOfWord.l0 k bt101.1 (([] : List (List Int))) (List.replicate ((bt101.1.length : Int) : Int).toNat false) (bt101.1.length : Int) 0) else (none)) else (none)) else (some (([] : List (List Int)), false)))) = some (r1, r2) := h
 clear h
 replace H := Option.bind_eq_some_iff.mp H
 obtain ⟨⟨t101, t102⟩, A30, H⟩ := H
 replace H : (if t102 = true then (if 0 ≤ (t101.length : Int) then (if ((t101.length : Int) : Int).toNat ≤ 281474976710656 then (impl_CyclesOfWord.l0 k t101 (([] : List (List Int))) (List.replicate ((t101.length : Int) : Int).toNat false) (t101.length : Int) 0) else (none)) else (none)) else (some (([] : List (List Int)), false))) = some (r1, r2) := H
 have A3 := am A30
 clear A30
 by_cases c4 : t102 = true
 ·subst c4
  have H1 : (if 0 ≤ (t101.length : Int) then (if ((t101.length : Int) : Int).toNat ≤ 281474976710656 then (impl_CyclesOfWord.l0 k t101 (([] : List (List Int))) (List.replicate ((t101.length : Int) : Int).toNat false) (t101.length : Int) 0) else (none)) else (none)) = some (r1, r2) := by rw [if_pos rfl] at H; exact H
  clear H
  have H := H1
  clear H1
  obtain ⟨y105, hy105⟩ : ∃ y_ : List (List Int), y_ = (([] : List (List Int))) := ⟨_, rfl⟩
  replace H : (if 0 ≤ (t101.length : Int) then (if ((t101.length : Int) : Int).toNat ≤ 281474976710656 then (impl_CyclesOfWord.l0 k t101 y105 (List.replicate ((t101.length : Int) : Int).toNat false) (t101.length : Int) 0) else (none)) else (none)) = some (r1, r2) := by first | (rw [hy105]; with_reducible exact H) | (have H2_ := (Option.bind_some _ _).symm.trans H; rw [hy105]; with_reducible exact H2_) | (have H2_ := (Option.bind_some _ _).symm.trans H; with_reducible exact H2_) | with_reducible exact H | (rw [hy105]; exact H) | exact H
  have Ny105 := am hy105
  clear hy105
  by_cases c5 : 0 ≤ (t101.length : Int)
  ·rw [if_pos c5] at H
   have c5b0 := eq_true c5
   have c5b1 : decide (0 ≤ (t101.length : Int)) = true := decide_eq_true c5
   clear c5
   by_cases c6 : ((t101.length : Int) : Int).toNat ≤ 281474976710656
   ·rw [if_pos c6] at H
    have c6b0 := eq_true c6
    have c6b1 : decide (((t101.length : Int) : Int).toNat ≤ 281474976710656) = true := decide_eq_true c6
    clear c6
    obtain ⟨y108, hy108⟩ : ∃ y_ : List Bool, y_ = (List.replicate ((t101.length : Int) : Int).toNat false) := ⟨_, rfl⟩
    replace H : (impl_CyclesOfWord.l0 k t101 y105 y108 (t101.length : Int) 0) = some (r1, r2) := by first | (rw [hy108]; with_reducible exact H) | (have H2_ := (Option.bind_some _ _).symm.trans H; rw [hy108]; with_reducible exact H2_) | (have H2_ := (Option.bind_some _ _).symm.trans H; with_reducible exact H2_) | with_reducible exact H | (rw [hy108]; exact H) | exact H
    have Ny108 := am hy108
    clear hy108
    have H' := am H
    clear H
    go_enter Tryz.func33, Tryz.ntmps33
    try go_wp2_with (first | ((with_reducible refine gate_callee (f := 75) rfl ?_); refine goesL_ (some 16) rfl rfl Tryz.func75 (by kernel_rfl) rfl #[.string a0, .string a1] rfl aq4 ?_; (with_reducible refine (impl_PermutationOf.calls k a0 a1 t101 true _ A3.out).mono ?_); rintro e w7 ⟨v103, rfl, ho0, hb⟩; refine ⟨_, rfl, ?_⟩; have n0_ := am (Kd.R_lower ho0 (below_size aq1)); have n1_ := am (below_step aq1 hb); clear HB; have HO104 := n0_; have HB := n1_; clear n0_ n1_; (try clear hb); (try clear hb2); (try clear hk); (try clear hi); (try clear ho0)))
    have n0_ := am (Kd.R_drew HO104.out)
    have n1_ := am (below_drew1 HB.out)
    clear HO104
    clear HB
    have HO104 := n0_
    have HB := n1_
    clear n0_ n1_
    obtain ⟨Ao9, co9, eo9⟩ := Kd.R_slice HO104.out
    (first | subst eo9 | (injection eo9 with f1_ f2_ f3_; have f4_ := f1_.symm; have f5_ := f3_.symm; clear f1_ f2_ f3_; subst f4_; subst f5_))
    refine start_ (n := 6) (S := fun w' => True) (ds := []) #[false, false, false, false, false, false] (by kernel_rfl) rfl rfl trivial (fun hHeld => ?_)
    generalize w7.drew = w8 at HO104 HB hHeld ⊢
    refine pure_ (i := 1) (N := some 22) (v := ?_) (a' := ?_) (bm 6 2) rfl rfl (by kernel_rfl) (fun _ _ _ h => h) (Or.inl ⟨by rfl, ?_⟩) ?_ ?_
    rotate_left
    ·intro w'
     go_simp
     with_reducible rfl
    rotate_left
    ·simp only [Act.put, ac_]
     rfl
    refine pure_ (i := 2) (N := some 23) (v := ?_) (a' := ?_) (bm 6 6) rfl rfl (by kernel_rfl) (fun _ _ _ h => h) (Or.inl ⟨by rfl, ?_⟩) ?_ ?_
    rotate_left
    ·intro w'
     go_simp
     with_reducible rfl
    rotate_left
    ·simp only [Act.put, ac_]
     rfl
    refine join_ (σ := Value × Value) 1 #[true, true, true, true, true, false] (fun s_ => [(21, s_.1), (24, s_.2), (8, s_.1)]) (fun s_ w' => (Kd.R (Kd.int .i64) 3 w' w.heap.size (fun _ => True) (.slice Ao9 t101.length co9) t101) ∧ (Kd.S (Kd.slice 3 (Kd.int .i64)) 28 w' w.heap.size (fun k_ => some k_ ≠ (.slice Ao9 t101.length co9 : Value).ownBlock) s_.1 y105) ∧ (Kd.R Kd.bool 4 w' w.heap.size (fun _ => True) s_.2 y108) ∧ (Below w.heap.size w w')) ?_ ?_
    rotate_left
    ·intro hCont
     refine two_ (i := 0) (j := 3) (Ni := some 21) (Nj := some 24) #[true, true, true, false, false, false] #[false, true, true, true, false, false] rfl rfl rfl rfl (by kernel_rfl) (by decide) (by decide) (fun K hK => ?_) (fun K hK => ?_)
     ·skip
      refine Kd.S_lit_step (Kd.slice 3 (Kd.int .i64)) _ 28 ?hg (N := 21) ?hd (xs := ([] : List (List Int))) (inner := []) (ok := fun _ => True) (okp := fun _ => True) ?hr ?hp (fun _ hk => hk) trivial (Below.refl _ _) (Nat.le_refl _) (by simp) ?_; (case hd => rfl); (case hg => rfl); (case hr => exact aq14); (case hp => exact aq108)
      intro v106 w10 ho11 hb hg_ hnew_
      clear hg_ hnew_
      (first | rw [← Ny105.out] at ho11 | (simp only [Int.reduceToNat] at ho11; rw [← Ny105.out] at ho11))
      have n0_ := am (Kd.R_below aq17 hb)
      have n1_ := am (Kd.S_lower (Kd.S_new' ho11 (Kd.R_lt aq17)) (below_size aq1))
      have n2_ := am (below_step aq1 hb)
      clear HO104
      clear HB
      have HO104 := n0_
      have HO107 := n1_
      have HB := n2_
      clear n0_ n1_ n2_
      clear hb ho11
      refine hK.out _ _ trivial (fun hHeld => ?_)
      clear hK K
      refine norm_ (a' := ?_) ?_ ?_
      rotate_left
      ·show Act.put _ (some 21) _ = _
       simp only [Act.put, ac_]
       rfl
      refine pure_ (i := 4) (N := some 8) (v := ?_) (a' := ?_) (bm 6 23) rfl rfl (by kernel_rfl) (fun _ _ _ h => h) (Or.inl ⟨by rfl, ?_⟩) ?_ ?_
      rotate_left
      ·intro w'
       go_simp
       with_reducible rfl
      rotate_left
      ·simp only [Act.put, ac_]
       rfl
      refine one_ (i := 3) (N := some 24) (bm 6 31) rfl rfl (by kernel_rfl) (by decide) (fun K hK => ?_)
      refine Kd.R_make_step Kd.bool _ 4 (by rfl) (N := 24) rfl 83 _ _ rfl (t101.length : Int) rfl rfl Tryz.underlying83 (.bool false) 1 info4 rfl (by decide) (by omega) false (ok := fun _ => True) (okp := fun _ => True) rfl (fun _ hk => hk) trivial (of_decide_eq_true aq5) (Nat.le_trans (Nat.mul_le_mul_right _ (of_decide_eq_true aq5 : (t101.length : Int).toNat ≤ 281474976710656)) (by omega)) (Below.refl _ _) (Nat.le_refl _) ?_
      intro v109 w12 ho13 hb hg_ hnew_
      clear hg_ hnew_
      (first | rw [← Ny108.out] at ho13 | (simp only [Int.reduceToNat] at ho13; rw [← Ny108.out] at ho13))
      have n0_ := am (Kd.R_below aq17 hb)
      have n1_ := am (Kd.S_below aq92 hb)
      have n2_ := am (Kd.R_lower ho13 (below_size aq1))
      have n3_ := am (below_step aq1 hb)
      clear HO104
      clear HO107
      clear HB
      have HO104 := n0_
      have HO107 := n1_
      have HO110 := n2_
      have HB := n3_
      clear n0_ n1_ n2_ n3_
      clear hb ho13
      refine hK.out _ _ trivial (fun hHeld => ?_)
      clear hK K
      refine norm_ (a' := ?_) ?_ ?_
      rotate_left
      ·show Act.put _ (some 24) _ = _
       simp only [Act.put, ac_]
       rfl
      exact norm_ aq107 (hCont (v106, v109) _ ⟨aq17, aq79, aq40, aq1⟩)
     ·skip
      refine Kd.R_make_step Kd.bool _ 4 (by rfl) (N := 24) rfl 83 _ _ rfl (t101.length : Int) rfl rfl Tryz.underlying83 (.bool false) 1 info4 rfl (by decide) (by omega) false (ok := fun _ => True) (okp := fun _ => True) rfl (fun _ hk => hk) trivial (of_decide_eq_true aq5) (Nat.le_trans (Nat.mul_le_mul_right _ (of_decide_eq_true aq5 : (t101.length : Int).toNat ≤ 281474976710656)) (by omega)) (Below.refl _ _) (Nat.le_refl _) ?_
      intro v109 w10 ho11 hb hg_ hnew_
      clear hg_ hnew_
      (first | rw [← Ny108.out] at ho11 | (simp only [Int.reduceToNat] at ho11; rw [← Ny108.out] at ho11))
      have n0_ := am (Kd.R_below aq17 hb)
      have n1_ := am (Kd.R_lower ho11 (below_size aq1))
      have n2_ := am (below_step aq1 hb)
      clear HO104
      clear HB
      have HO104 := n0_
      have HO110 := n1_
      have HB := n2_
      clear n0_ n1_ n2_
      clear hb ho11
      refine hK.out _ _ trivial (fun hHeld => ?_)
      clear hK K
      refine norm_ (a' := ?_) ?_ ?_
      rotate_left
      ·show Act.put _ (some 24) _ = _
       simp only [Act.put, ac_]
       rfl
      refine one_ (i := 0) (N := some 21) (bm 6 15) rfl rfl (by kernel_rfl) (by decide) (fun K hK => ?_)
      refine Kd.S_lit_step (Kd.slice 3 (Kd.int .i64)) _ 28 ?hg (N := 21) ?hd (xs := ([] : List (List Int))) (inner := []) (ok := fun _ => True) (okp := fun _ => True) ?hr ?hp (fun _ hk => hk) trivial (Below.refl _ _) (Nat.le_refl _) (by simp) ?_; (case hd => rfl); (case hg => rfl); (case hr => exact aq14); (case hp => exact aq108)
      intro v106 w12 ho13 hb hg_ hnew_
      clear hg_ hnew_
      (first | rw [← Ny105.out] at ho13 | (simp only [Int.reduceToNat] at ho13; rw [← Ny105.out] at ho13))
      have n0_ := am (Kd.R_below aq17 hb)
      have n1_ := am (Kd.R_below aq40 hb)
      have n2_ := am (Kd.S_lower (Kd.S_new' ho13 (Kd.R_lt aq17)) (below_size aq1))
      have n3_ := am (below_step aq1 hb)
      clear HO104
      clear HO110
      clear HB
      have HO104 := n0_
      have HO110 := n1_
      have HO107 := n2_
      have HB := n3_
      clear n0_ n1_ n2_ n3_
      clear hb ho13
      refine hK.out _ _ trivial (fun hHeld => ?_)
      clear hK K
      refine norm_ (a' := ?_) ?_ ?_
      rotate_left
      ·show Act.put _ (some 21) _ = _
       simp only [Act.put, ac_]
       rfl
      refine pure_ (i := 4) (N := some 8) (v := ?_) (a' := ?_) (bm 6 31) rfl rfl (by kernel_rfl) (fun _ _ _ h => h) (Or.inl ⟨by rfl, ?_⟩) ?_ ?_
      rotate_left
      ·intro w'
       go_simp
       with_reducible rfl
      rotate_left
      ·simp only [Act.put, ac_]
       rfl
      exact norm_ aq107 (hCont (v106, v109) _ ⟨aq17, aq79, aq40, aq1⟩)
    rintro ⟨v106, v109⟩ w14 ⟨h0_, h1_, h2_, h3_⟩
    have n0_ : Aside0 (Kd.R (Kd.int .i64) 3 w14 w.heap.size (fun _ => True) (.slice Ao9 t101.length co9) t101) := ⟨h0_⟩
    have n1_ : Aside0 (Kd.S (Kd.slice 3 (Kd.int .i64)) 28 w14 w.heap.size (fun k_ => some k_ ≠ (.slice Ao9 t101.length co9 : Value).ownBlock) v106 y105) := ⟨h1_⟩
    have n2_ : Aside0 (Kd.R Kd.bool 4 w14 w.heap.size (fun _ => True) v109 y108) := ⟨h2_⟩
    have n3_ : Aside0 (Below w.heap.size w w14) := ⟨h3_⟩
    clear HO104
    clear HB
    clear h0_ h1_ h2_ h3_
    have HO104 := n0_
    have HO107 := n1_
    have HO110 := n2_
    have HB := n3_
    clear n0_ n1_ n2_ n3_
    have hHeld := trivial
    refine norm_ (a' := ?_) ?_ ?_
    rotate_left
    ·simp only [Go.Proofs.YtdffgeoegdkiaaaGreatDoorW.PrintLast.putAll, Act.put, List.setIfInBounds_toArray, List.set_cons_zero, List.set_cons_succ]
     rfl
    refine pure_ (i := 5) (N := some 9) (v := ?_) (a' := ?_) (bm 6 63) rfl rfl (by kernel_rfl) (fun _ _ _ h => h) (Or.inl ⟨by rfl, ?_⟩) ?_ ?_
    rotate_left
    ·intro w'
     go_simp
     with_reducible rfl
    rotate_left
    ·simp only [Act.put, ac_]
     rfl
    refine done_ (by kernel_rfl) ?_
    try go_wp2
    go_loopg [8, 27] k (fun kq v8 v27 w' => ∃ (x8_1 : List (List Int)) (x9_1 : List Bool) (x27_1 : Int), v27 = .int .i64 x27_1 ∧ Aside0 (impl_CyclesOfWord.l0 kq t101 x8_1 x9_1 (t101.length : Int) x27_1 = some (r1, r2)) ∧ Aside0 (kq ≤ k) ∧ Aside0 (Kd.R (Kd.int .i64) 3 w' w.heap.size (fun _ => True) (.slice Ao9 t101.length co9) t101) ∧ Aside0 (Kd.S (Kd.slice 3 (Kd.int .i64)) 28 w' w.heap.size (fun k_ => some k_ ≠ ((.slice Ao9 t101.length co9) : Value).ownBlock) v8 x8_1) ∧ Aside0 (Kd.R Kd.bool 4 w' w.heap.size (fun _ => True) v109 x9_1) ∧ Aside0 (Below w.heap.size w w'))
    case atStart => exact ⟨(y105), (y108), (0), aq6, H', ⟨Nat.le_refl _⟩, ⟨aq17⟩, ⟨aq92⟩, ⟨aq40⟩, ⟨aq1⟩⟩
    case round =>
     clear H'
     try clear p2
     try clear c3
     try clear c4
     try clear c5
     try clear c5b0
     try clear c5b1
     try clear c6
     try clear c6b0
     try clear c6b1
     try clear c7
     obtain ⟨x8_1, x9_1, x27_1, rfl, HA, HK1, HO_6, HO_8, HO_9, HB⟩ := hrel
     cases gk with
     | zero => exact absurd HA.out (by simp [impl_CyclesOfWord.l0])
     | succ k1 =>
      have H := HA.out
      clear HA
      simp only [impl_CyclesOfWord.l0] at H
      by_cases c15 : x27_1 < (t101.length : Int)
      ·rw [if_pos c15] at H
       have c15b0 : decide (x27_1 < (t101.length : Int)) = true := decide_eq_true c15
       clear c15
       obtain ⟨y111, hy111⟩ : ∃ y_ : List Int, y_ = (([] : List Int)) := ⟨_, rfl⟩
       replace H : (impl_CyclesOfWord.l1 k1 t101 x8_1 x9_1 y111 x27_1 (t101.length : Int) x27_1) = some (r1, r2) := by first | (rw [hy111]; with_reducible exact H) | (have H2_ := (Option.bind_some _ _).symm.trans H; rw [hy111]; with_reducible exact H2_) | (have H2_ := (Option.bind_some _ _).symm.trans H; with_reducible exact H2_) | with_reducible exact H | (rw [hy111]; exact H) | exact H
       have Ny111 := am hy111
       clear hy111
       have H' := am H
       clear H
       go_wp2_with (first | ((with_reducible refine gate_dst (N := 30) rfl ?_); refine Kd.R_lit (Kd.int .i64) _ 3 ?hg (N := 30) ?hd (xs := ([] : List Int)) (inner := []) (ok := fun _ => True) (okp := fun _ => True) ?hr ?hp (fun _ hk => hk) trivial (Below.refl _ _) (Nat.le_refl _) (by simp) ?_; (case hd => rfl); (case hg => rfl); (case hr => exact aq14); (case hp => exact aq108); intro v112 w16 ho17 hb hg_ hnew_; clear hg_ hnew_; (first | rw [← Ny111.out] at ho17 | (simp only [Int.reduceToNat] at ho17; rw [← Ny111.out] at ho17)); have n0_ := am (Kd.R_elder' aq27 (Kd.R_base ho17) hb); have n1_ := am (Kd.S_elder' aq41 (Kd.R_base ho17) hb); have n2_ := am (Kd.R_below aq13 hb); have n3_ := am (Kd.R_lower (Kd.R_new' ho17 (Kd.R_lt aq27)) (below_size aq1)); have n4_ := am (below_step aq1 hb); clear HO_6; clear HO_8; clear HO_9; clear HB; have HO_6 := n0_; have HO_8 := n1_; have HO_9 := n2_; have HO113 := n3_; have HB := n4_; clear n0_ n1_ n2_ n3_ n4_; clear hb ho17))
       go_loopg [11, 12] k1 (fun kq v11 v12 w' => ∃ (x9_2 : List Bool) (x11_2 : List Int) (x12_2 : Int), v12 = .int .i64 x12_2 ∧ Aside0 (impl_CyclesOfWord.l1 kq t101 x8_1 x9_2 x11_2 x12_2 (t101.length : Int) x27_1 = some (r1, r2)) ∧ Aside0 (kq ≤ k1) ∧ Aside0 (Kd.R (Kd.int .i64) 3 w' w.heap.size (fun k_ => some k_ ≠ (v11 : Value).ownBlock) (.slice Ao9 t101.length co9) t101) ∧ Aside0 (Kd.S (Kd.slice 3 (Kd.int .i64)) 28 w' w.heap.size (fun k_ => some k_ ≠ ((.slice Ao9 t101.length co9) : Value).ownBlock ∧ some k_ ≠ (v11 : Value).ownBlock) u8 x8_1) ∧ Aside0 (Kd.R Kd.bool 4 w' w.heap.size (fun _ => True) v109 x9_2) ∧ Aside0 (Kd.R (Kd.int .i64) 3 w' w.heap.size (fun k_ => some k_ ≠ ((.slice Ao9 t101.length co9) : Value).ownBlock) v11 x11_2) ∧ Aside0 (Below w.heap.size w w'))
       case atStart => exact ⟨(x9_1), (y111), (x27_1), aq6, H', ⟨Nat.le_refl _⟩, ⟨aq121⟩, ⟨aq41⟩, ⟨aq13⟩, ⟨by (with_reducible repeat (first | apply Kd.R_alloc | apply Kd.R_drewN | apply Kd.R_drew)); exact Kd.R_mono HO113.out (fun _ hk => hk.2)⟩, ⟨aq1⟩⟩
       case round =>
        clear H'
        try clear c1
        try clear p2
        try clear c3
        try clear c4
        try clear c5
        try clear c5b0
        try clear c5b1
        try clear c6
        try clear c6b0
        try clear c6b1
        try clear c7
        try clear c15
        try clear c15b0
        try clear p2
        obtain ⟨x9_2, x11_2, x12_2, rfl, HA, HK2, HO_6, HO_8, HO_9, HO_11, HB⟩ := hrel
        cases gk with
        | zero => exact absurd HA.out (by simp [impl_CyclesOfWord.l1])
        | succ k2 =>
         have H := HA.out
         clear HA
         simp only [impl_CyclesOfWord.l1] at H
         by_cases c18 : 0 ≤ x12_2
         ·rw [if_pos c18] at H
          have c18b0 : decide (0 ≤ x12_2) = true := decide_eq_true c18
          clear c18
          by_cases c19 : x12_2 < (x9_2.length : Int)
          ·rw [if_pos c19] at H
           have c19b0 : decide (x12_2 < (x9_2.length : Int)) = true := decide_eq_true c19
           clear c19
           obtain ⟨bq20, hbq20⟩ : ∃ b_ : Bool, b_ = (rdOf false x9_2 x12_2) := ⟨_, rfl⟩
           replace H : (if bq20 = true then (if (x11_2.length : Int) > 0 then (if x8_1.length < 5864062014805 then (impl_CyclesOfWord.l0 k2 t101 (x8_1 ++ [x11_2]) x9_2 (t101.length : Int) (wrap64 (x27_1 + 1))) else (none)) else (impl_CyclesOfWord.l0 k2 t101 x8_1 x9_2 (t101.length : Int) (wrap64 (x27_1 + 1)))) else (if x11_2.length < 17592186044416 then (if x12_2 < (t101.length : Int) then (impl_CyclesOfWord.l1 k2 t101 x8_1 (x9_2.set (x12_2 : Int).toNat true) (x11_2 ++ [x12_2]) (rd t101 x12_2) (t101.length : Int) x27_1) else (none)) else (none))) = some (r1, r2) := by rw [← hbq20] at H; exact H
           have Nbq20 := am hbq20
           clear hbq20
           by_cases c21 : bq20 = true
           ·subst c21
            have H1 : (if (x11_2.length : Int) > 0 then (if x8_1.length < 5864062014805 then (impl_CyclesOfWord.l0 k2 t101 (x8_1 ++ [x11_2]) x9_2 (t101.length : Int) (wrap64 (x27_1 + 1))) else (none)) else (impl_CyclesOfWord.l0 k2 t101 x8_1 x9_2 (t101.length : Int) (wrap64 (x27_1 + 1)))) = some (r1, r2) := by rw [if_pos rfl] at H; exact H
            clear H
            have H := H1
            clear H1
            by_cases c22 : (x11_2.length : Int) > 0
            ·rw [if_pos c22] at H
             have c22b0 : decide (0 < (x11_2.length : Int)) = true := decide_eq_true c22
             have c22b1 : decide (0 < x11_2.length) = true := decide_eq_true (by omega)
             clear c22
             by_cases c23 : x8_1.length < 5864062014805
             ·rw [if_pos c23] at H
              have LMc23 := am c23
              clear c23
              obtain ⟨y115, hy115⟩ : ∃ y_ : List (List Int), y_ = (x8_1 ++ [x11_2]) := ⟨_, rfl⟩
              replace H : (impl_CyclesOfWord.l0 k2 t101 y115 x9_2 (t101.length : Int) (wrap64 (x27_1 + 1))) = some (r1, r2) := by first | (rw [hy115]; with_reducible exact H) | (have H2_ := (Option.bind_some _ _).symm.trans H; rw [hy115]; with_reducible exact H2_) | (have H2_ := (Option.bind_some _ _).symm.trans H; with_reducible exact H2_) | with_reducible exact H | (rw [hy115]; exact H) | exact H
              have Ny115 := am hy115
              clear hy115
              have H' := am H
              clear H
              obtain ⟨Ao24, co24, eo24⟩ := Kd.R_slice HO_9.out
              subst eo24
              have p114 : 0 ≤ (x12_2 : Int) := of_decide_eq_true aq5
              have q114 : x12_2 < (x9_2.length : Int) := of_decide_eq_true aq5
              obtain ⟨ad114, e114, hx114_0⟩ := Kd.at_bool (Kd.R_reads' HO_9.out).2.2 x12_2 p114 q114
              (try rw [← Nbq20.out] at hx114_0)
              cases e114
              replace p114 := eq_true p114
              replace q114 := eq_true q114
              obtain ⟨Ao25, co25, eo25⟩ := Kd.R_slice HO_11.out
              subst eo25
              go_wp2_with (first | ((with_reducible refine gate_builtin (b := .append) (xs := #[.tmp 51, .tmp 53]) rfl ?_); at_builtin; refine Kd.S_append (Kd.slice 3 (Kd.int .i64)) (w0 := w) w.heap.size rfl (.tmp 51) (.tmp 53) 40 28 (.slice none 0 0) 24 rfl Tryz.underlying40 info28 rfl (by decide) (by omega) u8 x8_1 x11_2 [.slice Ao25 x11_2.length co25] (fun k_ => some k_ ≠ (.slice Ao9 t101.length co9 : Value).ownBlock) (fun k_ => some k_ = (.slice Ao25 x11_2.length co25 : Value).ownBlock) rfl rfl ?aP (fun k_ hk_ => ((Kd.R_mono (ok' := fun k_ => ((fun k_ => some k_ ≠ (.slice Ao9 t101.length co9 : Value).ownBlock)) k_ ∧ some k_ ≠ (u8 : Value).ownBlock) (Kd.R_apart' (HO_11.out) (Kd.S_typed HO_8.out) (by decide)) (fun k_ hk => ⟨hk.1, hk.2⟩))).1 k_ hk_.symm) ?aF ?aO ?aB ?aS ?aL ?_; (case aP => exact Kd.M_row (Kd.R_mono (Kd.R_tight rfl (Kd.R_mono (ok' := fun k_ => ((fun k_ => some k_ ≠ (.slice Ao9 t101.length co9 : Value).ownBlock)) k_ ∧ some k_ ≠ (u8 : Value).ownBlock) (Kd.R_apart' (HO_11.out) (Kd.S_typed HO_8.out) (by decide)) (fun k_ hk => ⟨hk.1, hk.2⟩))) (fun _ h_ => h_))); (case aB => exact aq1); (case aF => exact (fun k_ hk => Kd.fresh' (Kd.R_lt aq27) k_ hk)); (case aO => exact (by (with_reducible repeat (first | apply Kd.S_alloc | apply Kd.S_drewN | apply Kd.S_drew)); exact Kd.S_mono HO_8.out (fun k_ hk => ⟨hk.1, fun e_ => hk.2 e_⟩))); (case aS => exact (below_size aq1)); (case aL => have := LMc23.out; omega); intro v116 w26 ho hb hg hat; rw [← Ny115.out] at ho; have n0_ := am (Kd.R_over' aq27 (Kd.S_typed aq41) (by decide) hg); have n1_ := am (Kd.R_over' aq13 (Kd.S_typed aq41) (by decide) hg); have n2_ := am (hb); have n3_ := am (ho); clear HO_6; clear HO_9; clear HB; clear HO_8; clear HO_11; have HO_6 := n0_; have HO_9 := n1_; have HB := n2_; have HO117 := n3_; clear n0_ n1_ n2_ n3_; clear ho hb hg hat))
              go_roundg k2
              case measure => have := HK1.out; have := HK2.out; omega
              case rel => exact ⟨(y115), (x9_2), (wrap64 (x27_1 + 1)), aq6, H', ⟨aq38⟩, ⟨aq115⟩, ⟨by (with_reducible repeat (first | apply Kd.S_alloc | apply Kd.S_drewN | apply Kd.S_drew)); exact HO117.out⟩, ⟨aq13⟩, ⟨aq1⟩⟩
             ·rw [if_neg c23] at H
              exact absurd H (by simp)
            ·rw [if_neg c22] at H
             have c22b0 : decide (0 < (x11_2.length : Int)) = false := decide_eq_false c22
             have c22b1 : decide (0 < x11_2.length) = false := decide_eq_false (by omega)
             clear c22
             have H' := am H
             clear H
             obtain ⟨Ao27, co27, eo27⟩ := Kd.R_slice HO_9.out
             subst eo27
             have p114 : 0 ≤ (x12_2 : Int) := of_decide_eq_true aq5
             have q114 : x12_2 < (x9_2.length : Int) := of_decide_eq_true aq5
             obtain ⟨ad114, e114, hx114_0⟩ := Kd.at_bool (Kd.R_reads' HO_9.out).2.2 x12_2 p114 q114
             (try rw [← Nbq20.out] at hx114_0)
             cases e114
             replace p114 := eq_true p114
             replace q114 := eq_true q114
             obtain ⟨Ao28, co28, eo28⟩ := Kd.R_slice HO_11.out
             subst eo28
             go_wp2
             go_roundg k2
             case measure => have := HK1.out; have := HK2.out; omega
             case rel => exact ⟨(x8_1), (x9_2), (wrap64 (x27_1 + 1)), aq6, H', ⟨aq38⟩, ⟨aq115⟩, ⟨by (with_reducible repeat (first | apply Kd.S_alloc | apply Kd.S_drewN | apply Kd.S_drew)); exact Kd.S_mono HO_8.out (fun _ hk => hk.1)⟩, ⟨aq13⟩, ⟨aq1⟩⟩
           ·replace c21 := Bool.eq_false_iff.mpr c21
            subst c21
            have H1 : (if x11_2.length < 17592186044416 then (if x12_2 < (t101.length : Int) then (impl_CyclesOfWord.l1 k2 t101 x8_1 (x9_2.set (x12_2 : Int).toNat true) (x11_2 ++ [x12_2]) (rd t101 x12_2) (t101.length : Int) x27_1) else (none)) else (none)) = some (r1, r2) := by rw [if_neg (show ¬ (false = true) by decide)] at H; exact H
            clear H
            have H := H1
            clear H1
            obtain ⟨y118, hy118⟩ : ∃ y_ : List Bool, y_ = (x9_2.set (x12_2 : Int).toNat true) := ⟨_, rfl⟩
            replace H : (if x11_2.length < 17592186044416 then (if x12_2 < (t101.length : Int) then (impl_CyclesOfWord.l1 k2 t101 x8_1 y118 (x11_2 ++ [x12_2]) (rd t101 x12_2) (t101.length : Int) x27_1) else (none)) else (none)) = some (r1, r2) := by first | (rw [hy118]; with_reducible exact H) | (have H2_ := (Option.bind_some _ _).symm.trans H; rw [hy118]; with_reducible exact H2_) | (have H2_ := (Option.bind_some _ _).symm.trans H; with_reducible exact H2_) | with_reducible exact H | (rw [hy118]; exact H) | exact H
            have Ny118 := am hy118
            clear hy118
            by_cases c30 : x11_2.length < 17592186044416
            ·rw [if_pos c30] at H
             have LMc30 := am c30
             clear c30
             obtain ⟨y119, hy119⟩ : ∃ y_ : List Int, y_ = (x11_2 ++ [x12_2]) := ⟨_, rfl⟩
             replace H : (if x12_2 < (t101.length : Int) then (impl_CyclesOfWord.l1 k2 t101 x8_1 y118 y119 (rd t101 x12_2) (t101.length : Int) x27_1) else (none)) = some (r1, r2) := by first | (rw [hy119]; with_reducible exact H) | (have H2_ := (Option.bind_some _ _).symm.trans H; rw [hy119]; with_reducible exact H2_) | (have H2_ := (Option.bind_some _ _).symm.trans H; with_reducible exact H2_) | with_reducible exact H | (rw [hy119]; exact H) | exact H
             have Ny119 := am hy119
             clear hy119
             by_cases c31 : x12_2 < (t101.length : Int)
             ·rw [if_pos c31] at H
              have c31b0 : decide (x12_2 < (t101.length : Int)) = true := decide_eq_true c31
              clear c31
              have H' := am H
              clear H
              obtain ⟨Ao32, co32, eo32⟩ := Kd.R_slice HO_9.out
              subst eo32
              have p114 : 0 ≤ (x12_2 : Int) := of_decide_eq_true aq5
              have q114 : x12_2 < (x9_2.length : Int) := of_decide_eq_true aq5
              obtain ⟨ad114, e114, hx114_0⟩ := Kd.at_bool (Kd.R_reads' HO_9.out).2.2 x12_2 p114 q114
              (try rw [← Nbq20.out] at hx114_0)
              cases e114
              replace p114 := eq_true p114
              replace q114 := eq_true q114
              have p29 : 0 ≤ (x12_2 : Int) := of_decide_eq_true aq5
              have q29 : (x12_2 : Int) < ((x9_2.length : Int) : Int) := of_decide_eq_true aq5
              obtain ⟨go29, co29, eo29, gb29, gl29, cl29, HG29⟩ := Kd.R_form HO_9.out (by omega)
              (first | cases eo29 | (injection eo29 with ea_ en_ ec_; (first | subst ea_ | (injection ea_ with ea_; subst ea_)); subst ec_; clear en_))
              have GB29 := am gb29
              have GG29 := am HG29
              clear gb29 gl29 HG29
              (first | simp only [add_plain] at hx114_0 | skip)
              obtain ⟨hx29_0, hf29_0⟩ := Kd.R_celln false HO_9.out (x12_2 : Int) p29 q29
              replace p29 := eq_true p29
              replace q29 := eq_true q29
              have HP33 := Kd.R_putg HO_9.out (x12_2 : Int) true
              go_wp2_with (first | ((with_reducible refine gate_store (t := 4) (p := 43) rfl ?_); refine store_event (t := 4) (p := 43) (v := ?vo_w34) (w1 := (wr.setCell ⟨go29, (x12_2 : Int).toNat, none⟩ (.bool true))) ?hg ?ho ?hn ?hr ?_; (case ho => rfl); (case hg => rfl); (case hn => rfl); (case hr => exact aq14); intro w34 hw; have hg : wr.grownBy w34 (some go29) := (by rw [hw]; exact HP33.2); have hp_ : Kd.R Kd.bool 4 w34 w.heap.size (fun _ => True) (.slice (some ⟨go29, 0, none⟩) x9_2.length co32) y118 := (by rw [hw, Ny118.out]; exact HP33.1); clear HP33; have n0_ := am (Kd.R_over' (v := (.slice (some ⟨go29, 0, none⟩) x9_2.length co32)) aq27 (Kd.R_typed HO_9.out) (by decide) hg); have n1_ := am (Kd.S_over' (v := (.slice (some ⟨go29, 0, none⟩) x9_2.length co32)) aq41 (Kd.R_typed HO_9.out) (by decide) hg); have n2_ := am (hp_); have n3_ := am (Kd.R_over' (v := (.slice (some ⟨go29, 0, none⟩) x9_2.length co32)) aq87 (Kd.R_typed HO_9.out) (by decide) hg); have n4_ := am ((by rw [hw]; exact below_set (HB.out) GB29.out : Below w.heap.size w w34)); clear HO_6; clear HO_8; clear HO_9; clear HO_11; clear HB; have HO_6 := n0_; have HO_8 := n1_; have HO_9 := n2_; have HO_11 := n3_; have HB := n4_; clear n0_ n1_ n2_ n3_ n4_; clear hg hw hp_) | ((with_reducible refine gate_builtin (b := .append) (xs := #[.tmp 44, .tmp 46]) rfl ?_); at_builtin; refine Kd.R_append (Kd.int .i64) (w0 := w) w.heap.size rfl (.tmp 44) (.tmp 46) 28 3 (.int .i64 0) 8 rfl Tryz.underlying28 info3 rfl (by decide) (by omega) u11 x11_2 x12_2 [.int .i64 x12_2] (fun k_ => some k_ ≠ (.slice Ao9 t101.length co9 : Value).ownBlock) (fun _ => False) rfl rfl ?aP (fun _ hk => hk.elim) ?aF ?aO ?aB ?aS ?aL ?_; (case aP => exact rfl); (case aB => exact aq1); (case aF => exact (fun k_ hk => Kd.fresh' (Kd.R_lt aq27) k_ hk)); (case aO => exact aq87); (case aS => exact (below_size aq1)); (case aL => have := LMc30.out; omega); intro v120 w35 ho hb hg hat; rw [← Ny119.out] at ho; have n0_ := am (Kd.R_after (ok := (fun _ => True)) (by (with_reducible repeat (first | apply Kd.R_alloc | apply Kd.R_drewN | apply Kd.R_drew)); exact Kd.R_mono HO_6.out (fun _ hk => ⟨trivial, hk⟩)) hg hat); have n1_ := am (Kd.S_after (ok := (fun k_ => some k_ ≠ (.slice Ao9 t101.length co9 : Value).ownBlock)) aq41 hg hat); have n2_ := am (Kd.R_over' aq13 (Kd.R_typed aq87) (by decide) hg); have n3_ := am (hb); have n4_ := am (ho); clear HO_6; clear HO_8; clear HO_9; clear HB; clear HO_11; have HO_6 := n0_; have HO_8 := n1_; have HO_9 := n2_; have HB := n3_; have HO121 := n4_; clear n0_ n1_ n2_ n3_ n4_; clear ho hb hg hat; have p122 : 0 ≤ (x12_2 : Int) := of_decide_eq_true aq5; have q122 : x12_2 < (t101.length : Int) := of_decide_eq_true aq5; obtain ⟨ad122, e122, hx122_0⟩ := Kd.at_int (Kd.R_reads' HO_6.out).2.2 x12_2 p122 q122; cases e122; replace p122 := eq_true p122; replace q122 := eq_true q122))
              go_roundg k2
              case measure => have := HK1.out; have := HK2.out; omega
              case rel => exact ⟨(y118), (y119), (rd t101 x12_2), aq6, H', ⟨aq38⟩, ⟨aq121⟩, ⟨aq41⟩, ⟨aq13⟩, ⟨by (with_reducible repeat (first | apply Kd.R_alloc | apply Kd.R_drewN | apply Kd.R_drew)); exact HO121.out⟩, ⟨aq1⟩⟩
             ·rw [if_neg c31] at H
              exact absurd H (by simp)
            ·rw [if_neg c30] at H
             exact absurd H (by simp)
          ·rw [if_neg c19] at H
           exact absurd H (by simp)
         ·rw [if_neg c18] at H
          exact absurd H (by simp)
      ·rw [if_neg c15] at H
       have c15b0 : decide (x27_1 < (t101.length : Int)) = false := decide_eq_false c15
       clear c15
       simp only [Option.some.injEq, Prod.mk.injEq] at H
       obtain ⟨rfl, rfl⟩ := H
       go_wp2
       go_ret2
       exact ⟨_, aq7, by (with_reducible repeat (first | apply Kd.S_alloc | apply Kd.S_drewN | apply Kd.S_drew)); exact Kd.S_mono HO_8.out (fun _ hk => trivial), aq1⟩
   ·rw [if_neg c6] at H
    exact absurd H (by simp)
  ·rw [if_neg c5] at H
   exact absurd H (by simp)
 ·replace c4 := Bool.eq_false_iff.mpr c4
  subst c4
  have H1 : (some (([] : List (List Int)), false)) = some (r1, r2) := by rw [if_neg (show ¬ (false = true) by decide)] at H; exact H
  clear H
  have H := H1
  clear H1
  simp only [Option.some.injEq, Prod.mk.injEq] at H
  obtain ⟨rfl, rfl⟩ := H
  go_enter Tryz.func33, Tryz.ntmps33
  go_wp2_with (first | ((with_reducible refine gate_callee (f := 75) rfl ?_); refine goesL_ (some 16) rfl rfl Tryz.func75 (by kernel_rfl) rfl #[.string a0, .string a1] rfl aq4 ?_; (with_reducible refine (impl_PermutationOf.calls k a0 a1 t101 false _ A3.out).mono ?_); rintro e w36 ⟨v103, rfl, ho0, hb⟩; refine ⟨_, rfl, ?_⟩; have n0_ := am (Kd.R_lower ho0 (below_size aq1)); have n1_ := am (below_step aq1 hb); clear HB; have HO104 := n0_; have HB := n1_; clear n0_ n1_; (try clear hb); (try clear hb2); (try clear hk); (try clear hi); (try clear ho0)))
  go_ret2
  exact ⟨_, aq7, aq76, aq1⟩
end Go.Proofs.YtdffgeoegdkiaaaGreatDoor.F

namespace Go.Proofs.YtdffgeoegdkiaaaGreatDoor.F
open Go.RowKit Go.Proofs.YtdffgeoegdkiaaaGreatDoor Go.Proofs.YtdffgeoegdkiaaaGreatDoorW.PrintWords Go.Proofs.YtdffgeoegdkiaaaGreatDoorW.PrintMore
set_option linter.unusedVariables false
set_option linter.unusedSimpArgs false
theorem cyc_same : ∀ k, (∀ p C s n i, impl_CyclesOfWord.l0 k p C s n i = (spec_mcCycles.l0 k p C s n i).bind fun c => some (c, true)) ∧ (∀ p C s c j n i, impl_CyclesOfWord.l1 k p C s c j n i = (spec_mcCycles.l1 k p C s c j n i).bind fun c => some (c, true))
  | 0 => ⟨fun _ _ _ _ _ => rfl, fun _ _ _ _ _ _ _ => rfl⟩
  | k + 1 => by
    obtain ⟨h0, h1⟩ := cyc_same k
    refine ⟨fun p C s n i => ?_, fun p C s c j n i => ?_⟩
    · rw [impl_CyclesOfWord.l0, spec_mcCycles.l0]
      split
      · exact h1 ..
      · rfl
    · rw [impl_CyclesOfWord.l1, spec_mcCycles.l1]
      split
      · split
        · split
          · split
            · split
              · exact h0 ..
              · rfl
            · exact h0 ..
          · split
            · split
              · exact h1 ..
              · rfl
            · rfl
        · rfl
      · rfl
theorem count_set {s : List Bool} {j : Nat} (hj : j < s.length) (h : s[j]'hj = false) : (s.set j true).count true = s.count true + 1 ∧ (s.set j true).count false + 1 = s.count false := by
  have e : s = s.take j ++ s[j]'hj :: s.drop (j + 1) := by rw [← List.drop_eq_getElem_cons hj, List.take_append_drop]
  have e2 : s.set j true = s.take j ++ true :: s.drop (j + 1) := by
    rw [List.set_eq_take_append_cons_drop, if_pos hj]
  rw [h] at e
  constructor
  · rw [e2, List.count_append, List.count_cons]; conv => rhs; rw [e, List.count_append, List.count_cons]
    simp; omega
  · rw [e2, List.count_append, List.count_cons]; conv => rhs; rw [e, List.count_append, List.count_cons]
    simp; omega
theorem count_le (s : List Bool) : s.count true ≤ s.length := List.count_le_length
section
variable {p : List Int} (hp : p.length ≤ 1000) (hin : ∀ x ∈ p, 0 ≤ x ∧ x < (p.length : Int))
include hp hin
def CycOk (C : List (List Int)) (m : Nat) : Prop := (∀ c ∈ C, 1 ≤ c.length) ∧ C.flatten.length ≤ m
theorem cyc_l1 {i : Nat} (hi : i < p.length)
    (hnext : ∀ C s, s.length = p.length → CycOk C (s.count true) → ∃ R, Ev (fun k => spec_mcCycles.l0 k p C s (p.length : Int) ((i + 1 : Nat) : Int)) R ∧ CycOk R p.length) : ∀ (m : Nat) (C : List (List Int)) (s : List Bool) (c : List Int) (j : Nat), s.count false = m → s.length = p.length → j < p.length → (∀ c ∈ C, 1 ≤ c.length) → C.flatten.length + c.length ≤ s.count true →
    ∃ R, Ev (fun k => spec_mcCycles.l1 k p C s c (j : Int) (p.length : Int) (i : Int)) R ∧ CycOk R p.length := by
  intro m
  induction m with
  | zero =>
    intro C s c j hm hsl hj h1 h2
    have HW : Aside0 (wrap64 ((i : Int) + 1) = ((i + 1 : Nat) : Int)) := ⟨by rw [w64 (by omega) (by omega)]; rfl⟩
    have hct := count_le s
    have hjs : j < s.length := by omega
    have hsj : s[j]'hjs = true := by
      rcases hb : s[j]'hjs with _ | _
      · have : false ∈ s := by rw [← hb]; exact List.getElem_mem hjs
        have := List.count_pos_iff.2 this
        omega
      · rfl
    have hrd : rdOf false s (j : Int) = true := by
      show s.getD (j : Int).toNat false = true
      rw [Int.toNat_natCast, List.getD_eq_getElem?_getD, List.getElem?_eq_getElem hjs, hsj]; rfl
    have hfl : C.length ≤ C.flatten.length := by
      clear h2
      induction C with
      | nil => simp
      | cons a C ih =>
        have := ih (fun c hc => h1 c (List.mem_cons_of_mem _ hc))
        have := h1 a List.mem_cons_self
        simp only [List.flatten_cons, List.length_append, List.length_cons]; omega
    by_cases hc : c.length = 0
    · obtain ⟨R, hR, hok⟩ := hnext C s hsl ⟨h1, by omega⟩
      refine ⟨R, Ev.step (fun k => ?_) hR, hok⟩
      rw [spec_mcCycles.l1, if_pos (by omega), if_pos (by omega), if_pos hrd, if_neg (by omega), HW.out]
    · obtain ⟨R, hR, hok⟩ := hnext (C ++ [c]) s hsl ⟨fun x hx => by
        rcases List.mem_append.1 hx with h | h
        · exact h1 x h
        · rw [List.mem_singleton.1 h]; omega, by simp only [List.flatten_append, List.length_append, List.flatten_cons, List.flatten_nil, List.append_nil]; omega⟩
      refine ⟨R, Ev.step (fun k => ?_) hR, hok⟩
      rw [spec_mcCycles.l1, if_pos (by omega), if_pos (by omega), if_pos hrd, if_pos (by omega), if_pos (by omega), HW.out]
  | succ m ih =>
    intro C s c j hm hsl hj h1 h2
    have HW : Aside0 (wrap64 ((i : Int) + 1) = ((i + 1 : Nat) : Int)) := ⟨by rw [w64 (by omega) (by omega)]; rfl⟩
    have hct := count_le s
    have hjs : j < s.length := by omega
    have hrd : rdOf false s (j : Int) = s[j]'hjs := by
      show s.getD (j : Int).toNat false = _
      rw [Int.toNat_natCast, List.getD_eq_getElem?_getD, List.getElem?_eq_getElem hjs]; rfl
    have hfl : C.length ≤ C.flatten.length := by
      clear h2
      induction C with
      | nil => simp
      | cons a C ih =>
        have := ih (fun c hc => h1 c (List.mem_cons_of_mem _ hc))
        have := h1 a List.mem_cons_self
        simp only [List.flatten_cons, List.length_append, List.length_cons]; omega
    rcases hb : s[j]'hjs with _ | _
    · obtain ⟨q1, q2⟩ := count_set hjs hb
      have hx := hin _ (List.getElem_mem (l := p) (n := j) hj)
      obtain ⟨y, hy⟩ : ∃ y : Nat, p[j]'hj = (y : Int) := ⟨(p[j]'hj).toNat, by omega⟩
      have hrp : rd p (j : Int) = (y : Int) := by rw [rdN, getD_at hj, hy]
      obtain ⟨R, hR, hok⟩ := ih C (s.set j true) (c ++ [(j : Int)]) y (by omega) (by rw [List.length_set]; exact hsl) (by omega) h1 (by rw [List.length_append, List.length_singleton]; omega)
      refine ⟨R, Ev.step (fun k => ?_) hR, hok⟩
      rw [spec_mcCycles.l1, if_pos (by omega), if_pos (by omega), if_neg (by rw [hrd, hb]; exact Bool.false_ne_true), if_pos (by omega), if_pos (by omega), Int.toNat_natCast, hrp]
    · rw [hb] at hrd
      by_cases hc : c.length = 0
      · obtain ⟨R, hR, hok⟩ := hnext C s hsl ⟨h1, by omega⟩
        refine ⟨R, Ev.step (fun k => ?_) hR, hok⟩
        rw [spec_mcCycles.l1, if_pos (by omega), if_pos (by omega), if_pos hrd, if_neg (by omega), HW.out]
      · obtain ⟨R, hR, hok⟩ := hnext (C ++ [c]) s hsl ⟨fun x hx => by
          rcases List.mem_append.1 hx with h | h
          · exact h1 x h
          · rw [List.mem_singleton.1 h]; omega, by simp only [List.flatten_append, List.length_append, List.flatten_cons, List.flatten_nil, List.append_nil]; omega⟩
        refine ⟨R, Ev.step (fun k => ?_) hR, hok⟩
        rw [spec_mcCycles.l1, if_pos (by omega), if_pos (by omega), if_pos hrd, if_pos (by omega), if_pos (by omega), HW.out]
theorem cyc_l0 : ∀ (n i : Nat) (C : List (List Int)) (s : List Bool), i + n = p.length → s.length = p.length → CycOk C (s.count true) →
    ∃ R, Ev (fun k => spec_mcCycles.l0 k p C s (p.length : Int) (i : Int)) R ∧ CycOk R p.length
  | 0, i, C, s, hi, hsl, hok => by
    have := count_le s
    exact ⟨C, Ev.step (f := fun _ => some C) (fun k => by rw [spec_mcCycles.l0, if_neg (by omega)]) (Ev.now _), hok.1, by have := hok.2; omega⟩
  | n + 1, i, C, s, hi, hsl, hok => by
    obtain ⟨R, hR, hr⟩ := cyc_l1 hp hin (i := i) (by omega) (fun C s h1 h2 => cyc_l0 n (i + 1) C s (by omega) h1 h2) (s.count false) C s [] i rfl hsl (by omega) hok.1 (by have := hok.2; simpa using this)
    exact ⟨R, Ev.step (fun k => by rw [spec_mcCycles.l0, if_pos (by omega)]) hR, hr⟩
theorem cycles_ev : ∃ R, Ev (fun k => spec_mcCycles.f k p) R ∧ CycOk R p.length := by
  obtain ⟨R, hR, hr⟩ := cyc_l0 hp hin p.length 0 [] (List.replicate p.length false) (by omega) (by simp) ⟨fun c hc => (by cases hc), by simp⟩
  refine ⟨R, Ev.congr (fun k => ?_) hR, hr⟩
  unfold spec_mcCycles.f
  rw [if_pos (by omega), if_pos (by omega), Int.toNat_natCast]
  rfl
end
theorem permA_in (t wd : ByteArray) : (castsI (permA t wd).1).length ≤ 1000 ∧ ∀ x ∈ castsI (permA t wd).1, 0 ≤ x ∧ x < ((castsI (permA t wd).1).length : Int) := by
  obtain ⟨h1, h2⟩ := permA_lt t wd
  refine ⟨by rw [castsI_length]; omega, fun x hx => ?_⟩
  obtain ⟨y, hy, rfl⟩ := List.mem_map.1 hx
  have := h2 y hy
  rw [castsI_length]
  exact ⟨Int.natCast_nonneg _, by show ((y : Nat) : Int) < _; omega⟩
theorem both_cycles (t wd : ByteArray) (ht : t.size < 4294967281) : ∃ R, CycOk R 49 ∧ Ev (fun k => spec_mcCycles.f k (castsI (permA t wd).1)) R ∧ Ev (fun k => impl_CyclesOfWord.f k t wd) (if (permA t wd).2 = true then R else [], (permA t wd).2) := by
  obtain ⟨h1, h2⟩ := permA_in t wd
  obtain ⟨R, hR, hok⟩ := cycles_ev h1 h2
  refine ⟨R, ⟨hok.1, Nat.le_trans hok.2 (by rw [castsI_length]; exact (permA_lt t wd).1)⟩, hR, ?_⟩
  unfold impl_CyclesOfWord.f
  refine Ev.bind (impl_perm_ev t wd ht) ?_
  by_cases hb : (permA t wd).2 = true
  · rw [if_pos hb]
    refine Ev.congr (fun k => if_pos hb) ?_
    rw [hb]
    refine Ev.congr (f := fun k => (spec_mcCycles.f k (castsI (permA t wd).1)).bind fun c => some (c, true)) (fun k => ?_) (Ev.bind hR (Ev.now _))
    unfold spec_mcCycles.f
    split
    · split
      · exact (cyc_same k).1 ..
      · rfl
    · rfl
  · rw [if_neg hb]
    refine Ev.congr (fun k => if_neg hb) ?_
    rw [Bool.not_eq_true] at hb
    rw [hb]
    exact Ev.now _
end Go.Proofs.YtdffgeoegdkiaaaGreatDoor.F

namespace Go.Proofs.YtdffgeoegdkiaaaGreatDoor.F
open Go.Proofs.YtdffgeoegdkiaaaGreatDoor
open Go.RowKit Go.Proofs.YtdffgeoegdkiaaaGreatDoorW.PrintWords Go.Proofs.YtdffgeoegdkiaaaGreatDoorW.PrintLast Go.Proofs.YtdffgeoegdkiaaaGreatDoorW.PrintMore
attribute [local go_sem] max2_int min2_int max_two min_two max_three min_three max_four min_four   -- for this text's walks alone
set_option linter.unusedVariables false
set_option linter.unusedSimpArgs false
def spec_SignOfWord.l0 : Nat → Int → List (List Int) → Int → Int → Option (Int × Bool)
 | 0, _, _, _, _ => none
 | k + 1, x8, x20, x21, x22 => if x22 < x21 then (if 0 ≤ x22 then (if x22 < (x20.length : Int) then (if (((rd_L3 x20 x22).length : Int) % 2) = 0 then (spec_SignOfWord.l0 k (wrap64 (-x8)) x20 x21 (wrap64 (x22 + 1))) else (spec_SignOfWord.l0 k x8 x20 x21 (wrap64 (x22 + 1)))) else (none)) else (none)) else (some (x8, true))
def spec_SignOfWord.f (k : Nat) (a0 : ByteArray) (a1 : ByteArray) : Option (Int × Bool) := (spec_mcAsked.f k a0 a1).bind fun bt101 => (if bt101.2 = true then ((spec_mcCycles.f k bt101.1).bind fun t105 => (spec_SignOfWord.l0 k 1 t105 (t105.length : Int) 0)) else (some (0, false)))
theorem spec_SignOfWord.mono_l : ∀ k, (∀ y0 y1 y2 y3, LeO (spec_SignOfWord.l0 k y0 y1 y2 y3) (spec_SignOfWord.l0 (k + 1) y0 y1 y2 y3))
 | 0 => fun _ _ _ _ r h => by simp [spec_SignOfWord.l0] at h
 | k + 1 => by
  have ih0 := spec_SignOfWord.mono_l k
  ·intro y0 y1 y2 y3
   unfold spec_SignOfWord.l0
   have im0 := @spec_mcAsked.mono; have im1 := @spec_mcCycles.mono; exact mo
set_option maxHeartbeats 8000000 in
set_option maxRecDepth 100000 in
theorem spec_SignOfWord.calls (k : Nat) (a0 : ByteArray) (a1 : ByteArray) (r1 : Int) (r2 : Bool) (w : World) (h : spec_SignOfWord.f k a0 a1 = some (r1, r2)) :
  Calls Tryz.prog 26 #[.string a0, .string a1] w fun e w' => e = .returned (.tuple #[.int .i64 r1, .bool r2]) ∧ Below w.heap.size w w' := by
 have HB := am (Below.refl w.heap.size w)
 have H : ((spec_mcAsked.f k a0 a1).bind fun bt101 => (if bt101.2 = true then ((spec_mcCycles.f k bt101.1).bind fun t105 => (spec_SignOfWord.l0 k 1 t105 (t105.length : Int) 0)) else (some (0, false)))) = some (r1, r2) := h
 clear h
 replace H := Option.bind_eq_some_iff.mp H
 obtain ⟨⟨t101, t102⟩, A30, H⟩ := H
 replace H : (if t102 = true then ((spec_mcCycles.f k t101).bind fun t105 => (spec_SignOfWord.l0 k 1 t105 (t105.length : Int) 0)) else (some (0, false))) = some (r1, r2) := H
 have A3 := am A30
 clear A30
 by_cases c4 : t102 = true
 ·subst c4
  have H1 : ((spec_mcCycles.f k t101).bind fun t105 => (spec_SignOfWord.l0 k 1 t105 (t105.length : Int) 0)) = some (r1, r2) := by rw [if_pos rfl] at H; exact H
  clear H
  have H := H1
  clear H1
  replace H := Option.bind_eq_some_iff.mp H
  obtain ⟨t105, A50, H⟩ := H
  replace H : (spec_SignOfWord.l0 k 1 t105 (t105.length : Int) 0) = some (r1, r2) := H
  have A5 := am A50
  clear A50
  have H' := am H
  clear H
  go_enter Tryz.func26, Tryz.ntmps26
  go_wp2_with (first | ((with_reducible refine gate_callee (f := 67) rfl ?_); refine goesL_ (some 14) rfl rfl Tryz.func67 (by kernel_rfl) rfl #[.string a0, .string a1] rfl aq4 ?_; (with_reducible refine (spec_mcAsked.calls k a0 a1 t101 true _ A3.out).mono ?_); rintro e w6 ⟨v103, rfl, ho0, hb⟩; refine ⟨_, rfl, ?_⟩; have n0_ := am (Kd.R_lower ho0 (below_size aq1)); have n1_ := am (below_step aq1 hb); clear HB; have HO104 := n0_; have HB := n1_; clear n0_ n1_; (try clear hb); (try clear hb2); (try clear hk); (try clear hi); (try clear ho0); obtain ⟨Ao7, co7, eo7⟩ := Kd.R_slice HO104.out; subst eo7) | ((with_reducible refine gate_callee (f := 68) rfl ?_); refine goesL_ (some 20) rfl rfl Tryz.func68 (by kernel_rfl) rfl #[.slice Ao7 t101.length co7] rfl aq4 ?_; (with_reducible refine (spec_mcCycles.calls k _ _ t101 t105 _ ?side1 ?side2 A5.out).mono ?_); (case side1 => exact aq51); (case side2 => exact (Kd.R_reads' HO104.out).2.1); rintro e w8 ⟨v106, rfl, ho0, hb⟩; refine ⟨_, rfl, ?_⟩; have n0_ := am (Kd.R_below aq17 hb); have n1_ := am (Kd.S_lower (Kd.S_new' ho0 (Kd.R_lt aq17)) (below_size aq1)); have n2_ := am (below_step aq1 hb); clear HO104; clear HB; have HO104 := n0_; have HO107 := n1_; have HB := n2_; clear n0_ n1_ n2_; (try clear hb); (try clear hb2); (try clear hk); (try clear hi); (try clear ho0); obtain ⟨Ao9, co9, eo9⟩ := Kd.S_slice HO107.out; subst eo9))
  go_loopg [8, 22] k (fun kq v8 v22 w' => ∃ (x8_1 : Int) (x22_1 : Int), v8 = .int .i64 x8_1 ∧ v22 = .int .i64 x22_1 ∧ Aside0 (spec_SignOfWord.l0 kq x8_1 t105 (t105.length : Int) x22_1 = some (r1, r2)) ∧ Aside0 (kq ≤ k) ∧ Aside0 (Kd.S (Kd.slice 3 (Kd.int .i64)) 28 w' w.heap.size (fun _ => True) (.slice Ao9 t105.length co9) t105) ∧ Aside0 (Below w.heap.size w w'))
  case atStart => exact ⟨(1), (0), aq6, aq6, H', ⟨Nat.le_refl _⟩, ⟨aq114⟩, ⟨aq1⟩⟩
  case round =>
   clear H'
   try clear c2
   try clear p2
   try clear c4
   try clear c6
   obtain ⟨x8_1, x22_1, rfl, rfl, HA, HK1, HO_20, HB⟩ := hrel
   cases gk with
   | zero => exact absurd HA.out (by simp [spec_SignOfWord.l0])
   | succ k1 =>
    have H := HA.out
    clear HA
    simp only [spec_SignOfWord.l0] at H
    by_cases c10 : x22_1 < (t105.length : Int)
    ·rw [if_pos c10] at H
     have c10b0 : decide (x22_1 < (t105.length : Int)) = true := decide_eq_true c10
     clear c10
     by_cases c11 : 0 ≤ x22_1
     ·rw [if_pos c11] at H
      have c11b0 : decide (0 ≤ x22_1) = true := decide_eq_true c11
      clear c11
      by_cases c12 : x22_1 < (t105.length : Int)
      ·rw [if_pos c12] at H
       have c12b0 : decide (x22_1 < (t105.length : Int)) = true := decide_eq_true c12
       clear c12
       by_cases c13 : (((rd_L3 t105 x22_1).length : Int) % 2) = 0
       ·rw [if_pos c13] at H
        have c13b0 : ((((rd_L3 t105 x22_1).length : Int) % 2) == 0) = true := beq_iff_eq.mpr c13
        have c13b1 : ((((rd_L3 t105 x22_1).length : Int) % 2) != 0) = false := bne_eq_false_iff_eq.mpr c13
        clear c13
        have H' := am H
        clear H
        have p108 : 0 ≤ (x22_1 : Int) := of_decide_eq_true aq5
        have q108 : x22_1 < (t105.length : Int) := of_decide_eq_true aq5
        obtain ⟨ad108, A108_0, c108_0, e108, hx108_0, hl108_0, hi108_0⟩ := at_L3 (Kd.S_reads' HO_20.out).2.2 x22_1 p108 q108
        cases e108
        obtain ⟨ce108, hce108, hMe108, hcc108⟩ := Kd.S_get HO_20.out [] x22_1 p108 (by first | exact q108 | exact of_decide_eq_true aq5 | (have e_ := (Kd.S_reads' HO_20.out).1; omega))
        obtain ⟨ve108_0, rfl, ge108_0⟩ := hMe108
        have hv108_0 := hcc108 0 _ rfl
        rw [Nat.add_zero, show ((Kd.slice 3 (Kd.int .i64))).sz = 1 from rfl, Nat.mul_one] at hv108_0
        replace hv108_0 := Option.some.inj (hv108_0.symm.trans hx108_0)
        rw [hv108_0] at ge108_0
        have HL108_0 := am (show Kd.R (Kd.int .i64) 3 _ _ _ _ (rd_L3 t105 x22_1) from ge108_0)
        clear hv108_0 ge108_0
        clear hcc108 hce108
        have HR108_0 := am hi108_0
        have HC108_0 := am hl108_0
        clear hi108_0 hl108_0
        replace p108 := eq_true p108
        replace q108 := eq_true q108
        go_wp2
        go_roundg k1
        case measure => have := HK1.out; omega
        case rel => exact ⟨(wrap64 (-x8_1)), (wrap64 (x22_1 + 1)), aq6, aq6, H', ⟨aq65⟩, ⟨by (with_reducible repeat (first | apply Kd.S_alloc | apply Kd.S_drewN | apply Kd.S_drew)); exact HO_20.out⟩, ⟨aq1⟩⟩
       ·rw [if_neg c13] at H
        have c13b0 : ((((rd_L3 t105 x22_1).length : Int) % 2) == 0) = false := beq_eq_false_iff_ne.mpr c13
        have c13b1 : ((((rd_L3 t105 x22_1).length : Int) % 2) != 0) = true := bne_iff_ne.mpr c13
        have H' := am H
        clear H
        have p108 : 0 ≤ (x22_1 : Int) := of_decide_eq_true aq5
        have q108 : x22_1 < (t105.length : Int) := of_decide_eq_true aq5
        obtain ⟨ad108, A108_0, c108_0, e108, hx108_0, hl108_0, hi108_0⟩ := at_L3 (Kd.S_reads' HO_20.out).2.2 x22_1 p108 q108
        cases e108
        obtain ⟨ce108, hce108, hMe108, hcc108⟩ := Kd.S_get HO_20.out [] x22_1 p108 (by first | exact q108 | exact of_decide_eq_true aq5 | (have e_ := (Kd.S_reads' HO_20.out).1; omega))
        obtain ⟨ve108_0, rfl, ge108_0⟩ := hMe108
        have hv108_0 := hcc108 0 _ rfl
        rw [Nat.add_zero, show ((Kd.slice 3 (Kd.int .i64))).sz = 1 from rfl, Nat.mul_one] at hv108_0
        replace hv108_0 := Option.some.inj (hv108_0.symm.trans hx108_0)
        rw [hv108_0] at ge108_0
        have HL108_0 := am (show Kd.R (Kd.int .i64) 3 _ _ _ _ (rd_L3 t105 x22_1) from ge108_0)
        clear hv108_0 ge108_0
        clear hcc108 hce108
        have HR108_0 := am hi108_0
        have HC108_0 := am hl108_0
        clear hi108_0 hl108_0
        replace p108 := eq_true p108
        replace q108 := eq_true q108
        go_wp2
        go_roundg k1
        case measure => have := HK1.out; omega
        case rel => exact ⟨(x8_1), (wrap64 (x22_1 + 1)), aq6, aq6, H', ⟨aq65⟩, ⟨by (with_reducible repeat (first | apply Kd.S_alloc | apply Kd.S_drewN | apply Kd.S_drew)); exact HO_20.out⟩, ⟨aq1⟩⟩
      ·rw [if_neg c12] at H
       exact absurd H (by simp)
     ·rw [if_neg c11] at H
      exact absurd H (by simp)
    ·rw [if_neg c10] at H
     have c10b0 : decide (x22_1 < (t105.length : Int)) = false := decide_eq_false c10
     clear c10
     simp only [Option.some.injEq, Prod.mk.injEq] at H
     obtain ⟨rfl, rfl⟩ := H
     go_wp2
     go_ret2
     exact ⟨aq7, aq1⟩
 ·replace c4 := Bool.eq_false_iff.mpr c4
  subst c4
  have H1 : (some (0, false)) = some (r1, r2) := by rw [if_neg (show ¬ (false = true) by decide)] at H; exact H
  clear H
  have H := H1
  clear H1
  simp only [Option.some.injEq, Prod.mk.injEq] at H
  obtain ⟨rfl, rfl⟩ := H
  go_enter Tryz.func26, Tryz.ntmps26
  go_wp2_with (first | ((with_reducible refine gate_callee (f := 67) rfl ?_); refine goesL_ (some 14) rfl rfl Tryz.func67 (by kernel_rfl) rfl #[.string a0, .string a1] rfl aq4 ?_; (with_reducible refine (spec_mcAsked.calls k a0 a1 t101 false _ A3.out).mono ?_); rintro e w14 ⟨v103, rfl, ho0, hb⟩; refine ⟨_, rfl, ?_⟩; have n0_ := am (Kd.R_lower ho0 (below_size aq1)); have n1_ := am (below_step aq1 hb); clear HB; have HO104 := n0_; have HB := n1_; clear n0_ n1_; (try clear hb); (try clear hb2); (try clear hk); (try clear hi); (try clear ho0)))
  go_ret2
  exact ⟨aq7, aq1⟩
def impl_bit.f (a0 : Bool) : Option (Int) := if a0 = true then (some 1) else (some 0)
set_option maxHeartbeats 8000000 in
set_option maxRecDepth 100000 in
theorem impl_bit.calls (a0 : Bool) (r : Int) (w : World) (h : impl_bit.f a0 = some r) :
  Calls Tryz.prog 69 #[.bool a0] w fun e w' => e = .returned (.int .i64 r) ∧ Drawn0 w w' := by
 have H : (if a0 = true then (some 1) else (some 0)) = some r := h
 clear h
 by_cases c2 : a0 = true
 ·subst c2
  have H1 : (some 1) = some r := by rw [if_pos rfl] at H; exact H
  clear H
  have H := H1
  clear H1
  obtain rfl := Option.some.inj H
  go_enter Tryz.func69, Tryz.ntmps69
  go_wp2
  go_ret
  exact ⟨aq6, aq15⟩
 ·replace c2 := Bool.eq_false_iff.mpr c2
  subst c2
  have H1 : (some 0) = some r := by rw [if_neg (show ¬ (false = true) by decide)] at H; exact H
  clear H
  have H := H1
  clear H1
  obtain rfl := Option.some.inj H
  go_enter Tryz.func69, Tryz.ntmps69
  go_wp2
  go_ret
  exact ⟨aq6, aq15⟩
def impl_SignOfWord.l0 : Nat → Int → List (List Int) → Int → Int → Option (Int × Bool)
 | 0, _, _, _, _ => none
 | k + 1, x8, x19, x20, x21 => if x21 < x20 then (if 0 ≤ x21 then (if x21 < (x19.length : Int) then ((impl_bit.f ((((rd_L3 x19 x21).length : Int) % 2) == 0)).bind fun t106 => (impl_SignOfWord.l0 k (wrap64 (x8 + t106)) x19 x20 (wrap64 (x21 + 1)))) else (none)) else (none)) else (some (wrap64 (1 - (wrap64 ((Int.tmod x8 2) * 2))), true))
def impl_SignOfWord.f (k : Nat) (a0 : ByteArray) (a1 : ByteArray) : Option (Int × Bool) := (impl_CyclesOfWord.f k a0 a1).bind fun bt101 => (if bt101.2 = true then (impl_SignOfWord.l0 k 0 bt101.1 (bt101.1.length : Int) 0) else (some (0, false)))
theorem impl_SignOfWord.mono_l : ∀ k, (∀ y0 y1 y2 y3, LeO (impl_SignOfWord.l0 k y0 y1 y2 y3) (impl_SignOfWord.l0 (k + 1) y0 y1 y2 y3))
 | 0 => fun _ _ _ _ r h => by simp [impl_SignOfWord.l0] at h
 | k + 1 => by
  have ih0 := impl_SignOfWord.mono_l k
  ·intro y0 y1 y2 y3
   unfold impl_SignOfWord.l0
   have im0 := @impl_CyclesOfWord.mono; exact mo
set_option maxHeartbeats 8000000 in
set_option maxRecDepth 100000 in
theorem impl_SignOfWord.calls (k : Nat) (a0 : ByteArray) (a1 : ByteArray) (r1 : Int) (r2 : Bool) (w : World) (h : impl_SignOfWord.f k a0 a1 = some (r1, r2)) :
  Calls Tryz.prog 27 #[.string a0, .string a1] w fun e w' => e = .returned (.tuple #[.int .i64 r1, .bool r2]) ∧ Below w.heap.size w w' := by
 have HB := am (Below.refl w.heap.size w)
 have H : ((impl_CyclesOfWord.f k a0 a1).bind fun bt101 => (if bt101.2 = true then (impl_SignOfWord.l0 k 0 bt101.1 (bt101.1.length : Int) 0) else (some (0, false)))) = some (r1, r2) := h
 clear h
 replace H := Option.bind_eq_some_iff.mp H
 obtain ⟨⟨t101, t102⟩, A30, H⟩ := H
 replace H : (if t102 = true then (impl_SignOfWord.l0 k 0 t101 (t101.length : Int) 0) else (some (0, false))) = some (r1, r2) := H
 have A3 := am A30
 clear A30
 by_cases c4 : t102 = true
 ·subst c4
  have H1 : (impl_SignOfWord.l0 k 0 t101 (t101.length : Int) 0) = some (r1, r2) := by rw [if_pos rfl] at H; exact H
  clear H
  have H := H1
  clear H1
  have H' := am H
  clear H
  go_enter Tryz.func27, Tryz.ntmps27
  go_wp2_with (first | ((with_reducible refine gate_callee (f := 33) rfl ?_); refine goesL_ (some 14) rfl rfl Tryz.func33 (by kernel_rfl) rfl #[.string a0, .string a1] rfl aq4 ?_; (with_reducible refine (impl_CyclesOfWord.calls k a0 a1 t101 true _ A3.out).mono ?_); rintro e w5 ⟨v103, rfl, ho0, hb⟩; refine ⟨_, rfl, ?_⟩; have n0_ := am (Kd.S_lower ho0 (below_size aq1)); have n1_ := am (below_step aq1 hb); clear HB; have HO104 := n0_; have HB := n1_; clear n0_ n1_; (try clear hb); (try clear hb2); (try clear hk); (try clear hi); (try clear ho0); obtain ⟨Ao6, co6, eo6⟩ := Kd.S_slice HO104.out; subst eo6))
  go_loopg [8, 21] k (fun kq v8 v21 w' => ∃ (x8_1 : Int) (x21_1 : Int), v8 = .int .i64 x8_1 ∧ v21 = .int .i64 x21_1 ∧ Aside0 (impl_SignOfWord.l0 kq x8_1 t101 (t101.length : Int) x21_1 = some (r1, r2)) ∧ Aside0 (kq ≤ k) ∧ Aside0 (Kd.S (Kd.slice 3 (Kd.int .i64)) 28 w' w.heap.size (fun _ => True) (.slice Ao6 t101.length co6) t101) ∧ Aside0 (Below w.heap.size w w'))
  case atStart => exact ⟨(0), (0), aq6, aq6, H', ⟨Nat.le_refl _⟩, ⟨aq45⟩, ⟨aq1⟩⟩
  case round =>
   clear H'
   try clear c2
   try clear p2
   try clear c3
   try clear c4
   obtain ⟨x8_1, x21_1, rfl, rfl, HA, HK1, HO_19, HB⟩ := hrel
   cases gk with
   | zero => exact absurd HA.out (by simp [impl_SignOfWord.l0])
   | succ k1 =>
    have H := HA.out
    clear HA
    simp only [impl_SignOfWord.l0] at H
    by_cases c7 : x21_1 < (t101.length : Int)
    ·rw [if_pos c7] at H
     have c7b0 : decide (x21_1 < (t101.length : Int)) = true := decide_eq_true c7
     clear c7
     by_cases c8 : 0 ≤ x21_1
     ·rw [if_pos c8] at H
      have c8b0 : decide (0 ≤ x21_1) = true := decide_eq_true c8
      clear c8
      by_cases c9 : x21_1 < (t101.length : Int)
      ·rw [if_pos c9] at H
       have c9b0 : decide (x21_1 < (t101.length : Int)) = true := decide_eq_true c9
       clear c9
       replace H := Option.bind_eq_some_iff.mp H
       obtain ⟨t106, A100, H⟩ := H
       replace H : (impl_SignOfWord.l0 k1 (wrap64 (x8_1 + t106)) t101 (t101.length : Int) (wrap64 (x21_1 + 1))) = some (r1, r2) := H
       have A10 := am A100
       clear A100
       have H' := am H
       clear H
       have p105 : 0 ≤ (x21_1 : Int) := of_decide_eq_true aq5
       have q105 : x21_1 < (t101.length : Int) := of_decide_eq_true aq5
       obtain ⟨ad105, A105_0, c105_0, e105, hx105_0, hl105_0, hi105_0⟩ := at_L3 (Kd.S_reads' HO_19.out).2.2 x21_1 p105 q105
       cases e105
       obtain ⟨ce105, hce105, hMe105, hcc105⟩ := Kd.S_get HO_19.out [] x21_1 p105 (by first | exact q105 | exact of_decide_eq_true aq5 | (have e_ := (Kd.S_reads' HO_19.out).1; omega))
       obtain ⟨ve105_0, rfl, ge105_0⟩ := hMe105
       have hv105_0 := hcc105 0 _ rfl
       rw [Nat.add_zero, show ((Kd.slice 3 (Kd.int .i64))).sz = 1 from rfl, Nat.mul_one] at hv105_0
       replace hv105_0 := Option.some.inj (hv105_0.symm.trans hx105_0)
       rw [hv105_0] at ge105_0
       have HL105_0 := am (show Kd.R (Kd.int .i64) 3 _ _ _ _ (rd_L3 t101 x21_1) from ge105_0)
       clear hv105_0 ge105_0
       clear hcc105 hce105
       have HR105_0 := am hi105_0
       have HC105_0 := am hl105_0
       clear hi105_0 hl105_0
       replace p105 := eq_true p105
       replace q105 := eq_true q105
       go_wp2_with (first | ((with_reducible refine gate_callee (f := 69) rfl ?_); refine goesL_ (some 30) rfl rfl Tryz.func69 (by kernel_rfl) rfl #[.bool ((((rd_L3 t101 x21_1).length : Int) % 2) == 0)] rfl aq4 ?_; (with_reducible refine (impl_bit.calls ((((rd_L3 t101 x21_1).length : Int) % 2) == 0) t106 _ A10.out).mono ?_); rintro e w' ⟨rfl, ⟨nd, rfl⟩⟩; refine ⟨_, rfl, ?_⟩))
       go_roundg k1
       case measure => have := HK1.out; omega
       case rel => exact ⟨(wrap64 (x8_1 + t106)), (wrap64 (x21_1 + 1)), aq6, aq6, H', ⟨aq65⟩, ⟨by (with_reducible repeat (first | apply Kd.S_alloc | apply Kd.S_drewN | apply Kd.S_drew)); exact HO_19.out⟩, ⟨aq1⟩⟩
      ·rw [if_neg c9] at H
       exact absurd H (by simp)
     ·rw [if_neg c8] at H
      exact absurd H (by simp)
    ·rw [if_neg c7] at H
     have c7b0 : decide (x21_1 < (t101.length : Int)) = false := decide_eq_false c7
     clear c7
     simp only [Option.some.injEq, Prod.mk.injEq] at H
     obtain ⟨rfl, rfl⟩ := H
     go_wp2
     go_ret2
     exact ⟨aq7, aq1⟩
 ·replace c4 := Bool.eq_false_iff.mpr c4
  subst c4
  have H1 : (some (0, false)) = some (r1, r2) := by rw [if_neg (show ¬ (false = true) by decide)] at H; exact H
  clear H
  have H := H1
  clear H1
  simp only [Option.some.injEq, Prod.mk.injEq] at H
  obtain ⟨rfl, rfl⟩ := H
  go_enter Tryz.func27, Tryz.ntmps27
  go_wp2_with (first | ((with_reducible refine gate_callee (f := 33) rfl ?_); refine goesL_ (some 14) rfl rfl Tryz.func33 (by kernel_rfl) rfl #[.string a0, .string a1] rfl aq4 ?_; (with_reducible refine (impl_CyclesOfWord.calls k a0 a1 t101 false _ A3.out).mono ?_); rintro e w11 ⟨v103, rfl, ho0, hb⟩; refine ⟨_, rfl, ?_⟩; have n0_ := am (Kd.S_lower ho0 (below_size aq1)); have n1_ := am (below_step aq1 hb); clear HB; have HO104 := n0_; have HB := n1_; clear n0_ n1_; (try clear hb); (try clear hb2); (try clear hk); (try clear hi); (try clear ho0)))
  go_ret2
  exact ⟨aq7, aq1⟩
def laws_FnExactSignOfWord.f (k : Nat) (a0 : ByteArray) (a1 : ByteArray) : Option (Bool) := if (a0.size : Int) > 1048576 then (some true) else (if (a1.size : Int) > 1048576 then (some true) else ((spec_SignOfWord.f k a0 a1).bind fun bt101 => ((impl_SignOfWord.f k a0 a1).bind fun bt103 => (if bt103.1 = bt101.1 then (if (bt103.2 != bt101.2) = true then (some false) else (some true)) else (some false)))))
set_option maxHeartbeats 8000000 in
set_option maxRecDepth 100000 in
theorem laws_FnExactSignOfWord.calls (k : Nat) (a0 : ByteArray) (a1 : ByteArray) (r : Bool) (w : World) (h : laws_FnExactSignOfWord.f k a0 a1 = some r) :
  Calls Tryz.prog 5 #[.string a0, .string a1] w fun e w' => e = .returned (.bool r) ∧ Below w.heap.size w w' := by
 have HB := am (Below.refl w.heap.size w)
 have H : (if (a0.size : Int) > 1048576 then (some true) else (if (a1.size : Int) > 1048576 then (some true) else ((spec_SignOfWord.f k a0 a1).bind fun bt101 => ((impl_SignOfWord.f k a0 a1).bind fun bt103 => (if bt103.1 = bt101.1 then (if (bt103.2 != bt101.2) = true then (some false) else (some true)) else (some false)))))) = some r := h
 clear h
 by_cases c3 : (a0.size : Int) > 1048576
 ·rw [if_pos c3] at H
  have c3b0 : decide (1048576 < (a0.size : Int)) = true := decide_eq_true c3
  have c3b1 : decide (1048576 < a0.size) = true := decide_eq_true (by omega)
  clear c3
  obtain rfl := Option.some.inj H
  go_enter Tryz.func5, Tryz.ntmps5
  go_wp2
  go_ret
  exact ⟨aq7, aq1⟩
 ·rw [if_neg c3] at H
  have c3b0 : decide (1048576 < (a0.size : Int)) = false := decide_eq_false c3
  have c3b1 : decide (1048576 < a0.size) = false := decide_eq_false (by omega)
  clear c3
  by_cases c4 : (a1.size : Int) > 1048576
  ·rw [if_pos c4] at H
   have c4b0 : decide (1048576 < (a1.size : Int)) = true := decide_eq_true c4
   have c4b1 : decide (1048576 < a1.size) = true := decide_eq_true (by omega)
   clear c4
   obtain rfl := Option.some.inj H
   go_enter Tryz.func5, Tryz.ntmps5
   go_wp2
   go_ret
   exact ⟨aq7, aq1⟩
  ·rw [if_neg c4] at H
   have c4b0 : decide (1048576 < (a1.size : Int)) = false := decide_eq_false c4
   have c4b1 : decide (1048576 < a1.size) = false := decide_eq_false (by omega)
   clear c4
   replace H := Option.bind_eq_some_iff.mp H
   obtain ⟨⟨t101, t102⟩, A50, H⟩ := H
   replace H : ((impl_SignOfWord.f k a0 a1).bind fun bt103 => (if bt103.1 = t101 then (if (bt103.2 != t102) = true then (some false) else (some true)) else (some false))) = some r := H
   have A5 := am A50
   clear A50
   replace H := Option.bind_eq_some_iff.mp H
   obtain ⟨⟨t103, t104⟩, A60, H⟩ := H
   replace H : (if t103 = t101 then (if (t104 != t102) = true then (some false) else (some true)) else (some false)) = some r := H
   have A6 := am A60
   clear A60
   by_cases c7 : t103 = t101
   ·rw [if_pos c7] at H
    have c7b0 : (t103 == t101) = true := beq_iff_eq.mpr c7
    have c7b1 : (t103 != t101) = false := bne_eq_false_iff_eq.mpr c7
    clear c7
    by_cases c8 : (t104 != t102) = true
    ·rw [if_pos c8] at H
     have c8b0 : (t104 != t102) = true := c8
     (try (have c8b1 : decide (t104 = t102) = false := by simpa using c8))
     (try (have c8b2 : (t104 == t102) = false := by simpa using c8))
     (try (have c8b3 : ¬ (t104 = t102) := by simpa using c8))
     clear c8
     obtain rfl := Option.some.inj H
     go_enter Tryz.func5, Tryz.ntmps5
     go_wp2_with (first | ((with_reducible refine gate_callee (f := 26) rfl ?_); refine goesL_ (some 18) rfl rfl Tryz.func26 (by kernel_rfl) rfl #[.string a0, .string a1] rfl aq4 ?_; (with_reducible refine (spec_SignOfWord.calls k a0 a1 t101 t102 _ A5.out).mono ?_); rintro e w9 ⟨rfl, hb⟩; refine ⟨_, rfl, ?_⟩; have n0_ := am (below_step aq1 hb); clear HB; have HB := n0_; clear n0_; (try clear hb); (try clear hb2); (try clear hk); (try clear hi)) | ((with_reducible refine gate_callee (f := 27) rfl ?_); refine goesL_ (some 24) rfl rfl Tryz.func27 (by kernel_rfl) rfl #[.string a0, .string a1] rfl aq4 ?_; (with_reducible refine (impl_SignOfWord.calls k a0 a1 t103 t104 _ A6.out).mono ?_); rintro e w10 ⟨rfl, hb⟩; refine ⟨_, rfl, ?_⟩; have n0_ := am (below_step aq1 hb); clear HB; have HB := n0_; clear n0_; (try clear hb); (try clear hb2); (try clear hk); (try clear hi)))
     go_ret
     exact ⟨aq7, aq1⟩
    ·rw [if_neg c8] at H
     have c8b0 : (t104 != t102) = false := by simpa using c8
     (try (have c8b1 : decide (t104 = t102) = true := by simpa using c8))
     (try (have c8b2 : (t104 == t102) = true := by simpa using c8))
     clear c8
     obtain rfl := Option.some.inj H
     go_enter Tryz.func5, Tryz.ntmps5
     go_wp2_with (first | ((with_reducible refine gate_callee (f := 26) rfl ?_); refine goesL_ (some 18) rfl rfl Tryz.func26 (by kernel_rfl) rfl #[.string a0, .string a1] rfl aq4 ?_; (with_reducible refine (spec_SignOfWord.calls k a0 a1 t101 t102 _ A5.out).mono ?_); rintro e w11 ⟨rfl, hb⟩; refine ⟨_, rfl, ?_⟩; have n0_ := am (below_step aq1 hb); clear HB; have HB := n0_; clear n0_; (try clear hb); (try clear hb2); (try clear hk); (try clear hi)) | ((with_reducible refine gate_callee (f := 27) rfl ?_); refine goesL_ (some 24) rfl rfl Tryz.func27 (by kernel_rfl) rfl #[.string a0, .string a1] rfl aq4 ?_; (with_reducible refine (impl_SignOfWord.calls k a0 a1 t103 t104 _ A6.out).mono ?_); rintro e w12 ⟨rfl, hb⟩; refine ⟨_, rfl, ?_⟩; have n0_ := am (below_step aq1 hb); clear HB; have HB := n0_; clear n0_; (try clear hb); (try clear hb2); (try clear hk); (try clear hi)))
     go_ret
     exact ⟨aq7, aq1⟩
   ·rw [if_neg c7] at H
    have c7b0 : (t103 == t101) = false := beq_eq_false_iff_ne.mpr c7
    have c7b1 : (t103 != t101) = true := bne_iff_ne.mpr c7
    obtain rfl := Option.some.inj H
    go_enter Tryz.func5, Tryz.ntmps5
    go_wp2_with (first | ((with_reducible refine gate_callee (f := 26) rfl ?_); refine goesL_ (some 18) rfl rfl Tryz.func26 (by kernel_rfl) rfl #[.string a0, .string a1] rfl aq4 ?_; (with_reducible refine (spec_SignOfWord.calls k a0 a1 t101 t102 _ A5.out).mono ?_); rintro e w13 ⟨rfl, hb⟩; refine ⟨_, rfl, ?_⟩; have n0_ := am (below_step aq1 hb); clear HB; have HB := n0_; clear n0_; (try clear hb); (try clear hb2); (try clear hk); (try clear hi)) | ((with_reducible refine gate_callee (f := 27) rfl ?_); refine goesL_ (some 24) rfl rfl Tryz.func27 (by kernel_rfl) rfl #[.string a0, .string a1] rfl aq4 ?_; (with_reducible refine (impl_SignOfWord.calls k a0 a1 t103 t104 _ A6.out).mono ?_); rintro e w14 ⟨rfl, hb⟩; refine ⟨_, rfl, ?_⟩; have n0_ := am (below_step aq1 hb); clear HB; have HB := n0_; clear n0_; (try clear hb); (try clear hb2); (try clear hk); (try clear hi)))
    go_ret
    exact ⟨aq7, aq1⟩
end Go.Proofs.YtdffgeoegdkiaaaGreatDoor.F

namespace Go.Proofs.YtdffgeoegdkiaaaGreatDoor.F
open Go.RowKit Go.Proofs.YtdffgeoegdkiaaaGreatDoor Go.Proofs.YtdffgeoegdkiaaaGreatDoorW.PrintWords Go.Proofs.YtdffgeoegdkiaaaGreatDoorW.PrintMore
set_option linter.unusedVariables false
set_option linter.unusedSimpArgs false
theorem cycOk_len {R : List (List Int)} {m : Nat} (h : CycOk R m) : R.length ≤ m := by
  obtain ⟨h1, h2⟩ := h
  refine Nat.le_trans ?_ h2
  clear h2
  induction R with
  | nil => simp
  | cons a C ih =>
    have := ih (fun c hc => h1 c (List.mem_cons_of_mem _ hc))
    have := h1 a List.mem_cons_self
    simp only [List.flatten_cons, List.length_append, List.length_cons]; omega
def sgn (e : Nat) : Int := if e % 2 = 0 then 1 else -1
theorem sgn_end (e : Nat) : wrap64 (1 - wrap64 (Int.tmod (e : Int) 2 * 2)) = sgn e := by
  unfold sgn
  rw [show Int.tmod (e : Int) 2 = ((e % 2 : Nat) : Int) from (Int.ofNat_tmod e 2).symm]
  rcases Nat.mod_two_eq_zero_or_one e with h | h
  · rw [h, if_pos rfl]; decide +kernel
  · rw [h, if_neg (by decide)]; decide +kernel
theorem sgn_neg (e : Nat) : wrap64 (-sgn e) = sgn (e + 1) := by
  unfold sgn
  rcases Nat.mod_two_eq_zero_or_one e with h | h
  · rw [if_pos h, if_neg (by omega)]; decide +kernel
  · rw [if_neg (by omega), if_pos (by omega)]; decide +kernel
theorem sign_l0 {C : List (List Int)} (hC : C.length ≤ 1000) : ∀ (n i e : Nat), i + n = C.length → e ≤ i →
    ∃ r, Ev (fun k => spec_SignOfWord.l0 k (sgn e) C (C.length : Int) (i : Int)) (r, true) ∧ Ev (fun k => impl_SignOfWord.l0 k (e : Int) C (C.length : Int) (i : Int)) (r, true)
  | 0, i, e, hi, he => by
    refine ⟨sgn e, Ev.step (f := fun _ => some (sgn e, true)) (fun k => by rw [spec_SignOfWord.l0, if_neg (by omega)]) (Ev.now _), Ev.step (f := fun _ => some (sgn e, true)) (fun k => ?_) (Ev.now _)⟩
    rw [impl_SignOfWord.l0, if_neg (by omega), sgn_end]
  | n + 1, i, e, hi, he => by
    have HW : Aside0 (wrap64 ((i : Int) + 1) = ((i + 1 : Nat) : Int)) := ⟨by rw [w64 (by omega) (by omega)]; rfl⟩
    by_cases hb : (((rd_L3 C (i : Int)).length : Int) % 2) = 0
    · have HE : Aside0 (wrap64 ((e : Int) + 1) = ((e + 1 : Nat) : Int)) := ⟨by rw [w64 (by omega) (by omega)]; rfl⟩
      obtain ⟨r, h1, h2⟩ := sign_l0 hC n (i + 1) (e + 1) (by omega) (by omega)
      refine ⟨r, Ev.step (fun k => ?_) h1, Ev.step (fun k => ?_) h2⟩
      · rw [spec_SignOfWord.l0, if_pos (by omega), if_pos (by omega), if_pos (by omega), if_pos hb, sgn_neg, HW.out]
      · rw [impl_SignOfWord.l0, if_pos (by omega), if_pos (by omega), if_pos (by omega), show impl_bit.f ((((rd_L3 C (i : Int)).length : Int) % 2) == 0) = some 1 by rw [hb]; rfl, Option.bind_some, HE.out, HW.out]
    · have HE : Aside0 (wrap64 ((e : Int) + 0) = (e : Int)) := ⟨by rw [w64 (by omega) (by omega)]; omega⟩
      obtain ⟨r, h1, h2⟩ := sign_l0 hC n (i + 1) e (by omega) (by omega)
      refine ⟨r, Ev.step (fun k => ?_) h1, Ev.step (fun k => ?_) h2⟩
      · rw [spec_SignOfWord.l0, if_pos (by omega), if_pos (by omega), if_pos (by omega), if_neg hb, HW.out]
      · rw [impl_SignOfWord.l0, if_pos (by omega), if_pos (by omega), if_pos (by omega), show impl_bit.f ((((rd_L3 C (i : Int)).length : Int) % 2) == 0) = some 0 by rw [beq_eq_false_iff_ne.2 hb]; rfl, Option.bind_some, HE.out, HW.out]
theorem both_signs (t wd : ByteArray) (ht : t.size < 4294967281) : ∃ R : Int × Bool, Ev (fun k => spec_SignOfWord.f k t wd) R ∧ Ev (fun k => impl_SignOfWord.f k t wd) R := by
  obtain ⟨C, hok, hS, hI⟩ := both_cycles t wd ht
  have hP := spec_perm_ev t wd
  unfold spec_SignOfWord.f impl_SignOfWord.f
  by_cases hb : (permA t wd).2 = true
  · rw [if_pos hb] at hI
    obtain ⟨r, h1, h2⟩ := sign_l0 (C := C) (by have := cycOk_len hok; omega) C.length 0 0 (by omega) (by omega)
    exact ⟨(r, true), Ev.bind hP (Ev.congr (fun k => if_pos hb) (Ev.bind hS h1)), Ev.bind hI (Ev.congr (fun k => if_pos hb) h2)⟩
  · exact ⟨(0, false), Ev.bind hP (Ev.congr (fun k => if_neg hb) (Ev.now _)), Ev.bind hI (Ev.congr (fun k => if_neg hb) (Ev.now _))⟩
theorem FnExactSignOfWord (a b : ByteArray) (ha : a.size ≤ 9223372036854775807) (hb : b.size ≤ 9223372036854775807) : ∃ k, laws_FnExactSignOfWord.f k a b = some true := by
  refine Ev.rounds (g := fun k => laws_FnExactSignOfWord.f k a b) ?_
  unfold laws_FnExactSignOfWord.f
  by_cases c0 : (a.size : Int) > 1048576
  · exact Ev.congr (fun k => if_pos c0) (Ev.now _)
  by_cases c1 : (b.size : Int) > 1048576
  · exact Ev.congr (fun k => by rw [if_neg c0, if_pos c1]) (Ev.now _)
  obtain ⟨R, hS, hI⟩ := both_signs a b (by omega)
  refine Ev.congr (fun k => by rw [if_neg c0, if_neg c1]) (Ev.bind hS (Ev.bind hI ?_))
  refine Ev.congr (fun k => by rw [if_pos rfl, bne_self_eq_false, if_neg Bool.false_ne_true]) (Ev.now _)
end Go.Proofs.YtdffgeoegdkiaaaGreatDoor.F

namespace Go.Proofs.YtdffgeoegdkiaaaGreatDoor.F
open Go.Proofs.YtdffgeoegdkiaaaGreatDoor
open Go.RowKit Go.Proofs.YtdffgeoegdkiaaaGreatDoorW.PrintWords Go.Proofs.YtdffgeoegdkiaaaGreatDoorW.PrintLast Go.Proofs.YtdffgeoegdkiaaaGreatDoorW.PrintMore
attribute [local go_sem] max2_int min2_int max_two min_two max_three min_three max_four min_four   -- for this text's walks alone
set_option linter.unusedVariables false
set_option linter.unusedSimpArgs false
mutual
def spec_OrderOfWord.l0 : Nat → Int → List (List Int) → Int → Int → Option (Int × Bool)
 | 0, _, _, _, _ => none
 | k + 1, x8, x22, x23, x24 => if x24 < x23 then (if 0 ≤ x24 then (if x24 < (x22.length : Int) then (spec_OrderOfWord.l1 k x8 (rd_L3 x22 x24) x8 ((rd_L3 x22 x24).length : Int) x22 x23 x24) else (none)) else (none)) else (some (x8, true))
def spec_OrderOfWord.l1 : Nat → Int → List Int → Int → Int → List (List Int) → Int → Int → Option (Int × Bool)
 | 0, _, _, _, _, _, _, _ => none
 | k + 1, x8, x10, x11, x12, x22, x23, x24 => if x12 > 0 then (if x12 = 0 then (none) else (spec_OrderOfWord.l1 k x8 x10 x12 (Int.tmod x11 x12) x22 x23 x24)) else (if x11 = 0 then (none) else (spec_OrderOfWord.l0 k (wrap64 ((wrap64 (Int.tdiv x8 x11)) * (x10.length : Int))) x22 x23 (wrap64 (x24 + 1))))
end
def spec_OrderOfWord.f (k : Nat) (a0 : ByteArray) (a1 : ByteArray) : Option (Int × Bool) := (spec_mcAsked.f k a0 a1).bind fun bt101 => (if bt101.2 = true then ((spec_mcCycles.f k bt101.1).bind fun t105 => (spec_OrderOfWord.l0 k 1 t105 (t105.length : Int) 0)) else (some (0, false)))
theorem spec_OrderOfWord.mono_l : ∀ k, (∀ y0 y1 y2 y3, LeO (spec_OrderOfWord.l0 k y0 y1 y2 y3) (spec_OrderOfWord.l0 (k + 1) y0 y1 y2 y3)) ∧ (∀ y0 y1 y2 y3 y4 y5 y6, LeO (spec_OrderOfWord.l1 k y0 y1 y2 y3 y4 y5 y6) (spec_OrderOfWord.l1 (k + 1) y0 y1 y2 y3 y4 y5 y6))
 | 0 => ⟨fun _ _ _ _ r h => by simp [spec_OrderOfWord.l0] at h, fun _ _ _ _ _ _ _ r h => by simp [spec_OrderOfWord.l1] at h⟩
 | k + 1 => by
  obtain ⟨ih0, ih1⟩ := spec_OrderOfWord.mono_l k
  refine ⟨?_, ?_⟩
  ·intro y0 y1 y2 y3
   unfold spec_OrderOfWord.l0
   have im0 := @spec_mcAsked.mono; have im1 := @spec_mcCycles.mono; exact mo
  ·intro y0 y1 y2 y3 y4 y5 y6
   unfold spec_OrderOfWord.l1
   have im0 := @spec_mcAsked.mono; have im1 := @spec_mcCycles.mono; exact mo
set_option maxHeartbeats 8000000 in
set_option maxRecDepth 100000 in
theorem spec_OrderOfWord.calls (k : Nat) (a0 : ByteArray) (a1 : ByteArray) (r1 : Int) (r2 : Bool) (w : World) (h : spec_OrderOfWord.f k a0 a1 = some (r1, r2)) :
  Calls Tryz.prog 28 #[.string a0, .string a1] w fun e w' => e = .returned (.tuple #[.int .i64 r1, .bool r2]) ∧ Below w.heap.size w w' := by
 have HB := am (Below.refl w.heap.size w)
 have H : ((spec_mcAsked.f k a0 a1).bind fun bt101 => (if bt101.2 = true then ((spec_mcCycles.f k bt101.1).bind fun t105 => (spec_OrderOfWord.l0 k 1 t105 (t105.length : Int) 0)) else (some (0, false)))) = some (r1, r2) := h
 clear h
 replace H := Option.bind_eq_some_iff.mp H
 obtain ⟨⟨t101, t102⟩, A30, H⟩ := H
 replace H : (if t102 = true then ((spec_mcCycles.f k t101).bind fun t105 => (spec_OrderOfWord.l0 k 1 t105 (t105.length : Int) 0)) else (some (0, false))) = some (r1, r2) := H
 have A3 := am A30
 clear A30
 by_cases c4 : t102 = true
 ·subst c4
  have H1 : ((spec_mcCycles.f k t101).bind fun t105 => (spec_OrderOfWord.l0 k 1 t105 (t105.length : Int) 0)) = some (r1, r2) := by rw [if_pos rfl] at H; exact H
  clear H
  have H := H1
  clear H1
  replace H := Option.bind_eq_some_iff.mp H
  obtain ⟨t105, A50, H⟩ := H
  replace H : (spec_OrderOfWord.l0 k 1 t105 (t105.length : Int) 0) = some (r1, r2) := H
  have A5 := am A50
  clear A50
  have H' := am H
  clear H
  go_enter Tryz.func28, Tryz.ntmps28
  go_wp2_with (first | (go_at_call 67; (with_reducible refine (spec_mcAsked.calls k a0 a1 t101 true _ A3.out).mono ?_); rintro e w6 ⟨v103, rfl, ho0, hb⟩; have n0_ := am (Kd.R_lower ho0 (below_size aq1)); have n1_ := am (below_step aq1 hb); clear HB; have HO104 := n0_; have HB := n1_; clear n0_ n1_; (try clear hb); (try clear hb2); (try clear hk); (try clear hi); (try clear ho0); obtain ⟨Ao7, co7, eo7⟩ := Kd.R_slice HO104.out; subst eo7) | (go_at_call 68; (with_reducible refine (spec_mcCycles.calls k _ _ t101 t105 _ ?side1 ?side2 A5.out).mono ?_); (case side1 => exact aq51); (case side2 => exact (Kd.R_reads' HO104.out).2.1); rintro e w8 ⟨v106, rfl, ho0, hb⟩; have n0_ := am (Kd.R_below aq17 hb); have n1_ := am (Kd.S_lower (Kd.S_new' ho0 (Kd.R_lt aq17)) (below_size aq1)); have n2_ := am (below_step aq1 hb); clear HO104; clear HB; have HO104 := n0_; have HO107 := n1_; have HB := n2_; clear n0_ n1_ n2_; (try clear hb); (try clear hb2); (try clear hk); (try clear hi); (try clear ho0); obtain ⟨Ao9, co9, eo9⟩ := Kd.S_slice HO107.out; subst eo9))
  repeat (go_quiet (fail); try go_wp2_with (first | (go_at_call 67; (with_reducible refine (spec_mcAsked.calls k a0 a1 t101 true _ A3.out).mono ?_); rintro e w6 ⟨v103, rfl, ho0, hb⟩; have n0_ := am (Kd.R_lower ho0 (below_size aq1)); have n1_ := am (below_step aq1 hb); clear HB; have HO104 := n0_; have HB := n1_; clear n0_ n1_; (try clear hb); (try clear hb2); (try clear hk); (try clear hi); (try clear ho0); obtain ⟨Ao7, co7, eo7⟩ := Kd.R_slice HO104.out; subst eo7) | (go_at_call 68; (with_reducible refine (spec_mcCycles.calls k _ _ t101 t105 _ ?side1 ?side2 A5.out).mono ?_); (case side1 => exact aq51); (case side2 => exact (Kd.R_reads' HO104.out).2.1); rintro e w8 ⟨v106, rfl, ho0, hb⟩; have n0_ := am (Kd.R_below aq17 hb); have n1_ := am (Kd.S_lower (Kd.S_new' ho0 (Kd.R_lt aq17)) (below_size aq1)); have n2_ := am (below_step aq1 hb); clear HO104; clear HB; have HO104 := n0_; have HO107 := n1_; have HB := n2_; clear n0_ n1_ n2_; (try clear hb); (try clear hb2); (try clear hk); (try clear hi); (try clear ho0); obtain ⟨Ao9, co9, eo9⟩ := Kd.S_slice HO107.out; subst eo9)))
  go_loopg [8, 24] k (fun kq v8 v24 w' => ∃ (x8_1 : Int) (x24_1 : Int), v8 = .int .i64 x8_1 ∧ v24 = .int .i64 x24_1 ∧ Aside0 (spec_OrderOfWord.l0 kq x8_1 t105 (t105.length : Int) x24_1 = some (r1, r2)) ∧ Aside0 (kq ≤ k) ∧ Aside0 (Kd.S (Kd.slice 3 (Kd.int .i64)) 28 w' w.heap.size (fun _ => True) (.slice Ao9 t105.length co9) t105) ∧ Aside0 (Below w.heap.size w w'))
  case atStart => exact ⟨(1), (0), aq6, aq6, H', ⟨Nat.le_refl _⟩, ⟨aq114⟩, ⟨aq1⟩⟩
  case round =>
   clear H'
   try clear c2
   try clear p2
   try clear c4
   obtain ⟨x8_1, x24_1, rfl, rfl, HA, HK1, HO_22, HB⟩ := hrel
   cases gk with
   | zero => exact absurd HA.out (by simp [spec_OrderOfWord.l0])
   | succ k1 =>
    have H := HA.out
    clear HA
    simp only [spec_OrderOfWord.l0] at H
    by_cases c10 : x24_1 < (t105.length : Int)
    ·rw [if_pos c10] at H
     have c10b0 : decide (x24_1 < (t105.length : Int)) = true := decide_eq_true c10
     clear c10
     by_cases c11 : 0 ≤ x24_1
     ·rw [if_pos c11] at H
      have c11b0 : decide (0 ≤ x24_1) = true := decide_eq_true c11
      clear c11
      by_cases c12 : x24_1 < (t105.length : Int)
      ·rw [if_pos c12] at H
       have c12b0 : decide (x24_1 < (t105.length : Int)) = true := decide_eq_true c12
       clear c12
       have H' := am H
       clear H
       have p108 : 0 ≤ (x24_1 : Int) := of_decide_eq_true aq5
       have q108 : x24_1 < (t105.length : Int) := of_decide_eq_true aq5
       obtain ⟨ad108, A108_0, c108_0, e108, hx108_0, hl108_0, hi108_0⟩ := at_L3 (Kd.S_reads' HO_22.out).2.2 x24_1 p108 q108
       cases e108
       obtain ⟨ce108, hce108, hMe108, hcc108⟩ := Kd.S_get HO_22.out [] x24_1 p108 (by first | exact q108 | exact of_decide_eq_true aq5 | (have e_ := (Kd.S_reads' HO_22.out).1; omega))
       obtain ⟨ve108_0, rfl, ge108_0⟩ := hMe108
       have hv108_0 := hcc108 0 _ rfl
       rw [Nat.add_zero, show ((Kd.slice 3 (Kd.int .i64))).sz = 1 from rfl, Nat.mul_one] at hv108_0
       replace hv108_0 := Option.some.inj (hv108_0.symm.trans hx108_0)
       rw [hv108_0] at ge108_0
       have HL108_0 := am (show Kd.R (Kd.int .i64) 3 _ _ _ _ (rd_L3 t105 x24_1) from ge108_0)
       clear hv108_0 ge108_0
       clear hcc108 hce108
       have HR108_0 := am hi108_0
       have HC108_0 := am hl108_0
       clear hi108_0 hl108_0
       replace p108 := eq_true p108
       replace q108 := eq_true q108
       go_wp2
       repeat (go_quiet (fail); try go_wp2)
       go_loopg [11, 12] k1 (fun kq v11 v12 w' => ∃ (x11_2 : Int) (x12_2 : Int), v11 = .int .i64 x11_2 ∧ v12 = .int .i64 x12_2 ∧ Aside0 (spec_OrderOfWord.l1 kq x8_1 (rd_L3 t105 x24_1) x11_2 x12_2 t105 (t105.length : Int) x24_1 = some (r1, r2)) ∧ Aside0 (kq ≤ k1) ∧ Aside0 (Kd.S (Kd.slice 3 (Kd.int .i64)) 28 w' w.heap.size (fun _ => True) (.slice (some ad108) t105.length co9) t105) ∧ Aside0 (Kd.C (Kd.int .i64) w' A108_0 (rd_L3 t105 x24_1).length (rd_L3 t105 x24_1)) ∧ Aside0 (Below w.heap.size w w'))
       case atStart => exact ⟨(x8_1), (((rd_L3 t105 x24_1).length : Int)), aq6, aq6, H', ⟨Nat.le_refl _⟩, ⟨aq93⟩, ⟨aq62⟩, ⟨aq1⟩⟩
       case round =>
        clear H'
        try clear c1
        try clear p1
        try clear q1
        try clear hx1
        try clear c2
        try clear p2
        try clear c4
        try clear c10
        try clear c10b0
        try clear p10
        try clear q10
        try clear hx10
        try clear c11
        try clear c11b0
        try clear c12
        try clear c12b0
        try clear hx108_0
        try clear p108
        try clear p2
        try clear q108
        obtain ⟨x11_2, x12_2, rfl, rfl, HA, HK2, HO_22, HR108_0, HB⟩ := hrel
        cases gk with
        | zero => exact absurd HA.out (by simp [spec_OrderOfWord.l1])
        | succ k2 =>
         have H := HA.out
         clear HA
         simp only [spec_OrderOfWord.l1] at H
         by_cases c13 : x12_2 > 0
         ·rw [if_pos c13] at H
          have c13b0 : decide (0 < x12_2) = true := decide_eq_true c13
          clear c13
          by_cases c14 : x12_2 = 0
          ·rw [if_pos c14] at H
           exact absurd H (by simp)
          ·rw [if_neg c14] at H
           have c14b0 : (x12_2 == 0) = false := beq_eq_false_iff_ne.mpr c14
           have c14b1 : (x12_2 != 0) = true := bne_iff_ne.mpr c14
           have H' := am H
           clear H
           go_wp2
           repeat (go_quiet (fail); try go_wp2)
           go_roundg k2
           case measure => have := HK1.out; have := HK2.out; omega
           case rel => exact ⟨(x12_2), (Int.tmod x11_2 x12_2), aq6, aq6, H', ⟨aq38⟩, ⟨aq93⟩, ⟨aq62⟩, ⟨aq1⟩⟩
         ·rw [if_neg c13] at H
          have c13b0 : decide (0 < x12_2) = false := decide_eq_false c13
          clear c13
          by_cases c15 : x11_2 = 0
          ·rw [if_pos c15] at H
           exact absurd H (by simp)
          ·rw [if_neg c15] at H
           have c15b0 : (x11_2 == 0) = false := beq_eq_false_iff_ne.mpr c15
           have c15b1 : (x11_2 != 0) = true := bne_iff_ne.mpr c15
           have H' := am H
           clear H
           go_wp2
           repeat (go_quiet (fail); try go_wp2)
           go_roundg k2
           case measure => have := HK1.out; have := HK2.out; omega
           case rel => exact ⟨(wrap64 ((wrap64 (Int.tdiv x8_1 x11_2)) * ((rd_L3 t105 x24_1).length : Int))), (wrap64 (x24_1 + 1)), aq6, aq6, H', ⟨aq38⟩, ⟨aq93⟩, ⟨aq1⟩⟩
      ·rw [if_neg c12] at H
       exact absurd H (by simp)
     ·rw [if_neg c11] at H
      exact absurd H (by simp)
    ·rw [if_neg c10] at H
     have c10b0 : decide (x24_1 < (t105.length : Int)) = false := decide_eq_false c10
     clear c10
     simp only [Option.some.injEq, Prod.mk.injEq] at H
     obtain ⟨rfl, rfl⟩ := H
     go_wp2
     repeat (go_quiet (fail); try go_wp2)
     go_ret2
     exact ⟨aq7, aq1⟩
 ·replace c4 := Bool.eq_false_iff.mpr c4
  subst c4
  have H1 : (some (0, false)) = some (r1, r2) := by rw [if_neg (show ¬ (false = true) by decide)] at H; exact H
  clear H
  have H := H1
  clear H1
  simp only [Option.some.injEq, Prod.mk.injEq] at H
  obtain ⟨rfl, rfl⟩ := H
  go_enter Tryz.func28, Tryz.ntmps28
  go_wp2_with (first | (go_at_call 67; (with_reducible refine (spec_mcAsked.calls k a0 a1 t101 false _ A3.out).mono ?_); rintro e w16 ⟨v103, rfl, ho0, hb⟩; have n0_ := am (Kd.R_lower ho0 (below_size aq1)); have n1_ := am (below_step aq1 hb); clear HB; have HO104 := n0_; have HB := n1_; clear n0_ n1_; (try clear hb); (try clear hb2); (try clear hk); (try clear hi); (try clear ho0)))
  repeat (go_quiet (fail); try go_wp2_with (first | (go_at_call 67; (with_reducible refine (spec_mcAsked.calls k a0 a1 t101 false _ A3.out).mono ?_); rintro e w16 ⟨v103, rfl, ho0, hb⟩; have n0_ := am (Kd.R_lower ho0 (below_size aq1)); have n1_ := am (below_step aq1 hb); clear HB; have HO104 := n0_; have HB := n1_; clear n0_ n1_; (try clear hb); (try clear hb2); (try clear hk); (try clear hi); (try clear ho0))))
  go_ret2
  exact ⟨aq7, aq1⟩
def impl_common.l0 : Nat → Int → Int → Option (Int)
 | 0, _, _ => none
 | k + 1, x0, x1 => if x1 > 0 then (if x1 = 0 then (none) else (impl_common.l0 k x1 (Int.tmod x0 x1))) else (some x0)
def impl_common.f (k : Nat) (a0 : Int) (a1 : Int) : Option (Int) := impl_common.l0 k a0 a1
theorem impl_common.mono_l : ∀ k, (∀ y0 y1, LeO (impl_common.l0 k y0 y1) (impl_common.l0 (k + 1) y0 y1))
 | 0 => fun _ _ r h => by simp [impl_common.l0] at h
 | k + 1 => by
  have ih0 := impl_common.mono_l k
  ·intro y0 y1
   unfold impl_common.l0
   exact mo
theorem impl_common.mono : ∀ a0 a1 k, LeO (impl_common.f k a0 a1) (impl_common.f (k + 1) a0 a1) := by
 intro a0 a1 k
 have ih0 := impl_common.mono_l k
 unfold impl_common.f
 exact mo
set_option maxHeartbeats 8000000 in
set_option maxRecDepth 100000 in
theorem impl_common.calls (k : Nat) (a0 : Int) (a1 : Int) (r : Int) (w : World) (h : impl_common.f k a0 a1 = some r) :
  Calls Tryz.prog 70 #[.int .i64 a0, .int .i64 a1] w fun e w' => e = .returned (.int .i64 r) ∧ Drawn0 w w' := by
 have H : (impl_common.l0 k a0 a1) = some r := h
 clear h
 have H' := am H
 clear H
 go_enter Tryz.func70, Tryz.ntmps70
 go_wp2
 repeat (go_quiet (fail); try go_wp2)
 go_loopg [0, 1] k (fun kq v0 v1 w' => ∃ (x0_1 : Int) (x1_1 : Int), v0 = .int .i64 x0_1 ∧ v1 = .int .i64 x1_1 ∧ Aside0 (impl_common.l0 kq x0_1 x1_1 = some r) ∧ Aside0 (kq ≤ k) ∧ Drawn0 w w')
 case atStart => exact ⟨(a0), (a1), aq6, aq6, H', ⟨Nat.le_refl _⟩, aq15⟩
 case round =>
  clear H'
  try clear p2
  obtain ⟨x0_1, x1_1, rfl, rfl, HA, HK1, ⟨m1, rfl⟩⟩ := hrel
  cases gk with
  | zero => exact absurd HA.out (by simp [impl_common.l0])
  | succ k1 =>
   have H := HA.out
   clear HA
   simp only [impl_common.l0] at H
   by_cases c3 : x1_1 > 0
   ·rw [if_pos c3] at H
    have c3b0 : decide (0 < x1_1) = true := decide_eq_true c3
    clear c3
    by_cases c4 : x1_1 = 0
    ·rw [if_pos c4] at H
     exact absurd H (by simp)
    ·rw [if_neg c4] at H
     have c4b0 : (x1_1 == 0) = false := beq_eq_false_iff_ne.mpr c4
     have c4b1 : (x1_1 != 0) = true := bne_iff_ne.mpr c4
     have H' := am H
     clear H
     go_wp2
     repeat (go_quiet (fail); try go_wp2)
     go_roundg k1
     case measure => have := HK1.out; omega
     case rel => exact ⟨(x1_1), (Int.tmod x0_1 x1_1), aq6, aq6, H', ⟨aq65⟩, aq15⟩
   ·rw [if_neg c3] at H
    have c3b0 : decide (0 < x1_1) = false := decide_eq_false c3
    clear c3
    obtain rfl := Option.some.inj H
    go_wp2
    repeat (go_quiet (fail); try go_wp2)
    go_ret
    exact ⟨aq6, aq15⟩
def impl_OrderOfWord.l0 : Nat → Int → List (List Int) → Int → Int → Option (Int × Bool)
 | 0, _, _, _, _ => none
 | k + 1, x8, x19, x20, x21 => if x21 < x20 then (if 0 ≤ x21 then (if x21 < (x19.length : Int) then ((impl_common.f k x8 ((rd_L3 x19 x21).length : Int)).bind fun t106 => (if t106 = 0 then (none) else (impl_OrderOfWord.l0 k (wrap64 ((wrap64 (Int.tdiv x8 t106)) * ((rd_L3 x19 x21).length : Int))) x19 x20 (wrap64 (x21 + 1))))) else (none)) else (none)) else (some (x8, true))
def impl_OrderOfWord.f (k : Nat) (a0 : ByteArray) (a1 : ByteArray) : Option (Int × Bool) := (impl_CyclesOfWord.f k a0 a1).bind fun bt101 => (if bt101.2 = true then (impl_OrderOfWord.l0 k 1 bt101.1 (bt101.1.length : Int) 0) else (some (0, false)))
theorem impl_OrderOfWord.mono_l : ∀ k, (∀ y0 y1 y2 y3, LeO (impl_OrderOfWord.l0 k y0 y1 y2 y3) (impl_OrderOfWord.l0 (k + 1) y0 y1 y2 y3))
 | 0 => fun _ _ _ _ r h => by simp [impl_OrderOfWord.l0] at h
 | k + 1 => by
  have ih0 := impl_OrderOfWord.mono_l k
  ·intro y0 y1 y2 y3
   unfold impl_OrderOfWord.l0
   have im0 := @impl_CyclesOfWord.mono; have im1 := @impl_common.mono; exact mo
set_option maxHeartbeats 8000000 in
set_option maxRecDepth 100000 in
theorem impl_OrderOfWord.calls (k : Nat) (a0 : ByteArray) (a1 : ByteArray) (r1 : Int) (r2 : Bool) (w : World) (h : impl_OrderOfWord.f k a0 a1 = some (r1, r2)) :
  Calls Tryz.prog 29 #[.string a0, .string a1] w fun e w' => e = .returned (.tuple #[.int .i64 r1, .bool r2]) ∧ Below w.heap.size w w' := by
 have HB := am (Below.refl w.heap.size w)
 have H : ((impl_CyclesOfWord.f k a0 a1).bind fun bt101 => (if bt101.2 = true then (impl_OrderOfWord.l0 k 1 bt101.1 (bt101.1.length : Int) 0) else (some (0, false)))) = some (r1, r2) := h
 clear h
 replace H := Option.bind_eq_some_iff.mp H
 obtain ⟨⟨t101, t102⟩, A30, H⟩ := H
 replace H : (if t102 = true then (impl_OrderOfWord.l0 k 1 t101 (t101.length : Int) 0) else (some (0, false))) = some (r1, r2) := H
 have A3 := am A30
 clear A30
 by_cases c4 : t102 = true
 ·subst c4
  have H1 : (impl_OrderOfWord.l0 k 1 t101 (t101.length : Int) 0) = some (r1, r2) := by rw [if_pos rfl] at H; exact H
  clear H
  have H := H1
  clear H1
  have H' := am H
  clear H
  go_enter Tryz.func29, Tryz.ntmps29
  go_wp2_with (first | ((with_reducible refine gate_callee (f := 33) rfl ?_); refine goesL_ (some 14) rfl rfl Tryz.func33 (by kernel_rfl) rfl #[.string a0, .string a1] rfl aq4 ?_; (with_reducible refine (impl_CyclesOfWord.calls k a0 a1 t101 true _ A3.out).mono ?_); rintro e w5 ⟨v103, rfl, ho0, hb⟩; refine ⟨_, rfl, ?_⟩; have n0_ := am (Kd.S_lower ho0 (below_size aq1)); have n1_ := am (below_step aq1 hb); clear HB; have HO104 := n0_; have HB := n1_; clear n0_ n1_; (try clear hb); (try clear hb2); (try clear hk); (try clear hi); (try clear ho0); obtain ⟨Ao6, co6, eo6⟩ := Kd.S_slice HO104.out; subst eo6))
  go_loopg [8, 21] k (fun kq v8 v21 w' => ∃ (x8_1 : Int) (x21_1 : Int), v8 = .int .i64 x8_1 ∧ v21 = .int .i64 x21_1 ∧ Aside0 (impl_OrderOfWord.l0 kq x8_1 t101 (t101.length : Int) x21_1 = some (r1, r2)) ∧ Aside0 (kq ≤ k) ∧ Aside0 (Kd.S (Kd.slice 3 (Kd.int .i64)) 28 w' w.heap.size (fun _ => True) (.slice Ao6 t101.length co6) t101) ∧ Aside0 (Below w.heap.size w w'))
  case atStart => exact ⟨(1), (0), aq6, aq6, H', ⟨Nat.le_refl _⟩, ⟨aq45⟩, ⟨aq1⟩⟩
  case round =>
   clear H'
   try clear c2
   try clear p2
   try clear c3
   try clear c4
   obtain ⟨x8_1, x21_1, rfl, rfl, HA, HK1, HO_19, HB⟩ := hrel
   cases gk with
   | zero => exact absurd HA.out (by simp [impl_OrderOfWord.l0])
   | succ k1 =>
    have H := HA.out
    clear HA
    simp only [impl_OrderOfWord.l0] at H
    by_cases c7 : x21_1 < (t101.length : Int)
    ·rw [if_pos c7] at H
     have c7b0 : decide (x21_1 < (t101.length : Int)) = true := decide_eq_true c7
     clear c7
     by_cases c8 : 0 ≤ x21_1
     ·rw [if_pos c8] at H
      have c8b0 : decide (0 ≤ x21_1) = true := decide_eq_true c8
      clear c8
      by_cases c9 : x21_1 < (t101.length : Int)
      ·rw [if_pos c9] at H
       have c9b0 : decide (x21_1 < (t101.length : Int)) = true := decide_eq_true c9
       clear c9
       replace H := Option.bind_eq_some_iff.mp H
       obtain ⟨t106, A100, H⟩ := H
       replace H : (if t106 = 0 then (none) else (impl_OrderOfWord.l0 k1 (wrap64 ((wrap64 (Int.tdiv x8_1 t106)) * ((rd_L3 t101 x21_1).length : Int))) t101 (t101.length : Int) (wrap64 (x21_1 + 1)))) = some (r1, r2) := H
       have A10 := am A100
       clear A100
       by_cases c11 : t106 = 0
       ·rw [if_pos c11] at H
        exact absurd H (by simp)
       ·rw [if_neg c11] at H
        have c11b0 : (t106 == 0) = false := beq_eq_false_iff_ne.mpr c11
        have c11b1 : (t106 != 0) = true := bne_iff_ne.mpr c11
        have H' := am H
        clear H
        have p105 : 0 ≤ (x21_1 : Int) := of_decide_eq_true aq5
        have q105 : x21_1 < (t101.length : Int) := of_decide_eq_true aq5
        obtain ⟨ad105, A105_0, c105_0, e105, hx105_0, hl105_0, hi105_0⟩ := at_L3 (Kd.S_reads' HO_19.out).2.2 x21_1 p105 q105
        cases e105
        obtain ⟨ce105, hce105, hMe105, hcc105⟩ := Kd.S_get HO_19.out [] x21_1 p105 (by first | exact q105 | exact of_decide_eq_true aq5 | (have e_ := (Kd.S_reads' HO_19.out).1; omega))
        obtain ⟨ve105_0, rfl, ge105_0⟩ := hMe105
        have hv105_0 := hcc105 0 _ rfl
        rw [Nat.add_zero, show ((Kd.slice 3 (Kd.int .i64))).sz = 1 from rfl, Nat.mul_one] at hv105_0
        replace hv105_0 := Option.some.inj (hv105_0.symm.trans hx105_0)
        rw [hv105_0] at ge105_0
        have HL105_0 := am (show Kd.R (Kd.int .i64) 3 _ _ _ _ (rd_L3 t101 x21_1) from ge105_0)
        clear hv105_0 ge105_0
        clear hcc105 hce105
        have HR105_0 := am hi105_0
        have HC105_0 := am hl105_0
        clear hi105_0 hl105_0
        replace p105 := eq_true p105
        replace q105 := eq_true q105
        go_wp2_with (first | ((with_reducible refine gate_callee (f := 70) rfl ?_); refine goesL_ (some 29) rfl rfl Tryz.func70 (by kernel_rfl) rfl #[.int .i64 x8_1, .int .i64 ((rd_L3 t101 x21_1).length : Int)] rfl aq4 ?_; (with_reducible refine (impl_common.calls k1 x8_1 ((rd_L3 t101 x21_1).length : Int) t106 _ A10.out).mono ?_); rintro e w' ⟨rfl, ⟨nd, rfl⟩⟩; refine ⟨_, rfl, ?_⟩))
        go_roundg k1
        case measure => have := HK1.out; omega
        case rel => exact ⟨(wrap64 ((wrap64 (Int.tdiv x8_1 t106)) * ((rd_L3 t101 x21_1).length : Int))), (wrap64 (x21_1 + 1)), aq6, aq6, H', ⟨aq65⟩, ⟨by (with_reducible repeat (first | apply Kd.S_alloc | apply Kd.S_drewN | apply Kd.S_drew)); exact HO_19.out⟩, ⟨aq1⟩⟩
      ·rw [if_neg c9] at H
       exact absurd H (by simp)
     ·rw [if_neg c8] at H
      exact absurd H (by simp)
    ·rw [if_neg c7] at H
     have c7b0 : decide (x21_1 < (t101.length : Int)) = false := decide_eq_false c7
     clear c7
     simp only [Option.some.injEq, Prod.mk.injEq] at H
     obtain ⟨rfl, rfl⟩ := H
     go_wp2
     go_ret2
     exact ⟨aq7, aq1⟩
 ·replace c4 := Bool.eq_false_iff.mpr c4
  subst c4
  have H1 : (some (0, false)) = some (r1, r2) := by rw [if_neg (show ¬ (false = true) by decide)] at H; exact H
  clear H
  have H := H1
  clear H1
  simp only [Option.some.injEq, Prod.mk.injEq] at H
  obtain ⟨rfl, rfl⟩ := H
  go_enter Tryz.func29, Tryz.ntmps29
  go_wp2_with (first | ((with_reducible refine gate_callee (f := 33) rfl ?_); refine goesL_ (some 14) rfl rfl Tryz.func33 (by kernel_rfl) rfl #[.string a0, .string a1] rfl aq4 ?_; (with_reducible refine (impl_CyclesOfWord.calls k a0 a1 t101 false _ A3.out).mono ?_); rintro e w12 ⟨v103, rfl, ho0, hb⟩; refine ⟨_, rfl, ?_⟩; have n0_ := am (Kd.S_lower ho0 (below_size aq1)); have n1_ := am (below_step aq1 hb); clear HB; have HO104 := n0_; have HB := n1_; clear n0_ n1_; (try clear hb); (try clear hb2); (try clear hk); (try clear hi); (try clear ho0)))
  go_ret2
  exact ⟨aq7, aq1⟩
def laws_FnExactOrderOfWord.f (k : Nat) (a0 : ByteArray) (a1 : ByteArray) : Option (Bool) := if (a0.size : Int) > 1048576 then (some true) else (if (a1.size : Int) > 1048576 then (some true) else ((spec_OrderOfWord.f k a0 a1).bind fun bt101 => ((impl_OrderOfWord.f k a0 a1).bind fun bt103 => (if bt103.1 = bt101.1 then (if (bt103.2 != bt101.2) = true then (some false) else (some true)) else (some false)))))
set_option maxHeartbeats 8000000 in
set_option maxRecDepth 100000 in
theorem laws_FnExactOrderOfWord.calls (k : Nat) (a0 : ByteArray) (a1 : ByteArray) (r : Bool) (w : World) (h : laws_FnExactOrderOfWord.f k a0 a1 = some r) :
  Calls Tryz.prog 6 #[.string a0, .string a1] w fun e w' => e = .returned (.bool r) ∧ Below w.heap.size w w' := by
 have HB := am (Below.refl w.heap.size w)
 have H : (if (a0.size : Int) > 1048576 then (some true) else (if (a1.size : Int) > 1048576 then (some true) else ((spec_OrderOfWord.f k a0 a1).bind fun bt101 => ((impl_OrderOfWord.f k a0 a1).bind fun bt103 => (if bt103.1 = bt101.1 then (if (bt103.2 != bt101.2) = true then (some false) else (some true)) else (some false)))))) = some r := h
 clear h
 by_cases c3 : (a0.size : Int) > 1048576
 ·rw [if_pos c3] at H
  have c3b0 : decide (1048576 < (a0.size : Int)) = true := decide_eq_true c3
  have c3b1 : decide (1048576 < a0.size) = true := decide_eq_true (by omega)
  clear c3
  obtain rfl := Option.some.inj H
  go_enter Tryz.func6, Tryz.ntmps6
  go_wp2
  go_ret
  exact ⟨aq7, aq1⟩
 ·rw [if_neg c3] at H
  have c3b0 : decide (1048576 < (a0.size : Int)) = false := decide_eq_false c3
  have c3b1 : decide (1048576 < a0.size) = false := decide_eq_false (by omega)
  clear c3
  by_cases c4 : (a1.size : Int) > 1048576
  ·rw [if_pos c4] at H
   have c4b0 : decide (1048576 < (a1.size : Int)) = true := decide_eq_true c4
   have c4b1 : decide (1048576 < a1.size) = true := decide_eq_true (by omega)
   clear c4
   obtain rfl := Option.some.inj H
   go_enter Tryz.func6, Tryz.ntmps6
   go_wp2
   go_ret
   exact ⟨aq7, aq1⟩
  ·rw [if_neg c4] at H
   have c4b0 : decide (1048576 < (a1.size : Int)) = false := decide_eq_false c4
   have c4b1 : decide (1048576 < a1.size) = false := decide_eq_false (by omega)
   clear c4
   replace H := Option.bind_eq_some_iff.mp H
   obtain ⟨⟨t101, t102⟩, A50, H⟩ := H
   replace H : ((impl_OrderOfWord.f k a0 a1).bind fun bt103 => (if bt103.1 = t101 then (if (bt103.2 != t102) = true then (some false) else (some true)) else (some false))) = some r := H
   have A5 := am A50
   clear A50
   replace H := Option.bind_eq_some_iff.mp H
   obtain ⟨⟨t103, t104⟩, A60, H⟩ := H
   replace H : (if t103 = t101 then (if (t104 != t102) = true then (some false) else (some true)) else (some false)) = some r := H
   have A6 := am A60
   clear A60
   by_cases c7 : t103 = t101
   ·rw [if_pos c7] at H
    have c7b0 : (t103 == t101) = true := beq_iff_eq.mpr c7
    have c7b1 : (t103 != t101) = false := bne_eq_false_iff_eq.mpr c7
    clear c7
    by_cases c8 : (t104 != t102) = true
    ·rw [if_pos c8] at H
     have c8b0 : (t104 != t102) = true := c8
     (try (have c8b1 : decide (t104 = t102) = false := by simpa using c8))
     (try (have c8b2 : (t104 == t102) = false := by simpa using c8))
     (try (have c8b3 : ¬ (t104 = t102) := by simpa using c8))
     clear c8
     obtain rfl := Option.some.inj H
     go_enter Tryz.func6, Tryz.ntmps6
     go_wp2_with (first | ((with_reducible refine gate_callee (f := 28) rfl ?_); refine goesL_ (some 18) rfl rfl Tryz.func28 (by kernel_rfl) rfl #[.string a0, .string a1] rfl aq4 ?_; (with_reducible refine (spec_OrderOfWord.calls k a0 a1 t101 t102 _ A5.out).mono ?_); rintro e w9 ⟨rfl, hb⟩; refine ⟨_, rfl, ?_⟩; have n0_ := am (below_step aq1 hb); clear HB; have HB := n0_; clear n0_; (try clear hb); (try clear hb2); (try clear hk); (try clear hi)) | ((with_reducible refine gate_callee (f := 29) rfl ?_); refine goesL_ (some 24) rfl rfl Tryz.func29 (by kernel_rfl) rfl #[.string a0, .string a1] rfl aq4 ?_; (with_reducible refine (impl_OrderOfWord.calls k a0 a1 t103 t104 _ A6.out).mono ?_); rintro e w10 ⟨rfl, hb⟩; refine ⟨_, rfl, ?_⟩; have n0_ := am (below_step aq1 hb); clear HB; have HB := n0_; clear n0_; (try clear hb); (try clear hb2); (try clear hk); (try clear hi)))
     go_ret
     exact ⟨aq7, aq1⟩
    ·rw [if_neg c8] at H
     have c8b0 : (t104 != t102) = false := by simpa using c8
     (try (have c8b1 : decide (t104 = t102) = true := by simpa using c8))
     (try (have c8b2 : (t104 == t102) = true := by simpa using c8))
     clear c8
     obtain rfl := Option.some.inj H
     go_enter Tryz.func6, Tryz.ntmps6
     go_wp2_with (first | ((with_reducible refine gate_callee (f := 28) rfl ?_); refine goesL_ (some 18) rfl rfl Tryz.func28 (by kernel_rfl) rfl #[.string a0, .string a1] rfl aq4 ?_; (with_reducible refine (spec_OrderOfWord.calls k a0 a1 t101 t102 _ A5.out).mono ?_); rintro e w11 ⟨rfl, hb⟩; refine ⟨_, rfl, ?_⟩; have n0_ := am (below_step aq1 hb); clear HB; have HB := n0_; clear n0_; (try clear hb); (try clear hb2); (try clear hk); (try clear hi)) | ((with_reducible refine gate_callee (f := 29) rfl ?_); refine goesL_ (some 24) rfl rfl Tryz.func29 (by kernel_rfl) rfl #[.string a0, .string a1] rfl aq4 ?_; (with_reducible refine (impl_OrderOfWord.calls k a0 a1 t103 t104 _ A6.out).mono ?_); rintro e w12 ⟨rfl, hb⟩; refine ⟨_, rfl, ?_⟩; have n0_ := am (below_step aq1 hb); clear HB; have HB := n0_; clear n0_; (try clear hb); (try clear hb2); (try clear hk); (try clear hi)))
     go_ret
     exact ⟨aq7, aq1⟩
   ·rw [if_neg c7] at H
    have c7b0 : (t103 == t101) = false := beq_eq_false_iff_ne.mpr c7
    have c7b1 : (t103 != t101) = true := bne_iff_ne.mpr c7
    obtain rfl := Option.some.inj H
    go_enter Tryz.func6, Tryz.ntmps6
    go_wp2_with (first | ((with_reducible refine gate_callee (f := 28) rfl ?_); refine goesL_ (some 18) rfl rfl Tryz.func28 (by kernel_rfl) rfl #[.string a0, .string a1] rfl aq4 ?_; (with_reducible refine (spec_OrderOfWord.calls k a0 a1 t101 t102 _ A5.out).mono ?_); rintro e w13 ⟨rfl, hb⟩; refine ⟨_, rfl, ?_⟩; have n0_ := am (below_step aq1 hb); clear HB; have HB := n0_; clear n0_; (try clear hb); (try clear hb2); (try clear hk); (try clear hi)) | ((with_reducible refine gate_callee (f := 29) rfl ?_); refine goesL_ (some 24) rfl rfl Tryz.func29 (by kernel_rfl) rfl #[.string a0, .string a1] rfl aq4 ?_; (with_reducible refine (impl_OrderOfWord.calls k a0 a1 t103 t104 _ A6.out).mono ?_); rintro e w14 ⟨rfl, hb⟩; refine ⟨_, rfl, ?_⟩; have n0_ := am (below_step aq1 hb); clear HB; have HB := n0_; clear n0_; (try clear hb); (try clear hb2); (try clear hk); (try clear hi)))
    go_ret
    exact ⟨aq7, aq1⟩
end Go.Proofs.YtdffgeoegdkiaaaGreatDoor.F

namespace Go.Proofs.YtdffgeoegdkiaaaGreatDoor.F
open Go.RowKit Go.Proofs.YtdffgeoegdkiaaaGreatDoor Go.Proofs.YtdffgeoegdkiaaaGreatDoorW.PrintWords Go.Proofs.YtdffgeoegdkiaaaGreatDoorW.PrintMore
set_option linter.unusedVariables false
set_option linter.unusedSimpArgs false
theorem cycOk_lenO {R : List (List Int)} {m : Nat} (h : CycOk R m) : R.length ≤ m := by
  obtain ⟨h1, h2⟩ := h
  refine Nat.le_trans ?_ h2
  clear h2
  induction R with
  | nil => simp
  | cons a C ih =>
    have := ih (fun c hc => h1 c (List.mem_cons_of_mem _ hc))
    have := h1 a List.mem_cons_self
    simp only [List.flatten_cons, List.length_append, List.length_cons]; omega
theorem gcd_ev : ∀ (m : Nat) (a b : Int), b.toNat ≤ m → (0 < b ∨ 0 < a) → ∃ g : Int, g ≠ 0 ∧ Ev (fun k => impl_common.l0 k a b) g ∧
    ∀ (x8 : Int) (row : List Int) (C : List (List Int)) (n i : Int) (R : Int × Bool), Ev (fun k => spec_OrderOfWord.l0 k (wrap64 (wrap64 (Int.tdiv x8 g) * (row.length : Int))) C n (wrap64 (i + 1))) R → Ev (fun k => spec_OrderOfWord.l1 k x8 row a b C n i) R := by
  intro m
  induction m with
  | zero =>
    intro a b hb hab
    have hb0 : ¬ b > 0 := by omega
    have ha : a ≠ 0 := by omega
    refine ⟨a, ha, Ev.step (f := fun _ => some a) (fun k => by rw [impl_common.l0, if_neg hb0]) (Ev.now _), fun x8 row C n i R h => Ev.step (fun k => ?_) h⟩
    rw [spec_OrderOfWord.l1, if_neg hb0, if_neg ha]
  | succ m ih =>
    intro a b hb hab
    by_cases hb0 : b > 0
    · have hlt := Int.tmod_lt_of_pos a (show 0 < b from hb0)
      have hbn : b ≠ 0 := by omega
      obtain ⟨g, hg, h1, h2⟩ := ih b (Int.tmod a b) (by generalize Int.tmod a b = z at hlt; omega) (.inr hb0)
      refine ⟨g, hg, Ev.step (fun k => by rw [impl_common.l0, if_pos hb0, if_neg hbn]) h1, fun x8 row C n i R h => Ev.step (fun k => ?_) (h2 x8 row C n i R h)⟩
      rw [spec_OrderOfWord.l1, if_pos hb0, if_neg hbn]
    · have ha : a ≠ 0 := by omega
      refine ⟨a, ha, Ev.step (f := fun _ => some a) (fun k => by rw [impl_common.l0, if_neg hb0]) (Ev.now _), fun x8 row C n i R h => Ev.step (fun k => ?_) h⟩
      rw [spec_OrderOfWord.l1, if_neg hb0, if_neg ha]
theorem order_l0 {C : List (List Int)} (hC : C.length ≤ 1000) (hne : ∀ c ∈ C, 1 ≤ c.length) : ∀ (n i : Nat) (x : Int), i + n = C.length →
    ∃ r, Ev (fun k => spec_OrderOfWord.l0 k x C (C.length : Int) (i : Int)) (r, true) ∧ Ev (fun k => impl_OrderOfWord.l0 k x C (C.length : Int) (i : Int)) (r, true)
  | 0, i, x, hi => ⟨x, Ev.step (f := fun _ => some (x, true)) (fun k => by rw [spec_OrderOfWord.l0, if_neg (by omega)]) (Ev.now _), Ev.step (f := fun _ => some (x, true)) (fun k => by rw [impl_OrderOfWord.l0, if_neg (by omega)]) (Ev.now _)⟩
  | n + 1, i, x, hi => by
    have hil : i < C.length := by omega
    have HW : Aside0 (wrap64 ((i : Int) + 1) = ((i + 1 : Nat) : Int)) := ⟨by rw [w64 (by omega) (by omega)]; rfl⟩
    have hrow : rd_L3 C (i : Int) = C[i]'hil := by
      show C.getD (i : Int).toNat [] = _
      rw [Int.toNat_natCast, List.getD_eq_getElem?_getD, List.getElem?_eq_getElem hil]; rfl
    have hl := hne _ (List.getElem_mem hil)
    rw [← hrow] at hl
    clear hrow
    obtain ⟨row, hrow⟩ : ∃ row, rd_L3 C (i : Int) = row := ⟨_, rfl⟩
    rw [hrow] at hl
    obtain ⟨g, hg, h1, h2⟩ := gcd_ev (row.length : Int).toNat x (row.length : Int) (Nat.le_refl _) (.inl (by omega))
    obtain ⟨r, q1, q2⟩ := order_l0 hC hne n (i + 1) (wrap64 (wrap64 (Int.tdiv x g) * (row.length : Int))) (by omega)
    refine ⟨r, Ev.step (fun k => ?_) (h2 x row C (C.length : Int) (i : Int) (r, true) (by rw [HW.out]; exact q1)), ?_⟩
    · rw [spec_OrderOfWord.l0, if_pos (by omega), if_pos (by omega), if_pos (by omega), hrow]
    · refine Ev.step (f := fun k => (impl_common.f k x (row.length : Int)).bind fun t106 => if t106 = 0 then none else impl_OrderOfWord.l0 k (wrap64 (wrap64 (Int.tdiv x t106) * (row.length : Int))) C (C.length : Int) ((i + 1 : Nat) : Int)) (fun k => ?_) (Ev.bind h1 (Ev.congr (fun k => if_neg hg) q2))
      rw [impl_OrderOfWord.l0, if_pos (by omega), if_pos (by omega), if_pos (by omega), hrow, HW.out]
theorem both_orders (t wd : ByteArray) (ht : t.size < 4294967281) : ∃ R : Int × Bool, Ev (fun k => spec_OrderOfWord.f k t wd) R ∧ Ev (fun k => impl_OrderOfWord.f k t wd) R := by
  obtain ⟨C, hok, hS, hI⟩ := both_cycles t wd ht
  have hP := spec_perm_ev t wd
  unfold spec_OrderOfWord.f impl_OrderOfWord.f
  by_cases hb : (permA t wd).2 = true
  · rw [if_pos hb] at hI
    obtain ⟨r, h1, h2⟩ := order_l0 (C := C) (by have := cycOk_lenO hok; omega) hok.1 C.length 0 1 (by omega)
    exact ⟨(r, true), Ev.bind hP (Ev.congr (fun k => if_pos hb) (Ev.bind hS h1)), Ev.bind hI (Ev.congr (fun k => if_pos hb) h2)⟩
  · exact ⟨(0, false), Ev.bind hP (Ev.congr (fun k => if_neg hb) (Ev.now _)), Ev.bind hI (Ev.congr (fun k => if_neg hb) (Ev.now _))⟩
theorem FnExactOrderOfWord (a b : ByteArray) (ha : a.size ≤ 9223372036854775807) (hb : b.size ≤ 9223372036854775807) : ∃ k, laws_FnExactOrderOfWord.f k a b = some true := by
  refine Ev.rounds (g := fun k => laws_FnExactOrderOfWord.f k a b) ?_
  unfold laws_FnExactOrderOfWord.f
  by_cases c0 : (a.size : Int) > 1048576
  · exact Ev.congr (fun k => if_pos c0) (Ev.now _)
  by_cases c1 : (b.size : Int) > 1048576
  · exact Ev.congr (fun k => by rw [if_neg c0, if_pos c1]) (Ev.now _)
  obtain ⟨R, hS, hI⟩ := both_orders a b (by omega)
  refine Ev.congr (fun k => by rw [if_neg c0, if_neg c1]) (Ev.bind hS (Ev.bind hI ?_))
  refine Ev.congr (fun k => by rw [if_pos rfl, bne_self_eq_false, if_neg Bool.false_ne_true]) (Ev.now _)
end Go.Proofs.YtdffgeoegdkiaaaGreatDoor.F
