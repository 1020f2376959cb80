/- The printed tyRead, IsTray and IsWord are the plain ones. -/
import Derived.Test.YtipjmlcbbimfpaaDoorCore
import Derived.Test.YtipjmlcbbimfpaaDoorPFnExactIsDeskx4
namespace Go.Proofs.YtipjmlcbbimfpaaDoor.PFnExactIsDesk
open Go.RowKit Go.Proofs.YtipjmlcbbimfpaaDoor Go.Proofs.YtipjmlcbbimfpaaDoorW.PrintWords Classical
set_option linter.unusedVariables false
set_option linter.unusedSimpArgs false

theorem spec_tyBall_eq (c : Int) : spec_tyBall.f c = some (isBallC c) := by
  unfold spec_tyBall.f isBallC isNameC
  by_cases h3 : c = 111
  · simp [h3]
  simp only [if_neg h3]
  by_cases h4 : c ≥ 97
  · simp [h3, h4]
  · simp [h3, h4]
theorem spec_tyIs_eq (c : Int) : spec_tyIs.f c = some (isCellC c) := by
  unfold spec_tyIs.f isCellC
  rw [spec_tyBall_eq]
  by_cases h1 : c = 35
  · simp [h1]
  by_cases h2 : c = 46
  · simp [h2]
  simp [h1, h2]

/-- tyRead's answer. -/
def ansT : Option (Nat × Nat × List Int) → Int × Int × List Int × Bool
  | none => (0, 0, [], false)
  | some (w, h, cs) => (w, h, cs, true)
def finT (w h : Nat) (cs : List Int) : Option (Nat × Nat × List Int) := if w ≤ 7 ∧ h ≤ 7 ∧ cs.length ≤ 36 ∧ namesOk cs then some (w, h, cs) else none

theorem tyRead_l2 (cs : List Int) (hl : cs.length ≤ 100) (w h : Int) (i : Nat) (hi : i < cs.length) (r : Int × Int × List Int × Bool)
    (hk : Ev (fun k => spec_tyRead.l1 k cs cs.length (i + 1 : Nat) w h cs) r) : ∀ (d j : Nat), j + d = i → 
    Ev (fun k => spec_tyRead.l2 k (rd cs i) cs cs.length i (cs.take i) ((cs.take i).length : Int) j w h cs)
      (if ∀ m, j ≤ m → m < i → cs.getD m 0 = cs.getD i 0 → isNameC (cs.getD i 0) = false then r else (0, 0, [], false)) := by
  have hti : (cs.take i).length = i := by rw [List.length_take]; omega
  intro d
  induction d with
  | zero =>
    intro j hj
    rw [if_pos (by intro m h1 h2; omega)]
    refine Ev.step (f := fun k => spec_tyRead.l1 k cs cs.length (i + 1 : Nat) w h cs) (fun k => ?_) hk
    rw [spec_tyRead.l2, hti, if_neg (by omega), w64 (by omega) (by omega)]
    rfl
  | succ d ih =>
    intro j hj
    have hih := ih (j + 1) (by omega)
    have hr : rd (cs.take i) j = cs.getD j 0 := by
      unfold rd
      rw [Int.toNat_natCast, List.getD_eq_getElem?_getD, List.getD_eq_getElem?_getD, List.getElem?_take, if_pos (by omega)]
    have hr2 : rd cs i = cs.getD i 0 := by unfold rd; rw [Int.toNat_natCast]
    have hw : wrap64 ((j : Int) + 1) = ((j + 1 : Nat) : Int) := by rw [w64 (by omega) (by omega)]; rfl
    by_cases he : cs.getD j 0 = cs.getD i 0
    · by_cases hn : isNameC (cs.getD i 0) = false
      · have hc : (∀ m, j ≤ m → m < i → cs.getD m 0 = cs.getD i 0 → isNameC (cs.getD i 0) = false) := fun _ _ _ _ => hn
        have hc2 : (∀ m, j + 1 ≤ m → m < i → cs.getD m 0 = cs.getD i 0 → isNameC (cs.getD i 0) = false) := fun _ _ _ _ => hn
        rw [if_pos hc]
        rw [if_pos hc2] at hih
        refine Ev.step (fun k => ?_) hih
        rw [spec_tyRead.l2, hti, if_pos (by omega), if_pos (by omega), if_pos (by omega), hr, hr2, if_pos he.symm, hw]
        have : ¬ (97 ≤ cs.getD i 0 ∧ cs.getD i 0 ≤ 102) := fun e => by rw [(isNameC_iff _).2 e] at hn; cases hn
        by_cases h97 : cs.getD i 0 ≥ 97
        · rw [if_pos h97, if_neg (by omega)]
        · rw [if_neg h97]
      · have hn2 : isNameC (cs.getD i 0) = true := by simpa using hn
        have h3 := (isNameC_iff _).1 hn2
        rw [if_neg (fun hc => hn (hc j (Nat.le_refl _) (by omega) he))]
        refine Ev.step (f := fun k => some (0, 0, [], false)) (fun k => ?_) (Ev.now _)
        rw [spec_tyRead.l2, hti, if_pos (by omega), if_pos (by omega), if_pos (by omega), hr, hr2, if_pos he.symm, if_pos (by omega), if_pos (by omega)]
    · have hc : (∀ m, j ≤ m → m < i → cs.getD m 0 = cs.getD i 0 → isNameC (cs.getD i 0) = false) ↔ (∀ m, j + 1 ≤ m → m < i → cs.getD m 0 = cs.getD i 0 → isNameC (cs.getD i 0) = false) := by
        constructor
        · intro hh m h1 h2; exact hh m (by omega) h2
        · intro hh m h1 h2 h3
          rcases Nat.lt_or_ge j m with h4 | h4
          · exact hh m h4 h2 h3
          · obtain rfl : m = j := by omega
            exact absurd h3 he
      simp only [hc]
      refine Ev.step (fun k => ?_) hih
      rw [spec_tyRead.l2, hti, if_pos (by omega), if_pos (by omega), if_pos (by omega), hr, hr2, if_neg (fun e => he e.symm), hw]

theorem tyRead_l1 (cs : List Int) (hl : cs.length ≤ 100) (w h : Nat) : ∀ (d i : Nat), i + d = cs.length →
    Ev (fun k => spec_tyRead.l1 k cs cs.length i w h cs)
      (if ∀ m, i ≤ m → m < cs.length → ∀ j, j < m → cs.getD j 0 = cs.getD m 0 → isNameC (cs.getD m 0) = false then (w, h, cs, true) else (0, 0, [], false)) := by
  intro d
  induction d with
  | zero =>
    intro i hi
    rw [if_pos (by intro m h1 h2; omega)]
    refine Ev.step (f := fun k => some ((w : Int), (h : Int), cs, true)) (fun k => ?_) (Ev.now _)
    rw [spec_tyRead.l1, if_neg (by omega)]
  | succ d ih =>
    intro i hi
    have h2 := tyRead_l2 cs hl w h i (by omega) _ (ih (i + 1) (by omega)) i 0 (by omega)
    have hc : (if ∀ m, 0 ≤ m → m < i → cs.getD m 0 = cs.getD i 0 → isNameC (cs.getD i 0) = false then
        (if ∀ m, i + 1 ≤ m → m < cs.length → ∀ j, j < m → cs.getD j 0 = cs.getD m 0 → isNameC (cs.getD m 0) = false then ((w : Int), (h : Int), cs, true) else (0, 0, [], false)) else (0, 0, [], false)) =
        (if ∀ m, i ≤ m → m < cs.length → ∀ j, j < m → cs.getD j 0 = cs.getD m 0 → isNameC (cs.getD m 0) = false then ((w : Int), (h : Int), cs, true) else (0, 0, [], false)) := by
      by_cases h3 : ∀ m, i ≤ m → m < cs.length → ∀ j, j < m → cs.getD j 0 = cs.getD m 0 → isNameC (cs.getD m 0) = false
      · rw [if_pos h3, if_pos (fun m _ hm => h3 i (Nat.le_refl _) (by omega) m hm), if_pos (fun m hm => h3 m (by omega))]
      · rw [if_neg h3]
        by_cases h4 : ∀ m, 0 ≤ m → m < i → cs.getD m 0 = cs.getD i 0 → isNameC (cs.getD i 0) = false
        · rw [if_pos h4, if_neg]
          intro h5
          refine h3 (fun m h6 h7 j h8 => ?_)
          rcases Nat.lt_or_ge i m with h9 | h9
          · exact h5 m h9 h7 j h8
          · obtain rfl : m = i := by omega
            exact h4 j (Nat.zero_le _) h8
        · rw [if_neg h4]
    rw [hc] at h2
    refine Ev.step (fun k => ?_) h2
    rw [spec_tyRead.l1, if_pos (by omega), if_pos (by omega), if_pos (by omega), if_pos (by omega)]
    simp only [Option.bind_some, Int.toNat_natCast]
    rfl

theorem tyRead_fin (w h : Nat) (cs : List Int) (hl : cs.length ≤ 100) :
    Ev (fun k => if (w : Int) > 7 then spec_tyRead.j2 k true w h cs else if (h : Int) > 7 then spec_tyRead.j2 k true w h cs else spec_tyRead.j2 k (decide ((cs.length : Int) > 36)) w h cs) (ansT (finT w h cs)) := by
  have hno : Ev (fun k => spec_tyRead.j2 k true w h cs) (0, 0, [], false) := Ev.step (f := fun _ => some (0, 0, [], false)) (fun k => by rw [spec_tyRead.j2, if_pos rfl]) (Ev.now _)
  unfold finT
  by_cases h1 : (w : Int) > 7
  · simp only [if_pos h1]; rw [if_neg (by omega)]; exact hno
  simp only [if_neg h1]
  by_cases h2 : (h : Int) > 7
  · simp only [if_pos h2]; rw [if_neg (by omega)]; exact hno
  simp only [if_neg h2]
  by_cases h3 : (cs.length : Int) > 36
  · simp only [decide_eq_true h3]; rw [if_neg (by omega)]; exact hno
  · simp only [decide_eq_false h3]
    have h4 := tyRead_l1 cs hl w h cs.length 0 (by omega)
    have hc : (if ∀ m, 0 ≤ m → m < cs.length → ∀ j, j < m → cs.getD j 0 = cs.getD m 0 → isNameC (cs.getD m 0) = false then ((w : Int), (h : Int), cs, true) else (0, 0, [], false)) = ansT (if w ≤ 7 ∧ h ≤ 7 ∧ cs.length ≤ 36 ∧ namesOk cs then some (w, h, cs) else none) := by
      unfold namesOk
      by_cases h5 : ∀ m, m < cs.length → ∀ j, j < m → cs.getD j 0 = cs.getD m 0 → isNameC (cs.getD m 0) = false
      · rw [if_pos (fun m _ => h5 m), if_pos ⟨by omega, by omega, by omega, h5⟩]; rfl
      · rw [if_neg (fun e => h5 (fun m => e m (Nat.zero_le _))), if_neg (fun e => h5 e.2.2.2)]; rfl
    rw [hc] at h4
    refine Ev.step (fun k => ?_) h4
    rw [spec_tyRead.j2, if_neg (by decide)]
    rfl

theorem tyRead_l0 (s : ByteArray) (hs : s.size ≤ 42) : ∀ (d i x w h : Nat) (cs : List Int), i + d = s.size → x ≤ i → w ≤ i → h ≤ i → cs.length ≤ i →
    Ev (fun k => spec_tyRead.l0 k s x i w h cs) (ansT ((tyGo ((bytesOf s).drop i) x w h cs).bind fun z => finT z.1 z.2.1 z.2.2)) := by
  have hno : ∀ g : Nat → Option (Int × Int × List Int × Bool), (∀ k, g k = some (0, 0, [], false)) → Ev g (0, 0, [], false) := fun g hg => ⟨0, fun k _ => hg k⟩
  intro d
  induction d with
  | zero =>
    intro i x w h cs hi hx hw hh hc
    obtain rfl : i = s.size := by omega
    rw [bytesOf_all, tyGo]
    have hA : ∀ k, spec_tyRead.l0 (k + 1) s x s.size w h cs = spec_tyRead.j1 k s x s.size false w h cs := fun k => by
      rw [spec_tyRead.l0, if_pos (by omega), if_neg (by omega)]
    refine Ev.step hA ?_
    by_cases hbad : (0 < h ∧ x ≠ w) ∨ x = 0
    · rw [if_pos hbad]
      refine Ev.step (f := fun _ => some (0, 0, [], false)) (fun k => ?_) (Ev.now _)
      rw [spec_tyRead.j1, if_neg (by decide)]
      by_cases h0 : (h : Int) > 0
      · rw [if_pos h0]
        by_cases hxw : (x : Int) = w
        · rw [if_pos hxw, if_pos (by omega)]
        · rw [if_neg hxw]
      · rw [if_neg h0, if_pos (by omega)]
    · rw [if_neg hbad]
      have hfin := tyRead_fin x (h + 1) cs (by omega)
      have hB : ∀ k, spec_tyRead.j1 (k + 1) s x s.size false w h cs = spec_tyRead.l0 k s 0 (s.size + 1 : Nat) x (h + 1 : Nat) cs := fun k => by
        rw [spec_tyRead.j1, if_neg (by decide), w64 (n := (s.size : Int) + 1) (by omega) (by omega), w64 (n := (h : Int) + 1) (by omega) (by omega)]
        by_cases h0 : (h : Int) > 0
        · rw [if_pos h0, if_pos (by omega), if_neg (by omega)]; rfl
        · rw [if_neg h0, if_neg (by omega)]; rfl
      refine Ev.step hB (Ev.step (fun k => ?_) hfin)
      rw [spec_tyRead.l0, if_neg (by omega)]
  | succ d ih =>
    intro i x w h cs hi hx hw hh hc
    have hlt : i < s.size := by omega
    rw [bytesOf_drop s i hlt, tyGo]
    have hA : ∀ k, spec_tyRead.l0 (k + 1) s x i w h cs = spec_tyRead.j1 k s x i (bt s i != 47) w h cs := fun k => by
      rw [spec_tyRead.l0, if_pos (by omega), if_pos (by omega), if_pos (by omega)]
    refine Ev.step hA ?_
    by_cases h47 : bt s i = 47
    · rw [if_pos h47]
      have hb : (bt s i != 47) = false := by simp [h47]
      simp only [hb]
      by_cases hbad : (0 < h ∧ x ≠ w) ∨ x = 0
      · rw [if_pos hbad]
        refine Ev.step (f := fun _ => some (0, 0, [], false)) (fun k => ?_) (Ev.now _)
        rw [spec_tyRead.j1, if_neg (by decide)]
        by_cases h0 : (h : Int) > 0
        · rw [if_pos h0]
          by_cases hxw : (x : Int) = w
          · rw [if_pos hxw, if_pos (by omega)]
          · rw [if_neg hxw]
        · rw [if_neg h0, if_pos (by omega)]
      · rw [if_neg hbad]
        refine Ev.step (fun k => ?_) (ih (i + 1) 0 x (h + 1) cs (by omega) (by omega) (by omega) (by omega) (by omega))
        rw [spec_tyRead.j1, if_neg (by decide), w64 (n := (i : Int) + 1) (by omega) (by omega), w64 (n := (h : Int) + 1) (by omega) (by omega)]
        by_cases h0 : (h : Int) > 0
        · rw [if_pos h0, if_pos (by omega), if_neg (by omega)]; rfl
        · rw [if_neg h0, if_neg (by omega)]; rfl
    · rw [if_neg h47]
      have hb : (bt s i != 47) = true := by simp [h47]
      simp only [hb]
      by_cases hcell : isCellC (bt s i) = true
      · rw [if_pos hcell]
        refine Ev.step (fun k => ?_) (ih (i + 1) (x + 1) w h (cs ++ [bt s i]) (by omega) (by omega) (by omega) (by omega) (by simp; omega))
        rw [spec_tyRead.j1, if_pos rfl, if_pos (by omega), if_pos (by omega), spec_tyIs_eq, Option.bind_some, if_pos hcell, if_pos (by omega), w64 (by omega) (by omega), w64 (by omega) (by omega)]
        rfl
      · rw [if_neg hcell]
        refine Ev.step (f := fun _ => some (0, 0, [], false)) (fun k => ?_) (Ev.now _)
        rw [spec_tyRead.j1, if_pos rfl, if_pos (by omega), if_pos (by omega), spec_tyIs_eq, Option.bind_some, if_neg hcell]

theorem spec_tyRead_ev (s : ByteArray) : Ev (fun k => spec_tyRead.f k s) (ansT (tyGrid (bytesOf s))) := by
  unfold spec_tyRead.f tyGrid
  rw [bytesOf_length]
  by_cases h : (s.size : Int) > 42
  · simp only [if_pos h]; rw [if_pos (by omega)]; exact Ev.now _
  · simp only [if_neg h]; rw [if_neg (by omega)]
    have h0 := tyRead_l0 s (by omega) s.size 0 0 0 0 [] (by omega) (Nat.le_refl _) (Nat.le_refl _) (Nat.le_refl _) (Nat.le_refl _)
    rw [List.drop_zero] at h0
    cases hg : tyGo (bytesOf s) 0 0 0 [] with
    | none => rw [hg] at h0; exact h0
    | some z => rw [hg] at h0; exact h0
end Go.Proofs.YtipjmlcbbimfpaaDoor.PFnExactIsDesk
