/- The printed IsTray is 'has a grid'; IsWord on both sides. -/
import Derived.Test.YtipjmlcbbimfpaaDoorSTray
namespace Go.Proofs.YtipjmlcbbimfpaaDoor.PFnExactIsDesk
open Go.RowKit Go.Proofs.YtipjmlcbbimfpaaDoor Go.Proofs.YtipjmlcbbimfpaaDoorW.PrintWords Classical
set_option linter.unusedVariables false
set_option linter.unusedSimpArgs false

theorem impl_isSize_eq (w h : Int) (hw : 0 ≤ w ∧ w ≤ 4294967296) (hh : 0 ≤ h ∧ h ≤ 4294967296) : impl_isSize.f w h = some (decide ((1 ≤ w ∧ w ≤ 7) ∧ (1 ≤ h ∧ h ≤ 7) ∧ w * h ≤ 36)) := by
  unfold impl_isSize.f impl_within.f
  by_cases h1 : 1 ≤ w
  · by_cases h2 : w ≤ 7
    · by_cases h3 : 1 ≤ h
      · by_cases h4 : h ≤ 7
        · have h5 : w * h ≤ 7 * 7 := Int.mul_le_mul h2 h4 (by omega) (by omega)
          have h6 : 0 ≤ w * h := Int.mul_nonneg (by omega) (by omega)
          simp [h1, h2, h3, h4, w64 (n := w * h) (by omega) (by omega)]
        · simp [h1, h2, h3, h4]
      · simp [h1, h2, h3]
    · simp [h1, h2]
  · simp [h1]

theorem dropWhile_nil {α : Type} (p : α → Bool) : ∀ l : List α, l.dropWhile p = [] ↔ ∀ a ∈ l, p a = true
  | [] => by simp
  | a :: l => by
    rw [List.dropWhile_cons]
    by_cases h : p a = true
    · rw [if_pos h, dropWhile_nil p l]; simp [h]
    · rw [if_neg h]; simp [h]
theorem trimS_nil_iff (l cs : List UInt8) : Lib.trimS l cs = [] ↔ ∀ b ∈ l, b ∈ cs := by
  unfold Lib.trimS Lib.trimLeftS Lib.trimRightS
  rw [dropWhile_nil]
  constructor
  · intro h b hb
    rcases Classical.em (∀ b ∈ l, cs.contains b = true) with h1 | h1
    · simpa using h1 b hb
    · exfalso
      have h2 : ¬ l.reverse.dropWhile (cs.contains ·) = [] := by
        rw [dropWhile_nil]
        intro h3; exact h1 (fun b hb => h3 b (List.mem_reverse.2 hb))
      have h3 := List.head_dropWhile_not (cs.contains ·) (l := l.reverse) h2
      have h4 := h ((l.reverse.dropWhile (cs.contains ·)).head h2) (List.mem_reverse.2 (List.head_mem h2))
      rw [h3] at h4; cases h4
  · intro h b hb
    have : b ∈ l := by
      have h1 := List.mem_reverse.1 hb
      exact List.mem_reverse.1 ((List.dropWhile_sublist _).subset h1)
    simpa using h b this

theorem toList_nil_iff (s : ByteArray) : s.toList = [] ↔ s.data.toList = [] := by rw [Lib.toList_data]

/-- Is a text made of some bytes alone? -/
theorem trim_nil (s cut t : ByteArray) (hs : s.size ≤ 9223372036854775807) (hc : cut.size < 4294967281) (ha : asciiB cut = true) :
    ∃ t, strings_Trim.f s cut = some t ∧ (t.toList = [] ↔ ∀ c ∈ bytesOf s, c ∈ bytesOf cut) := by
  refine ⟨_, if_pos ⟨hs, hc, ha⟩, ?_⟩
  rw [toList_nil_iff]
  simp only [trimS_nil_iff]
  unfold bytesOf
  constructor
  · intro h c hcm
    obtain ⟨b, hb, rfl⟩ := List.mem_map.1 hcm
    exact List.mem_map.2 ⟨b, h b hb, rfl⟩
  · intro h b hb
    obtain ⟨b', hb', he⟩ := List.mem_map.1 (h _ (List.mem_map.2 ⟨b, hb, rfl⟩))
    have : b' = b := UInt8.toNat_inj.1 (by omega)
    rwa [← this]

theorem cellSet (c : Int) : c ∈ bytesOf (⟨#[35, 46, 111, 97, 98, 99, 100, 101, 102]⟩ : ByteArray) ↔ isCellC c = true := by
  have : bytesOf (⟨#[35, 46, 111, 97, 98, 99, 100, 101, 102]⟩ : ByteArray) = [35, 46, 111, 97, 98, 99, 100, 101, 102] := by decide
  rw [this]
  unfold isCellC isBallC isNameC
  simp
  omega

theorem count_rune (s : ByteArray) (n : Nat) (h1 : 97 ≤ n) (h2 : n ≤ 102) : strings_Count.f s (Utf8.encode n) = some (((bytesOf s).count (n : Int) : Nat) : Int) := by
  have he : Utf8.encode (n : Int) = ⟨#[UInt8.ofNat n]⟩ := by
    have : n = 97 ∨ n = 98 ∨ n = 99 ∨ n = 100 ∨ n = 101 ∨ n = 102 := by omega
    rcases this with rfl | rfl | rfl | rfl | rfl | rfl <;> rfl
  rw [he]
  have h3 : strings_Count.f s ⟨#[UInt8.ofNat n]⟩ = some ((Lib.countByte s.data.toList (UInt8.ofNat n) : Nat) : Int) := if_pos rfl
  rw [h3]
  have hco : Lib.countByte s.data.toList (UInt8.ofNat n) = (bytesOf s).count (n : Int) := ?_
  · rw [hco]
  unfold Lib.countByte bytesOf
  have hn : (UInt8.ofNat n).toNat = n := by
    rw [UInt8.toNat_ofNat']; omega
  rw [List.count_eq_countP, List.count_eq_countP, List.countP_map]
  apply List.countP_congr
  intro b _
  simp only [beq_iff_eq, Function.comp]
  constructor
  · rintro rfl; omega
  · intro h; exact UInt8.toNat_inj.1 (by omega)

theorem IsTray_l1 (s : ByteArray) : ∀ (d n : Nat), n + d = 103 → 97 ≤ n → 
    Ev (fun k => impl_IsTray.l1 k s n) (decide (∀ m : Int, n ≤ m → m ≤ 102 → (bytesOf s).count m ≤ 1)) := by
  intro d
  induction d with
  | zero =>
    intro n hn _
    rw [decide_eq_true (by intro m h1 h2; omega)]
    exact Ev.step (f := fun _ => some true) (fun k => by rw [impl_IsTray.l1, if_neg (by omega)]) (Ev.now _)
  | succ d ih =>
    intro n hn h97
    have hih := ih (n + 1) (by omega) (by omega)
    by_cases hc : (bytesOf s).count (n : Int) > 1
    · rw [decide_eq_false (by intro h; have := h n (Int.le_refl _) (by omega); omega)]
      refine Ev.step (f := fun _ => some false) (fun k => ?_) (Ev.now _)
      rw [impl_IsTray.l1, if_pos (by omega), count_rune s n h97 (by omega), Option.bind_some, if_pos (by omega)]
    · have he : (∀ m : Int, n ≤ m → m ≤ 102 → (bytesOf s).count m ≤ 1) ↔ (∀ m : Int, (n + 1 : Nat) ≤ m → m ≤ 102 → (bytesOf s).count m ≤ 1) := by
        constructor
        · intro h m h1 h2; exact h m (by omega) h2
        · intro h m h1 h2
          rcases Int.lt_or_le n m with h3 | h3
          · exact h m (by omega) h2
          · obtain rfl : m = n := by omega
            omega
      simp only [he]
      refine Ev.step (fun k => ?_) hih
      rw [impl_IsTray.l1, if_pos (by omega), count_rune s n h97 (by omega), Option.bind_some, if_neg (by omega), w32 (by omega) (by omega)]
      rfl

theorem IsTray_l0 (s : ByteArray) (rows : List ByteArray) (r0 : ByteArray) (rest : List ByteArray) (hr : rows = r0 :: rest) (hl : rows.length ≤ 4294967296) (hb : ∀ r ∈ rows, r.size ≤ 4294967296) : ∀ (d i : Nat), i + d = rows.length →
    Ev (fun k => impl_IsTray.l0 k s rows rows rows.length i) (decide ((∀ r ∈ rows.drop i, r.size = r0.size ∧ ∀ c ∈ bytesOf r, isCellC c = true) ∧ ∀ m : Int, 97 ≤ m → m ≤ 102 → (bytesOf s).count m ≤ 1)) := by
  intro d
  induction d with
  | zero =>
    intro i hi
    have hd : rows.drop i = [] := by rw [List.drop_eq_nil_iff]; omega
    have h1 := IsTray_l1 s 6 97 (by omega) (by omega)
    have he : ((∀ r ∈ rows.drop i, r.size = r0.size ∧ ∀ c ∈ bytesOf r, isCellC c = true) ∧ ∀ m : Int, 97 ≤ m → m ≤ 102 → (bytesOf s).count m ≤ 1) ↔ (∀ m : Int, (97 : Nat) ≤ m → m ≤ 102 → (bytesOf s).count m ≤ 1) := by
      rw [hd]; simp
    simp only [he]
    exact Ev.step (fun k => by rw [impl_IsTray.l0, if_neg (by omega)]; rfl) h1
  | succ d ih =>
    intro i hi
    have hih := ih (i + 1) (by omega)
    have hlt : i < rows.length := by omega
    have hd : rows.drop i = rows[i] :: rows.drop (i + 1) := List.drop_eq_getElem_cons hlt
    have hri : rdOf ByteArray.empty rows (i : Int) = rows[i] := by
      unfold rdOf; rw [Int.toNat_natCast, List.getD_eq_getElem?_getD, List.getElem?_eq_getElem hlt]; rfl
    have hr0 : rdOf ByteArray.empty rows 0 = r0 := by unfold rdOf; rw [hr]; rfl
    have hsz : rows[i].size ≤ 4294967296 := hb _ (List.getElem_mem ..)
    have hstep : ∀ k, impl_IsTray.l0 (k + 1) s rows rows rows.length i = (if ((rows[i]).size : Int) = (r0.size : Int) then ((strings_Trim.f (rows[i]) (⟨#[35, 46, 111, 97, 98, 99, 100, 101, 102]⟩ : ByteArray)).bind fun t141 => (if t141.toList = ([] : List UInt8) then (impl_IsTray.l0 k s rows rows rows.length (i + 1 : Nat)) else (some false))) else (some false)) := fun k => by
      rw [impl_IsTray.l0, if_pos (by omega), if_pos (by omega), if_pos (by omega), if_pos (by omega), hri, hr0, w64 (by omega) (by omega)]
      rfl
    refine Ev.step hstep ?_
    by_cases hz : rows[i].size = r0.size
    · simp only [if_pos (show (rows[i].size : Int) = r0.size by omega)]
      obtain ⟨t, ht, hiff⟩ := trim_nil rows[i] (⟨#[35, 46, 111, 97, 98, 99, 100, 101, 102]⟩ : ByteArray) ByteArray.empty (by omega) (by decide) (by decide)
      rw [ht]
      simp only [Option.bind_some]
      by_cases hc : ∀ c ∈ bytesOf rows[i], isCellC c = true
      · simp only [if_pos (hiff.2 fun c hcm => (cellSet c).2 (hc c hcm))]
        have he : ((∀ r ∈ rows.drop i, r.size = r0.size ∧ ∀ c ∈ bytesOf r, isCellC c = true) ∧ ∀ m : Int, 97 ≤ m → m ≤ 102 → (bytesOf s).count m ≤ 1) ↔ ((∀ r ∈ rows.drop (i + 1), r.size = r0.size ∧ ∀ c ∈ bytesOf r, isCellC c = true) ∧ ∀ m : Int, 97 ≤ m → m ≤ 102 → (bytesOf s).count m ≤ 1) := by
          rw [hd]; simp only [List.mem_cons, forall_eq_or_imp]
          constructor
          · rintro ⟨⟨_, h2⟩, h3⟩; exact ⟨h2, h3⟩
          · rintro ⟨h2, h3⟩; exact ⟨⟨⟨hz, hc⟩, h2⟩, h3⟩
        simp only [he]
        exact hih
      · simp only [if_neg (fun e => hc fun c hcm => (cellSet c).1 (hiff.1 e c hcm))]
        rw [decide_eq_false]
        · exact Ev.now _
        · rintro ⟨h1, _⟩
          exact hc (h1 rows[i] (by rw [hd]; exact List.mem_cons_self ..)).2
    · simp only [if_neg (show ¬ (rows[i].size : Int) = r0.size by omega)]
      rw [decide_eq_false]
      · exact Ev.now _
      · rintro ⟨h1, _⟩
        exact hz (h1 rows[i] (by rw [hd]; exact List.mem_cons_self ..)).1

theorem impl_IsTray_ev (s : ByteArray) (hs : s.size < 4294967281) : Ev (fun k => impl_IsTray.f k s) (tyGrid (bytesOf s)).isSome := by
  have hsp : strings_Split.f s (⟨#[47]⟩ : ByteArray) = some (rowsB 47 s) := if_pos ⟨hs, rfl⟩
  have hmap : (rowsB 47 s).map bytesOf = rowsI 47 (bytesOf s) := rowsB_bytes 47 s
  cases hr : rowsI 47 (bytesOf s) with
  | nil => exact absurd hr (rowsI_ne _ _)
  | cons q qs =>
    have hlen := rowsI_length 47 (bytesOf s) q qs hr
    rw [bytesOf_length] at hlen
    rw [hr] at hmap
    cases hrb : rowsB 47 s with
    | nil => rw [hrb] at hmap; cases hmap
    | cons r0 rest =>
      rw [hrb, List.map_cons, List.cons.injEq] at hmap
      obtain ⟨hq, hqs⟩ := hmap
      have hq0 : q.length = r0.size := by rw [← hq, bytesOf_length]
      have hql : qs.length = rest.length := by rw [← hqs, List.length_map]
      have hrow : ∀ r ∈ r0 :: rest, r.size ≤ 4294967296 := by
        intro r hm
        rcases List.mem_cons.1 hm with rfl | hm
        · omega
        · have h1 : bytesOf r ∈ qs := by rw [← hqs]; exact List.mem_map.2 ⟨r, hm, rfl⟩
          have h2 := (List.sublist_flatten_of_mem h1).length_le
          rw [bytesOf_length] at h2; omega
      have hiff : (tyGrid (bytesOf s)).isSome = decide (((1 ≤ (r0.size : Int) ∧ (r0.size : Int) ≤ 7) ∧ (1 ≤ ((r0 :: rest).length : Int) ∧ ((r0 :: rest).length : Int) ≤ 7) ∧ (r0.size : Int) * ((r0 :: rest).length : Int) ≤ 36) ∧
          (∀ r ∈ (r0 :: rest).drop 0, r.size = r0.size ∧ ∀ c ∈ bytesOf r, isCellC c = true) ∧ ∀ m : Int, 97 ≤ m → m ≤ 102 → (bytesOf s).count m ≤ 1) := by
        rw [Bool.eq_iff_iff, tyGrid_iff, decide_eq_true_iff]
        unfold rowsTray
        rw [hr]
        simp only [List.headD_cons, List.length_cons, List.drop_zero, hq0, hql]
        have hg : rowsGood r0.size (q :: qs) ↔ (∀ r ∈ r0 :: rest, r.size = r0.size ∧ ∀ c ∈ bytesOf r, isCellC c = true) := by
          unfold rowsGood
          have e : q :: qs = (r0 :: rest).map bytesOf := by rw [List.map_cons, hq, hqs]
          rw [e]
          constructor
          · intro h r hm
            have := h (bytesOf r) (List.mem_map.2 ⟨r, hm, rfl⟩)
            rwa [bytesOf_length] at this
          · intro h z hz
            obtain ⟨r, hm, rfl⟩ := List.mem_map.1 hz
            have := h r hm
            rwa [bytesOf_length]
        rw [hg]
        have hmul : (r0.size : Int) * ((rest.length + 1 : Nat) : Int) ≤ 36 ↔ r0.size * (rest.length + 1) ≤ 36 := by
          rw [← Int.natCast_mul]; omega
        rw [hmul]
        constructor
        · rintro ⟨h1, h2, h3, h4, h5⟩; exact ⟨⟨by omega, by omega, h3⟩, h4, h5⟩
        · rintro ⟨⟨h1, h2, h3⟩, h4, h5⟩; exact ⟨by omega, by omega, h3, h4, h5⟩
      rw [hiff]
      unfold impl_IsTray.f
      rw [hsp, hrb]
      simp only [Option.bind_some]
      have h00 : rdOf ByteArray.empty (r0 :: rest) 0 = r0 := rfl
      have hln : (r0 :: rest).length ≤ 4294967296 := by simp only [List.length_cons]; omega
      simp only [if_pos (show (0 : Int) < ((r0 :: rest).length : Int) by simp only [List.length_cons]; omega), h00, impl_isSize_eq (r0.size : Int) ((r0 :: rest).length : Int) (by omega) (by omega), Option.bind_some]
      by_cases hsize : (1 ≤ (r0.size : Int) ∧ (r0.size : Int) ≤ 7) ∧ (1 ≤ ((r0 :: rest).length : Int) ∧ ((r0 :: rest).length : Int) ≤ 7) ∧ (r0.size : Int) * ((r0 :: rest).length : Int) ≤ 36
      · simp only [decide_eq_true hsize, if_true]
        have h0 := IsTray_l0 s (r0 :: rest) r0 rest rfl hln hrow (r0 :: rest).length 0 (by omega)
        simp only [hsize, true_and]
        exact h0
      · simp only [decide_eq_false hsize]
        rw [decide_eq_false (fun e => hsize e.1)]
        exact Ev.now _

/-! ### words -/
def isDirC (c : Int) : Bool := c == 117 || c == 114 || c == 100 || c == 108
def isWordB (l : List Int) : Bool := decide (l.length ≤ 40) && l.all isDirC
theorem isWordB_iff (l : List Int) : isWordB l = true ↔ l.length ≤ 40 ∧ ∀ c ∈ l, isDirC c = true := by simp [isWordB]
theorem dirSet (c : Int) : c ∈ bytesOf (⟨#[117, 114, 100, 108]⟩ : ByteArray) ↔ isDirC c = true := by
  have : bytesOf (⟨#[117, 114, 100, 108]⟩ : ByteArray) = [117, 114, 100, 108] := by decide
  rw [this]
  unfold isDirC
  simp [or_assoc]
theorem impl_IsWord_eq (s : ByteArray) : impl_IsWord.f s = some (isWordB (bytesOf s)) := by
  unfold impl_IsWord.f
  by_cases h : (s.size : Int) ≤ 40
  · rw [if_pos h]
    obtain ⟨t, ht, hiff⟩ := trim_nil s (⟨#[117, 114, 100, 108]⟩ : ByteArray) ByteArray.empty (by omega) (by decide) (by decide)
    rw [ht, Option.bind_some]
    refine congrArg some ?_
    rw [Bool.eq_iff_iff, beq_iff_eq, hiff, isWordB_iff, bytesOf_length]
    simp only [dirSet]
    constructor
    · intro h2; exact ⟨by omega, h2⟩
    · intro h2; exact h2.2
  · rw [if_neg h]
    refine congrArg some ?_
    rw [Bool.eq_iff_iff, isWordB_iff, bytesOf_length]
    constructor
    · intro h2; cases h2
    · rintro ⟨h1, _⟩; omega

/-- The place of a direction among 'urdl', -1 if it is none. -/
def dirIx (c : Int) : Int := if c = 117 then 0 else if c = 114 then 1 else if c = 100 then 2 else if c = 108 then 3 else -1
theorem dirIx_neg (c : Int) : dirIx c < 0 ↔ isDirC c = false := by
  unfold dirIx isDirC
  by_cases h1 : c = 117
  · simp [h1]
  by_cases h2 : c = 114
  · simp [h2]
  by_cases h3 : c = 100
  · simp [h3]
  by_cases h4 : c = 108
  · simp [h4]
  simp [h1, h2, h3, h4]
theorem one_extract (s : ByteArray) (i : Nat) (h : i < s.size) : (s.extract i (i + 1)).toList = [s[i]] := by
  rw [Lib.toList_data, Lib.extract_data]
  apply List.ext_getElem?
  intro j
  simp only [List.getElem?_take, List.getElem?_drop]
  have := getElem?_data s i h
  cases j with
  | zero => simpa using this
  | succ j => simp
theorem tiDir_ev (x : ByteArray) (c : Int) (h : bytesOf x = [c]) : Ev (fun k => spec_tiDir.f k x) (dirIx c) := by
  have hx : ∃ b : UInt8, x.toList = [b] ∧ c = b.toNat := by
    unfold bytesOf at h
    rw [Lib.toList_data]
    cases hl : x.data.toList with
    | nil => rw [hl] at h; cases h
    | cons b t =>
      rw [hl] at h
      cases t with
      | nil => simp at h; exact ⟨b, rfl, h.symm⟩
      | cons _ _ => simp at h
  obtain ⟨b, hb, hc⟩ := hx
  have hsz : x.size = 1 := by rw [← bytesOf_length, h]; rfl
  have key : ∀ (i : Nat) (d : UInt8) (z : Int), z = d.toNat → i < 4 → ((⟨#[117, 114, 100, 108]⟩ : ByteArray).extract i (i + 1)).toList = [d] → ∀ k, spec_tiDir.l0 (k + 1) x i = if c = z then some (i : Int) else spec_tiDir.l0 k x (i + 1 : Nat) := by
    intro i d z hz hi e k
    rw [spec_tiDir.l0, if_pos (by omega), show spec_tiDirs.f = some (⟨#[117, 114, 100, 108]⟩ : ByteArray) from rfl, Option.bind_some]
    have hw : wrap64 ((i : Int) + 1) = ((i + 1 : Nat) : Int) := by rw [w64 (by omega) (by omega)]; rfl
    have hsz4 : ((⟨#[117, 114, 100, 108]⟩ : ByteArray).size : Int) = 4 := rfl
    rw [if_pos (by omega), hw, if_pos (by omega), hsz4, if_pos (by omega), Int.toNat_natCast, Int.toNat_natCast, e, hb]
    by_cases hbd : b = d
    · subst hbd; rw [if_pos rfl, if_pos (by omega)]
    · rw [if_neg (by simpa using hbd), if_neg (fun h2 => hbd (UInt8.toNat_inj.1 (by omega)))]
  have hd : (⟨#[117, 114, 100, 108]⟩ : ByteArray).data.toList = [117, 114, 100, 108] := rfl
  have k0 := key 0 117 117 rfl (by omega) (by rw [Lib.toList_data, Lib.extract_data, hd]; rfl)
  have k1 := key 1 114 114 rfl (by omega) (by rw [Lib.toList_data, Lib.extract_data, hd]; rfl)
  have k2 := key 2 100 100 rfl (by omega) (by rw [Lib.toList_data, Lib.extract_data, hd]; rfl)
  have k3 := key 3 108 108 rfl (by omega) (by rw [Lib.toList_data, Lib.extract_data, hd]; rfl)
  have k4 : ∀ k, spec_tiDir.l0 (k + 1) x ((3 + 1 : Nat) : Int) = some (-1) := fun k => by rw [spec_tiDir.l0, if_neg (by omega)]
  clear key hd
  unfold spec_tiDir.f dirIx
  refine ⟨5, fun k hk => ?_⟩
  obtain ⟨k, rfl⟩ : ∃ m, k = m + 5 := ⟨k - 5, by omega⟩
  have e0 := k0 (k + 4)
  have e1 := k1 (k + 3)
  have e2 := k2 (k + 2)
  have e3 := k3 (k + 1)
  have e4 := k4 k
  simp only [Nat.zero_add, Nat.reduceAdd, Int.natCast_zero, Int.natCast_one, Int.cast_ofNat_Int] at e0 e1 e2 e3 e4
  show spec_tiDir.l0 (k + 4 + 1) x 0 = _
  rw [e0]
  by_cases h1 : c = 117
  · rw [if_pos h1, if_pos h1]
  rw [if_neg h1, if_neg h1, e1]
  by_cases h2 : c = 114
  · rw [if_pos h2, if_pos h2]
  rw [if_neg h2, if_neg h2, e2]
  by_cases h3 : c = 100
  · rw [if_pos h3, if_pos h3]
  rw [if_neg h3, if_neg h3, e3]
  by_cases h4 : c = 108
  · rw [if_pos h4, if_pos h4]
  rw [if_neg h4, if_neg h4, e4]
theorem bytes_extract (s : ByteArray) (i : Nat) (h : i < s.size) : bytesOf (s.extract i (i + 1)) = [bt s i] := by
  have h1 := one_extract s i h
  rw [Lib.toList_data] at h1
  unfold bytesOf
  rw [h1]
  simp [bt, h]
theorem tiWord_l0 (s : ByteArray) (hs : s.size ≤ 40) : ∀ (d i : Nat), i + d = s.size → Ev (fun k => spec_tiWord.l0 k s i) (decide (∀ c ∈ (bytesOf s).drop i, isDirC c = true)) := by
  intro d
  induction d with
  | zero =>
    intro i hi
    obtain rfl : i = s.size := by omega
    rw [bytesOf_all]
    refine Ev.step (f := fun _ => some true) (fun k => by rw [spec_tiWord.l0, if_neg (by omega)]) ?_
    simp only [List.not_mem_nil, false_implies, implies_true, decide_true]
    exact Ev.now _
  | succ d ih =>
    intro i hi
    have hlt : i < s.size := by omega
    have hw : wrap64 ((i : Int) + 1) = ((i + 1 : Nat) : Int) := by rw [w64 (by omega) (by omega)]; rfl
    rw [bytesOf_drop s i hlt]
    have hstep : ∀ k, spec_tiWord.l0 (k + 1) s i = (spec_tiDir.f k (s.extract i (i + 1))).bind fun t => if t < 0 then some false else spec_tiWord.l0 k s (i + 1 : Nat) := fun k => by
      rw [spec_tiWord.l0, if_pos (by omega), if_pos (by omega), hw, if_pos (by omega), if_pos (by omega), Int.toNat_natCast, Int.toNat_natCast]
    refine Ev.step hstep (Ev.bind (tiDir_ev _ _ (bytes_extract s i hlt)) ?_)
    by_cases hd : isDirC (bt s i) = true
    · have hn : ¬ dirIx (bt s i) < 0 := fun e => by rw [dirIx_neg, hd] at e; cases e
      simp only [if_neg hn]
      have := ih (i + 1) (by omega)
      simp only [List.mem_cons, forall_eq_or_imp, hd, true_and]
      exact this
    · have hn : dirIx (bt s i) < 0 := (dirIx_neg _).2 (by simpa using hd)
      simp only [if_pos hn]
      rw [decide_eq_false]
      · exact Ev.now _
      · intro h; exact hd (h _ (List.mem_cons_self ..))
theorem spec_tiWord_ev (s : ByteArray) : Ev (fun k => spec_tiWord.f k s) (isWordB (bytesOf s)) := by
  have hl := bytesOf_length s
  unfold spec_tiWord.f
  by_cases h : (s.size : Int) > 40
  · simp only [if_pos h]
    rw [show isWordB (bytesOf s) = false from by rw [Bool.eq_false_iff]; intro e; have := (isWordB_iff _).1 e; omega]
    exact Ev.now _
  · simp only [if_neg h]
    have h0 := tiWord_l0 s (by omega) s.size 0 (by omega)
    rw [show isWordB (bytesOf s) = decide (∀ c ∈ (bytesOf s).drop 0, isDirC c = true) from by
      rw [Bool.eq_iff_iff, isWordB_iff, decide_eq_true_iff, List.drop_zero]
      constructor
      · intro e; exact e.2
      · intro e; exact ⟨by omega, e⟩]
    exact h0
end Go.Proofs.YtipjmlcbbimfpaaDoor.PFnExactIsDesk
