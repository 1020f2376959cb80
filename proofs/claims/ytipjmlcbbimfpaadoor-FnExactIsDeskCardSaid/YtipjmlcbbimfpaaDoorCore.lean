/- Plain lists: trays as lists of numbers. Nothing of the program stands here. -/
import Derived.Test.YtipjmlcbbimfpaaDoorExtLib
namespace Go.Proofs.YtipjmlcbbimfpaaDoor
open Go.RowKit Go.Proofs.YtipjmlcbbimfpaaDoorW.PrintWords
set_option linter.unusedVariables false
set_option linter.unusedSimpArgs false

theorem w64 {n : Int} (h1 : -9223372036854775808 ≤ n) (h2 : n ≤ 9223372036854775807) : wrap64 n = n := by unfold wrap64; omega
theorem w32 {n : Int} (h1 : -2147483648 ≤ n) (h2 : n ≤ 2147483647) : wrap32 n = n := by unfold wrap32; omega
theorem getElem?_data (s : ByteArray) (i : Nat) (h : i < s.size) : s.data.toList[i]? = some (s[i]'h) := by
  have hd : i < s.data.size := h
  rw [Array.getElem?_toList, Array.getElem?_eq_getElem hd]
  rfl
theorem bytesOf_get (s : ByteArray) (i : Nat) (h : i < s.size) : (bytesOf s)[i]? = some (bt s i) := by
  unfold bytesOf bt
  rw [List.getElem?_map, getElem?_data s i h]
  simp [h]
theorem bytesOf_drop (s : ByteArray) (i : Nat) (h : i < s.size) : (bytesOf s).drop i = bt s i :: (bytesOf s).drop (i + 1) := by
  have hl : i < (bytesOf s).length := by rw [bytesOf_length]; exact h
  rw [List.drop_eq_getElem_cons hl]
  congr 1
  have := bytesOf_get s i h
  rw [List.getElem?_eq_getElem hl] at this
  exact Option.some.inj this
theorem bytesOf_all (s : ByteArray) : (bytesOf s).drop s.size = [] := by
  rw [List.drop_eq_nil_iff, bytesOf_length]; exact Nat.le_refl _
theorem bytesOf_range (s : ByteArray) : ∀ c ∈ bytesOf s, 0 ≤ c ∧ c < 256 := by
  intro c hc
  simp only [bytesOf, List.mem_map] at hc
  obtain ⟨b, _, rfl⟩ := hc
  have := b.toNat_lt
  omega
theorem bytesOf_inj {s t : ByteArray} (h : bytesOf s = bytesOf t) : s = t := by
  have hb : s.data.toList = t.data.toList := by
    have hf : ∀ a b : UInt8, (a.toNat : Int) = (b.toNat : Int) → a = b := fun a b h => UInt8.toNat_inj.1 (by omega)
    exact List.map_inj_right hf |>.1 h
  have : s.data = t.data := Array.toList_inj.1 hb
  cases s; cases t; simp_all
theorem bytesOf_mk (l : List UInt8) : bytesOf ⟨l.toArray⟩ = l.map fun b => (b.toNat : Int) := rfl

/-- A list cut at each instance of a number. -/
def rowsI (c : Int) : List Int → List (List Int)
  | [] => [[]]
  | b :: l => if b = c then [] :: rowsI c l else (b :: (rowsI c l).headD []) :: (rowsI c l).tail
theorem rowsL_rowsI (c : UInt8) : ∀ l : List UInt8, (rowsL c l).map (List.map fun b => (b.toNat : Int)) = rowsI c.toNat (l.map fun b => (b.toNat : Int))
  | [] => rfl
  | b :: l => by
    have ih := rowsL_rowsI c l
    have hne := rowsL_ne c l
    rw [List.map_cons, rowsL, rowsI]
    by_cases h : b = c
    · subst h; simp [ih]
    · have h2 : ¬ ((b.toNat : Int) = (c.toNat : Int)) := fun e => h (UInt8.toNat_inj.1 (by omega))
      rw [if_neg h, if_neg h2, ← ih]
      cases hr : rowsL c l with
      | nil => exact absurd hr hne
      | cons r rs => simp
theorem rowsB_bytes (c : UInt8) (s : ByteArray) : (rowsB c s).map bytesOf = rowsI c.toNat (bytesOf s) := by
  unfold rowsB
  rw [List.map_map]
  have : bytesOf ∘ (fun l : List UInt8 => (⟨l.toArray⟩ : ByteArray)) = List.map fun b => (b.toNat : Int) := by funext l; rfl
  rw [this, rowsL_rowsI]
  rfl
theorem rowsI_ne (c : Int) (l : List Int) : rowsI c l ≠ [] := by
  cases l with
  | nil => simp [rowsI]
  | cons b l => unfold rowsI; split <;> simp

/-! ### trays as lists -/
def isNameC (c : Int) : Bool := decide (97 ≤ c) && decide (c ≤ 102)
def isBallC (c : Int) : Bool := c == 111 || isNameC c
def isCellC (c : Int) : Bool := c == 35 || c == 46 || isBallC c
/-- Number by number: the row's length so far, columns, rows, cells. -/
def tyGo : List Int → Nat → Nat → Nat → List Int → Option (Nat × Nat × List Int)
  | [], x, w, h, cs => if (0 < h ∧ x ≠ w) ∨ x = 0 then none else some (x, h + 1, cs)
  | c :: l, x, w, h, cs => if c = 47 then (if (0 < h ∧ x ≠ w) ∨ x = 0 then none else tyGo l 0 x (h + 1) cs) else if isCellC c = true then tyGo l (x + 1) w h (cs ++ [c]) else none
def namesOk (cs : List Int) : Prop := ∀ i, i < cs.length → ∀ j, j < i → cs.getD j 0 = cs.getD i 0 → isNameC (cs.getD i 0) = false
instance (cs : List Int) : Decidable (namesOk cs) := by unfold namesOk; exact inferInstance
/-- Columns, rows, cells of a tray's text. -/
def tyGrid (l : List Int) : Option (Nat × Nat × List Int) :=
  if l.length > 42 then none else match tyGo l 0 0 0 [] with
  | none => none
  | some (w, h, cs) => if w ≤ 7 ∧ h ≤ 7 ∧ cs.length ≤ 36 ∧ namesOk cs then some (w, h, cs) else none

/-- By rows. -/
def rowsGood (w : Nat) (rs : List (List Int)) : Prop := ∀ r ∈ rs, r.length = w ∧ ∀ c ∈ r, isCellC c = true
instance (w : Nat) (rs : List (List Int)) : Decidable (rowsGood w rs) := by unfold rowsGood; exact inferInstance
theorem tyGo_rows : ∀ (l : List Int) (x w h : Nat) (cs : List Int) (r : List Int) (rs : List (List Int)), rowsI 47 l = r :: rs →
    tyGo l x w h cs = if (∀ c ∈ r, isCellC c = true) ∧ 0 < x + r.length ∧ (0 < h → x + r.length = w) ∧ rowsGood (x + r.length) rs then some (x + r.length, h + 1 + rs.length, cs ++ r ++ rs.flatten) else none
  | [], x, w, h, cs, r, rs, hr => by
    simp only [rowsI, List.cons.injEq] at hr
    obtain ⟨rfl, rfl⟩ := hr
    unfold tyGo rowsGood
    by_cases hx : (0 < h ∧ x ≠ w) ∨ x = 0
    · rw [if_pos hx, if_neg]
      rintro ⟨_, h2, h3, _⟩
      simp only [List.length_nil, Nat.add_zero] at h2 h3
      rcases hx with ⟨h4, h5⟩ | h5
      · exact h5 (h3 h4)
      · omega
    · rw [if_neg hx, if_pos]
      · simp
      · refine ⟨by simp, ?_, ?_, by simp⟩
        · simp only [List.length_nil, Nat.add_zero]; omega
        · simp only [List.length_nil, Nat.add_zero]; intro h4; omega
  | c :: l, x, w, h, cs, r, rs, hr => by
    unfold tyGo
    by_cases hc : c = 47
    · rw [if_pos hc]
      simp only [rowsI, if_pos hc, List.cons.injEq] at hr
      obtain ⟨rfl, rfl⟩ := hr
      by_cases hx : (0 < h ∧ x ≠ w) ∨ x = 0
      · rw [if_pos hx, if_neg]
        rintro ⟨_, h2, h3, _⟩
        simp only [List.length_nil, Nat.add_zero] at h2 h3
        rcases hx with ⟨h4, h5⟩ | h5
        · exact h5 (h3 h4)
        · omega
      · rw [if_neg hx]
        cases hrr : rowsI 47 l with
        | nil => exact absurd hrr (rowsI_ne _ _)
        | cons r' rs' =>
          rw [tyGo_rows l 0 x (h + 1) cs r' rs' hrr]
          simp only [Nat.zero_add, List.length_nil, Nat.add_zero, List.length_cons, List.flatten_cons, List.append_nil]
          by_cases hg : (∀ c ∈ r', isCellC c = true) ∧ 0 < r'.length ∧ (0 < h + 1 → r'.length = x) ∧ rowsGood r'.length rs'
          · have hxl := hg.2.2.1 (by omega)
            rw [if_pos hg, if_pos]
            · rw [hxl]; simp; omega
            · refine ⟨by simp, by omega, by intro h4; omega, ?_⟩
              intro q hq
              rcases List.mem_cons.1 hq with rfl | hq
              · exact ⟨hxl, hg.1⟩
              · have := hg.2.2.2 q hq; rwa [hxl] at this
          · rw [if_neg hg, if_neg]
            rintro ⟨_, h2, h3, h4⟩
            have h5 := h4 r' (List.mem_cons_self ..)
            refine hg ⟨h5.2, by omega, fun _ => h5.1, fun q hq => ?_⟩
            have := h4 q (List.mem_cons_of_mem _ hq)
            rwa [← h5.1] at this
    · rw [if_neg hc]
      simp only [rowsI, if_neg hc, List.cons.injEq] at hr
      cases hrr : rowsI 47 l with
      | nil => exact absurd hrr (rowsI_ne _ _)
      | cons r' rs' =>
        rw [hrr] at hr
        simp only [List.headD_cons, List.tail_cons] at hr
        obtain ⟨rfl, rfl⟩ := hr
        have hlen : x + 1 + r'.length = x + (c :: r').length := by simp; omega
        by_cases hcell : isCellC c = true
        · rw [if_pos hcell, tyGo_rows l (x + 1) w h (cs ++ [c]) r' rs' hrr, hlen]
          have e1 : (∀ d ∈ c :: r', isCellC d = true) ↔ (∀ d ∈ r', isCellC d = true) := by
            constructor
            · intro hh d hd; exact hh d (List.mem_cons_of_mem _ hd)
            · intro hh d hd
              rcases List.mem_cons.1 hd with rfl | hd
              · exact hcell
              · exact hh d hd
          simp only [e1, List.append_assoc, List.singleton_append, List.cons_append, List.nil_append]
        · rw [if_neg hcell, if_neg]
          rintro ⟨h1, _⟩
          exact hcell (h1 c (List.mem_cons_self ..))
theorem rowsI_length (c : Int) : ∀ (l : List Int) (r : List Int) (rs : List (List Int)), rowsI c l = r :: rs → l.length = r.length + rs.flatten.length + rs.length
  | [], r, rs, hr => by
    simp only [rowsI, List.cons.injEq] at hr
    obtain ⟨rfl, rfl⟩ := hr; rfl
  | b :: l, r, rs, hr => by
    cases hrr : rowsI c l with
    | nil => exact absurd hrr (rowsI_ne _ _)
    | cons r' rs' =>
      have ih := rowsI_length c l r' rs' hrr
      rw [rowsI, hrr] at hr
      split at hr
      · simp only [List.cons.injEq] at hr
        obtain ⟨rfl, rfl⟩ := hr
        simp only [List.length_cons, List.length_nil, List.flatten_cons, List.length_append]; omega
      · simp only [List.cons.injEq, List.headD_cons, List.tail_cons] at hr
        obtain ⟨rfl, rfl⟩ := hr
        simp only [List.length_cons]; omega
theorem rowsI_count (c n : Int) (hn : n ≠ c) : ∀ l : List Int, l.count n = (rowsI c l).flatten.count n
  | [] => by simp [rowsI]
  | b :: l => by
    have ih := rowsI_count c n hn l
    cases hrr : rowsI c l with
    | nil => exact absurd hrr (rowsI_ne _ _)
    | cons r' rs' =>
      rw [hrr] at ih
      rw [rowsI, hrr]
      split
      · rename_i hb
        subst hb
        rw [List.count_cons_of_ne (Ne.symm hn), ih]; simp
      · simp only [List.headD_cons, List.tail_cons, List.flatten_cons, List.cons_append, List.count_cons] at ih ⊢
        rw [ih]
theorem rowsGood_flatten {w : Nat} : ∀ {rs : List (List Int)}, rowsGood w rs → rs.flatten.length = w * rs.length
  | [], _ => rfl
  | r :: rs, h => by
    have h1 := (h r (List.mem_cons_self ..)).1
    have ih := rowsGood_flatten (fun q hq => h q (List.mem_cons_of_mem _ hq))
    simp only [List.flatten_cons, List.length_append, List.length_cons, ih, h1, Nat.mul_add]; omega
theorem isNameC_iff (c : Int) : isNameC c = true ↔ 97 ≤ c ∧ c ≤ 102 := by simp [isNameC]
theorem namesOk_iff (cs : List Int) : namesOk cs ↔ ∀ n : Int, 97 ≤ n → n ≤ 102 → cs.count n ≤ 1 := by
  unfold namesOk
  constructor
  · intro h n h1 h2
    rcases Nat.lt_or_ge 1 (cs.count n) with h3 | h3
    · exfalso
      have hd : ¬ (cs.filter (· == n)).Nodup := by
        intro hn
        have e : cs.filter (· == n) = List.replicate (cs.count n) n := List.filter_beq n ..
        rw [e, List.nodup_replicate] at hn
        omega
      have : ∃ i j, j < i ∧ i < cs.length ∧ cs.getD j 0 = n ∧ cs.getD i 0 = n := by
        clear h hd
        induction cs with
        | nil => simp at h3
        | cons b l ih =>
          by_cases hb : b = n
          · have h4 : 0 < l.count n := by rw [hb, List.count_cons_self] at h3; omega
            obtain ⟨i, hi, hin⟩ := List.mem_iff_getElem.1 (List.count_pos_iff.1 h4)
            exact ⟨i + 1, 0, by omega, by simp; omega, by simp [hb], by simp [hi, hin]⟩
          · rw [List.count_cons_of_ne hb] at h3
            obtain ⟨i, j, h5, h6, h7, h8⟩ := ih h3
            exact ⟨i + 1, j + 1, by omega, by simp; omega, by simpa using h7, by simpa using h8⟩
      obtain ⟨i, j, h5, h6, h7, h8⟩ := this
      have h9 := h i h6 j h5 (h7.trans h8.symm)
      have h10 := (isNameC_iff (cs.getD i 0)).2 (by rw [h8]; exact ⟨h1, h2⟩)
      rw [h9] at h10; cases h10
    · exact h3
  · intro h i hi j hj he
    cases hb : isNameC (cs.getD i 0) with
    | false => rfl
    | true =>
      exfalso
      rw [isNameC_iff] at hb
      have h1 := h _ hb.1 hb.2
      have : 2 ≤ cs.count (cs.getD i 0) := by
        clear h h1 hb
        induction cs generalizing i j with
        | nil => simp at hi
        | cons b l ih =>
          cases i with
          | zero => omega
          | succ i =>
            simp only [List.getD_cons_succ] at he ⊢
            simp only [List.length_cons] at hi
            cases j with
            | zero =>
              simp only [List.getD_cons_zero] at he
              have h4 : 0 < l.count (l.getD i 0) := by
                rw [List.count_pos_iff, List.getD_eq_getElem?_getD, List.getElem?_eq_getElem (by omega)]
                exact List.getElem_mem ..
              rw [he, List.count_cons_self]; omega
            | succ j =>
              simp only [List.getD_cons_succ] at he
              have := ih i (by omega) j (by omega) he
              rw [List.count_cons]; omega
      omega
/-- Is a text a tray, by its rows. -/
def rowsTray (l : List Int) : Prop :=
  (1 ≤ ((rowsI 47 l).headD []).length ∧ ((rowsI 47 l).headD []).length ≤ 7) ∧ (1 ≤ (rowsI 47 l).length ∧ (rowsI 47 l).length ≤ 7) ∧ ((rowsI 47 l).headD []).length * (rowsI 47 l).length ≤ 36 ∧
  rowsGood ((rowsI 47 l).headD []).length (rowsI 47 l) ∧ ∀ n : Int, 97 ≤ n → n ≤ 102 → l.count n ≤ 1
theorem tyGo_start (l : List Int) (r : List Int) (rs : List (List Int)) (hr : rowsI 47 l = r :: rs) :
    tyGo l 0 0 0 [] = if 0 < r.length ∧ rowsGood r.length (r :: rs) then some (r.length, rs.length + 1, (r :: rs).flatten) else none := by
  rw [tyGo_rows l 0 0 0 [] r rs hr]
  simp only [Nat.zero_add, List.nil_append, List.flatten_cons]
  by_cases h : 0 < r.length ∧ rowsGood r.length (r :: rs)
  · rw [if_pos h, if_pos, Nat.add_comm]
    exact ⟨(h.2 r (List.mem_cons_self ..)).2, h.1, by omega, fun q hq => h.2 q (List.mem_cons_of_mem _ hq)⟩
  · rw [if_neg h, if_neg]
    rintro ⟨h1, h2, _, h4⟩
    refine h ⟨h2, fun q hq => ?_⟩
    rcases List.mem_cons.1 hq with rfl | hq
    · exact ⟨rfl, h1⟩
    · exact h4 q hq
theorem tyGrid_iff (l : List Int) : (tyGrid l).isSome = true ↔ rowsTray l := by
  unfold tyGrid rowsTray
  cases hr : rowsI 47 l with
  | nil => exact absurd hr (rowsI_ne _ _)
  | cons r rs =>
    have hlen := rowsI_length 47 l r rs hr
    have hcount := fun n hn => rowsI_count 47 n hn l
    rw [hr] at hcount
    rw [tyGo_start l r rs hr]
    simp only [List.headD_cons, List.length_cons]
    have hcnt : (∀ n : Int, 97 ≤ n → n ≤ 102 → l.count n ≤ 1) ↔ namesOk (r :: rs).flatten := by
      rw [namesOk_iff]
      constructor
      · intro h n h1 h2; rw [← hcount n (by omega)]; exact h n h1 h2
      · intro h n h1 h2; rw [hcount n (by omega)]; exact h n h1 h2
    rw [hcnt]
    by_cases hg : 0 < r.length ∧ rowsGood r.length (r :: rs)
    · have hf := rowsGood_flatten hg.2
      simp only [List.length_cons] at hf
      have hf2 : r.length + rs.flatten.length = r.length * (rs.length + 1) := by rw [← hf]; simp
      rw [if_pos hg]
      simp only [hf]
      by_cases h42 : l.length > 42
      · rw [if_pos h42]
        constructor
        · intro h; cases h
        · rintro ⟨_, ⟨_, h2⟩, h3, _⟩; omega
      · rw [if_neg h42]
        by_cases hc : r.length ≤ 7 ∧ rs.length + 1 ≤ 7 ∧ r.length * (rs.length + 1) ≤ 36 ∧ namesOk (r :: rs).flatten
        · rw [if_pos hc]
          constructor
          · intro _; exact ⟨⟨hg.1, hc.1⟩, ⟨by omega, hc.2.1⟩, hc.2.2.1, hg.2, hc.2.2.2⟩
          · intro _; rfl
        · rw [if_neg hc]
          constructor
          · intro h; cases h
          · rintro ⟨h1, h2, h3, _, h5⟩; exact absurd ⟨h1.2, h2.2, h3, h5⟩ hc
    · rw [if_neg hg]
      have e : (if l.length > 42 then (none : Option (Nat × Nat × List Int)) else none) = none := by split <;> rfl
      constructor
      · intro h
        split at h <;> cases h
      · rintro ⟨h1, _, _, h4, _⟩; exact absurd ⟨h1.1, h4⟩ hg
end Go.Proofs.YtipjmlcbbimfpaaDoor
