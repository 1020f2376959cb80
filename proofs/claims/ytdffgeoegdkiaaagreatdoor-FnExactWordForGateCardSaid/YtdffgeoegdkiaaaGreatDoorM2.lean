/- The proof that the law's row holds, part 2: the kit's words, the printed walks and the plain law. No conditions beyond the card's own. -/
import Derived.Maps.Views
import Derived.Maps.Keyed
import Derived.Maps.RangeWalk
import Derived.StillTailTactics
import Derived.Maps.OwnOps
import Derived.Test.YtdffgeoegdkiaaaGreatDoorM0
import Derived.Test.YtdffgeoegdkiaaaGreatDoorM1
set_option linter.unusedVariables false
set_option linter.unusedSimpArgs false
namespace Go.Proofs.YtdffgeoegdkiaaaGreatDoor
open Go.RowKit Go.Proofs.YtdffgeoegdkiaaaGreatDoorW.PrintWords Go.Proofs.YtdffgeoegdkiaaaGreatDoorW.PrintMore
def putAll (cs : List Int) (out : List Int) (m : List (Nat × Nat)) : List Int := m.foldl (fun o p => o.set p.2 (cs.getD p.1 0)) out
theorem putAll_nil (cs out : List Int) : putAll cs out [] = out := rfl
theorem putAll_cons (cs out : List Int) (p : Nat × Nat) (m : List (Nat × Nat)) : putAll cs out (p :: m) = putAll cs (out.set p.2 (cs.getD p.1 0)) m := rfl
theorem putAll_app (cs out : List Int) (m n : List (Nat × Nat)) : putAll cs out (m ++ n) = putAll cs (putAll cs out m) n := by unfold putAll; rw [List.foldl_append]
theorem putAll_length (cs : List Int) : ∀ (m : List (Nat × Nat)) (out : List Int), (putAll cs out m).length = out.length
  | [], out => rfl
  | p :: m, out => by rw [putAll_cons, putAll_length cs m, List.length_set]
theorem getD_set (l : List Int) (i j : Nat) (v : Int) : (l.set i v).getD j 0 = if i = j ∧ i < l.length then v else l.getD j 0 := by
  rw [List.getD_eq_getElem?_getD, List.getD_eq_getElem?_getD, List.getElem?_set]
  by_cases h : i = j
  · subst h
    by_cases h2 : i < l.length
    · rw [if_pos rfl, if_pos h2, if_pos ⟨rfl, h2⟩]; rfl
    · rw [if_pos rfl, if_neg h2, if_neg (fun h => h2 h.2), List.getElem?_eq_none (by omega)]
  · rw [if_neg h, if_neg (fun q => h q.1)]
theorem putAll_far (cs : List Int) {j : Nat} : ∀ (m : List (Nat × Nat)) (out : List Int), (∀ p ∈ m, p.2 ≠ j) → (putAll cs out m).getD j 0 = out.getD j 0
  | [], _, _ => rfl
  | p :: m, out, h => by
    rw [putAll_cons, putAll_far cs m _ (fun q hq => h q (List.mem_cons_of_mem _ hq)), getD_set, if_neg (fun e => h p List.mem_cons_self e.1)]
theorem putAll_at (cs : List Int) {p : Nat × Nat} : ∀ (m : List (Nat × Nat)) (out : List Int), (m.map Prod.snd).Nodup → p ∈ m → p.2 < out.length → (putAll cs out m).getD p.2 0 = cs.getD p.1 0
  | [], _, _, h, _ => by cases h
  | q :: m, out, hn, h, hl => by
    rw [List.map_cons, List.nodup_cons] at hn
    rw [putAll_cons]
    rcases List.mem_cons.1 h with rfl | h
    · rw [putAll_far cs m _ (fun r hr e => hn.1 (List.mem_map.2 ⟨r, hr, e⟩)), getD_set, if_pos ⟨rfl, hl⟩]
    · exact putAll_at cs m _ hn.2 h (by rw [List.length_set]; exact hl)
theorem list_ext_getD {a b : List Int} (hl : a.length = b.length) (h : ∀ i, i < a.length → a.getD i 0 = b.getD i 0) : a = b := by
  apply List.ext_getElem hl
  intro i h1 h2
  have := h i h1
  rwa [getD_at h1, getD_at h2] at this
theorem putAll_perm (cs : List Int) {m n : List (Nat × Nat)} (h : m.Perm n) (hn : (m.map Prod.snd).Nodup) (out : List Int) : putAll cs out m = putAll cs out n := by
  have hn' : (n.map Prod.snd).Nodup := (h.map Prod.snd).nodup_iff.1 hn
  refine list_ext_getD (by rw [putAll_length, putAll_length]) fun i hi => ?_
  rw [putAll_length] at hi
  by_cases hex : ∃ p ∈ m, p.2 = i
  · obtain ⟨p, hp, rfl⟩ := hex
    rw [putAll_at cs m out hn hp hi, putAll_at cs n out hn' (h.mem_iff.1 hp) hi]
  · rw [putAll_far cs m out (fun p hp e => hex ⟨p, hp, e⟩), putAll_far cs n out (fun p hp e => hex ⟨p, h.mem_iff.2 hp, e⟩)]
def mvs (b : Nat → Bool) (S : List (List Nat)) : List (Nat × Nat) := S.flatMap fun st => (st.filter b).zip st
theorem map_snd_zip : ∀ (a c : List Nat), a.length ≤ c.length → (a.zip c).map Prod.snd = c.take a.length
  | [], c, _ => by simp
  | x :: a, [], h => by simp at h
  | x :: a, y :: c, h => by
    rw [List.zip_cons_cons, List.map_cons, map_snd_zip a c (by simpa using h), List.length_cons, List.take_succ_cons]
theorem zip_snd {b : Nat → Bool} (st : List Nat) : ((st.filter b).zip st).map Prod.snd = st.take (st.filter b).length := map_snd_zip _ _ (List.length_filter_le _ _)
theorem zip_fst {b : Nat → Bool} (st : List Nat) : ((st.filter b).zip st).map Prod.fst = st.filter b :=
  List.map_fst_zip (List.length_filter_le _ _)
theorem mvs_snd_sub (b : Nat → Bool) : ∀ S : List (List Nat), ((mvs b S).map Prod.snd).Sublist S.flatten
  | [] => List.Sublist.refl _
  | st :: S => by
    unfold mvs
    rw [List.flatMap_cons, List.map_append, List.flatten_cons, zip_snd]
    exact (List.take_sublist _ _).append (mvs_snd_sub b S)
theorem mvs_fst (b : Nat → Bool) : ∀ S : List (List Nat), (mvs b S).map Prod.fst = S.flatten.filter b
  | [] => rfl
  | st :: S => by
    unfold mvs
    rw [List.flatMap_cons, List.map_append, List.flatten_cons, List.filter_append, zip_fst]
    congr 1
    exact mvs_fst b S
structure Str (n : Nat) (S : List (List Nat)) : Prop where
  nodup : S.flatten.Nodup
  lt : ∀ st ∈ S, ∀ i ∈ st, i < n
theorem Str.snd {n : Nat} {S : List (List Nat)} (h : Str n S) (b : Nat → Bool) : ((mvs b S).map Prod.snd).Nodup := (mvs_snd_sub b S).nodup h.nodup
theorem Str.fst {n : Nat} {S : List (List Nat)} (h : Str n S) (b : Nat → Bool) : ((mvs b S).map Prod.fst).Nodup := by rw [mvs_fst]; exact h.nodup.filter _
def runsF (p : Nat → Bool) : List Nat → List Nat → List (List Nat)
  | own, [] => if own = [] then [] else [own]
  | own, k :: l => if p k = true then runsF p (own ++ [k]) l else if own = [] then runsF p [] l else own :: runsF p [] l
def startsF (p : Nat → Bool) : Bool → List Nat → List (List Nat)
  | _, [] => []
  | prev, k :: l => if p k = true then (if prev = true then startsF p true l else ((k :: l).takeWhile p) :: startsF p true l) else startsF p false l
theorem runs_starts (p : Nat → Bool) : ∀ (l own : List Nat), runsF p own l = if own = [] then startsF p false l else (own ++ l.takeWhile p) :: startsF p true l
  | [], own => by
    unfold runsF startsF
    by_cases h : own = []
    · rw [if_pos h, if_pos h]
    · rw [if_neg h, if_neg h]; simp
  | k :: l, own => by
    unfold runsF startsF
    have h1 := runs_starts p l (own ++ [k])
    have h2 := runs_starts p l []
    rw [if_neg (by simp)] at h1
    rw [if_pos rfl] at h2
    rw [h1, h2, List.takeWhile_cons]
    by_cases hk : p k = true
    · by_cases h : own = []
      · subst h; simp [hk]
      · simp [hk, h]
    · by_cases h : own = []
      · subst h; simp [hk]
      · simp [hk, h]
theorem starts_range (p : Nat → Bool) (f : Nat → Nat) (K : Nat) : ∀ (d b : Nat), b + d = K → startsF p (decide (0 < b) && p (f (b - 1))) (((List.range K).map f).drop b) =
    ((List.range' b d).filter fun b => p (f b) && !(decide (0 < b) && p (f (b - 1)))).map fun b => (((List.range K).map f).drop b).takeWhile p
  | 0, b, h => by
    rw [List.drop_eq_nil_of_le (by simp; omega)]; rfl
  | d + 1, b, h => by
    have ih := starts_range p f K d (b + 1) (by omega)
    have hd : ((List.range K).map f).drop b = f b :: ((List.range K).map f).drop (b + 1) := by
      rw [List.drop_eq_getElem_cons (by simp; omega)]; simp
    rw [List.range'_succ, List.filter_cons]
    conv => lhs; rw [hd]
    unfold startsF
    rw [show (decide (0 < b + 1) && p (f (b + 1 - 1))) = p (f b) by simp] at ih
    by_cases h1 : p (f b) = true
    · rw [h1] at ih
      by_cases h2 : (decide (0 < b) && p (f (b - 1))) = true
      · rw [if_pos h1, if_pos h2, ih, h1, h2]; simp
      · have h2' : (decide (0 < b) && p (f (b - 1))) = false := by simpa using h2
        rw [if_pos h1, if_neg h2, ih, h1, h2', if_pos (by rfl), List.map_cons, hd]
    · have h1' : p (f b) = false := by simpa using h1
      rw [h1'] at ih
      rw [if_neg h1, ih, h1', if_neg (by simp)]
def leastL : List Nat → Nat
  | [] => 0
  | a :: l => l.foldl Nat.min a
theorem foldl_min_le : ∀ (l : List Nat) (a : Nat), l.foldl Nat.min a ≤ a ∧ (∀ x ∈ l, l.foldl Nat.min a ≤ x) ∧ (l.foldl Nat.min a = a ∨ l.foldl Nat.min a ∈ l)
  | [], a => ⟨Nat.le_refl _, fun _ h => (by cases h), .inl rfl⟩
  | b :: l, a => by
    obtain ⟨h1, h2, h3⟩ := foldl_min_le l (Nat.min a b)
    have m1 : Nat.min a b ≤ a := Nat.min_le_left a b
    have m2 : Nat.min a b ≤ b := Nat.min_le_right a b
    rw [List.foldl_cons]
    refine ⟨Nat.le_trans h1 m1, fun x hx => ?_, ?_⟩
    · rcases List.mem_cons.1 hx with rfl | hx
      · exact Nat.le_trans h1 m2
      · exact h2 x hx
    · rcases h3 with h3 | h3
      · rcases Nat.le_total a b with h | h
        · exact .inl (h3.trans (Nat.min_eq_left h))
        · exact .inr (List.mem_cons.2 (.inl (h3.trans (Nat.min_eq_right h))))
      · exact .inr (List.mem_cons_of_mem _ h3)
theorem leastL_mem {l : List Nat} (h : l ≠ []) : leastL l ∈ l := by
  cases l with
  | nil => exact absurd rfl h
  | cons a l =>
    rcases (foldl_min_le l a).2.2 with e | e
    · exact List.mem_cons.2 (.inl e)
    · exact List.mem_cons_of_mem _ e
def insK (x : List Nat) : List (List Nat) → List (List Nat)
  | [] => [x]
  | y :: ys => if leastL y < leastL x then y :: insK x ys else x :: y :: ys
def sortK (l : List (List Nat)) : List (List Nat) := l.foldl (fun out x => insK x out) []
theorem insK_perm (x : List Nat) : ∀ l, (insK x l).Perm (x :: l)
  | [] => List.Perm.refl _
  | y :: ys => by
    unfold insK
    split
    · exact ((insK_perm x ys).cons y).trans (List.Perm.swap _ _ _)
    · exact List.Perm.refl _
theorem insK_sorted (x : List Nat) : ∀ l, l.Pairwise (fun a b => leastL a ≤ leastL b) → (insK x l).Pairwise (fun a b => leastL a ≤ leastL b)
  | [], _ => List.pairwise_singleton _ _
  | y :: ys, h => by
    rw [List.pairwise_cons] at h
    unfold insK
    split
    · rename_i hlt
      rw [List.pairwise_cons]
      refine ⟨fun z hz => ?_, insK_sorted x ys h.2⟩
      rcases List.mem_cons.1 ((insK_perm x ys).mem_iff.1 hz) with rfl | hz
      · exact Nat.le_of_lt hlt
      · exact h.1 z hz
    · rename_i hlt
      rw [List.pairwise_cons, List.pairwise_cons]
      exact ⟨fun z hz => by
        rcases List.mem_cons.1 hz with rfl | hz
        · omega
        · have := h.1 z hz; omega, h⟩
theorem sortK_go : ∀ (l acc : List (List Nat)), acc.Pairwise (fun a b => leastL a ≤ leastL b) → (l.foldl (fun out x => insK x out) acc).Perm (l ++ acc) ∧ (l.foldl (fun out x => insK x out) acc).Pairwise (fun a b => leastL a ≤ leastL b)
  | [], acc, h => ⟨List.Perm.refl _, h⟩
  | x :: l, acc, h => by
    obtain ⟨h1, h2⟩ := sortK_go l (insK x acc) (insK_sorted x acc h)
    exact ⟨h1.trans (((insK_perm x acc).append_left l).trans List.perm_middle), h2⟩
theorem sortK_perm (l : List (List Nat)) : (sortK l).Perm l := by have := (sortK_go l [] List.Pairwise.nil).1; rwa [List.append_nil] at this
theorem sortK_sorted (l : List (List Nat)) : (sortK l).Pairwise (fun a b => leastL a ≤ leastL b) := (sortK_go l [] List.Pairwise.nil).2
theorem sorted_one : ∀ (a b : List (List Nat)), a.Perm b → (a.map leastL).Nodup → a.Pairwise (fun a b => leastL a ≤ leastL b) → b.Pairwise (fun a b => leastL a ≤ leastL b) → a = b
  | [], b, h, _, _, _ => (List.Perm.nil_eq h)
  | x :: a, [], h, _, _, _ => absurd h.length_eq (by simp)
  | x :: a, y :: b, h, hn, ha, hb => by
    rw [List.pairwise_cons] at ha hb
    rw [List.map_cons, List.nodup_cons] at hn
    have hxy : x = y := by
      rcases List.mem_cons.1 (h.mem_iff.1 List.mem_cons_self) with e | hx
      · exact e
      · rcases List.mem_cons.1 (h.mem_iff.2 (List.mem_cons_self : y ∈ y :: b)) with e | hy
        · exact e.symm
        · have h1 := hb.1 x hx
          have h2 := ha.1 y hy
          exact absurd (List.mem_map.2 ⟨y, hy, by omega⟩) hn.1
    subst hxy
    rw [sorted_one a b ((List.perm_cons x).1 h) hn.2 ha.2 hb.2]
theorem keys_nodup : ∀ {S : List (List Nat)}, S.flatten.Nodup → (∀ st ∈ S, st ≠ []) → (S.map leastL).Nodup
  | [], _, _ => List.nodup_nil
  | st :: S, h, hne => by
    rw [List.flatten_cons, List.nodup_append] at h
    rw [List.map_cons, List.nodup_cons]
    refine ⟨fun hm => ?_, keys_nodup h.2.1 (fun s hs => hne s (List.mem_cons_of_mem _ hs))⟩
    obtain ⟨s, hs, e⟩ := List.mem_map.1 hm
    have m1 := leastL_mem (hne st List.mem_cons_self)
    have m2 := leastL_mem (hne s (List.mem_cons_of_mem _ hs))
    exact h.2.2 _ m1 _ (List.mem_flatten.2 ⟨s, hs, m2⟩) e.symm
def lnM (w h d : Nat) : Nat := if d = 0 ∨ d = 2 then w else h
def lnK (w h d : Nat) : Nat := if d = 0 ∨ d = 2 then h else w
def pX (w d a b : Nat) : Nat := if d = 0 then a else if d = 1 then w - 1 - b else if d = 2 then a else b
def pY (h d a b : Nat) : Nat := if d = 0 then b else if d = 1 then a else if d = 2 then h - 1 - b else a
def pos (w h d a b : Nat) : Nat := pY h d a b * w + pX w d a b
def lnA (w d i : Nat) : Nat := if d = 0 ∨ d = 2 then i % w else i / w
def lnB (w h d i : Nat) : Nat := if d = 0 then i / w else if d = 1 then w - 1 - i % w else if d = 2 then h - 1 - i / w else i % w
theorem dir4 {d : Nat} (h : d < 4) : d = 0 ∨ d = 1 ∨ d = 2 ∨ d = 3 := by omega
theorem pos_lt {w h d a b : Nat} (hd : d < 4) (ha : a < lnM w h d) (hb : b < lnK w h d) : pX w d a b < w ∧ pY h d a b < h ∧ pos w h d a b < w * h := by
  have key : pX w d a b < w ∧ pY h d a b < h := by
    rcases dir4 hd with rfl | rfl | rfl | rfl <;> simp [lnM, lnK, pX, pY] at * <;> omega
  exact ⟨key.1, key.2, place_lt key.1 key.2⟩
theorem pos_inv {w h d a b : Nat} (hd : d < 4) (ha : a < lnM w h d) (hb : b < lnK w h d) : lnA w d (pos w h d a b) = a ∧ lnB w h d (pos w h d a b) = b := by
  obtain ⟨h1, h2, _⟩ := pos_lt hd ha hb
  have e1 : pos w h d a b % w = pX w d a b := place_mod h1
  have e2 : pos w h d a b / w = pY h d a b := place_div h1
  unfold lnA lnB
  rw [e1, e2]
  rcases dir4 hd with rfl | rfl | rfl | rfl <;> simp [lnM, lnK, pX, pY] at * <;> omega
theorem inv_pos {w h d i : Nat} (hd : d < 4) (hi : i < w * h) : lnA w d i < lnM w h d ∧ lnB w h d i < lnK w h d ∧ pos w h d (lnA w d i) (lnB w h d i) = i := by
  obtain ⟨h1, h2, h3⟩ := place_of hi
  have g : ∀ x y, x = i % w → y = i / w → y * w + x = i := fun x y hx hy => by rw [hx, hy]; exact h3
  unfold lnA lnB
  generalize i / w = q at *
  generalize i % w = r at *
  rcases dir4 hd with rfl | rfl | rfl | rfl <;> simp only [lnM, lnK, pos, pX, pY]
  · exact ⟨by simpa using h1, by simpa using h2, by simpa using h3⟩
  · exact ⟨by simpa using h2, by simp; omega, g _ _ (by simp; omega) (by simp)⟩
  · exact ⟨by simpa using h1, by simp; omega, g _ _ (by simp) (by simp; omega)⟩
  · exact ⟨by simpa using h2, by simpa using h1, by simpa using h3⟩
def lineD (w h d a : Nat) : List Nat := (List.range (lnK w h d)).map (pos w h d a)
def linesD (w h d : Nat) : List (List Nat) := (List.range (lnM w h d)).map (lineD w h d)
theorem mem_lines {w h d i : Nat} (hd : d < 4) : i ∈ (linesD w h d).flatten ↔ i < w * h := by
  constructor
  · intro hi
    obtain ⟨l, hl, hil⟩ := List.mem_flatten.1 hi
    obtain ⟨a, ha, rfl⟩ := List.mem_map.1 hl
    obtain ⟨b, hb, rfl⟩ := List.mem_map.1 hil
    exact (pos_lt hd (List.mem_range.1 ha) (List.mem_range.1 hb)).2.2
  · intro hi
    obtain ⟨h1, h2, h3⟩ := inv_pos hd hi
    exact List.mem_flatten.2 ⟨_, List.mem_map.2 ⟨_, List.mem_range.2 h1, rfl⟩, List.mem_map.2 ⟨_, List.mem_range.2 h2, h3⟩⟩
theorem nodup_map_on {α β : Type} {f : α → β} : ∀ {l : List α}, (∀ x ∈ l, ∀ y ∈ l, f x = f y → x = y) → l.Nodup → (l.map f).Nodup
  | [], _, _ => List.nodup_nil
  | a :: l, h, hn => by
    rw [List.nodup_cons] at hn
    rw [List.map_cons, List.nodup_cons]
    refine ⟨fun hm => ?_, nodup_map_on (fun x hx y hy => h x (List.mem_cons_of_mem _ hx) y (List.mem_cons_of_mem _ hy)) hn.2⟩
    obtain ⟨x, hx, e⟩ := List.mem_map.1 hm
    rw [h x (List.mem_cons_of_mem _ hx) a List.mem_cons_self e] at hx
    exact hn.1 hx
theorem flatMap_nodup {α β : Type} {f : α → List β} : ∀ {l : List α}, (∀ x ∈ l, (f x).Nodup) → (∀ x ∈ l, ∀ y ∈ l, ∀ z, z ∈ f x → z ∈ f y → x = y) → l.Nodup → (l.flatMap f).Nodup
  | [], _, _, _ => List.nodup_nil
  | a :: l, h1, h2, hn => by
    rw [List.nodup_cons] at hn
    rw [List.flatMap_cons, List.nodup_append]
    refine ⟨h1 a List.mem_cons_self, flatMap_nodup (fun x hx => h1 x (List.mem_cons_of_mem _ hx)) (fun x hx y hy => h2 x (List.mem_cons_of_mem _ hx) y (List.mem_cons_of_mem _ hy)) hn.2, ?_⟩
    rintro z hz _ hz' rfl
    obtain ⟨x, hx, hzx⟩ := List.mem_flatMap.1 hz'
    rw [h2 a List.mem_cons_self x (List.mem_cons_of_mem _ hx) z hz hzx] at hn
    exact hn.1 hx
theorem lines_nodup {w h d : Nat} (hd : d < 4) : (linesD w h d).flatten.Nodup := by
  unfold linesD
  rw [← List.flatMap_def]
  refine flatMap_nodup (fun a ha => nodup_map_on (fun x hx y hy e => ?_) List.nodup_range) (fun a ha c hc z hz hz' => ?_) List.nodup_range
  · have h1 := pos_inv hd (List.mem_range.1 ha) (List.mem_range.1 hx)
    have h2 := pos_inv hd (List.mem_range.1 ha) (List.mem_range.1 hy)
    rw [← h1.2, ← h2.2, e]
  · obtain ⟨b, hb, rfl⟩ := List.mem_map.1 hz
    obtain ⟨b', hb', e⟩ := List.mem_map.1 hz'
    have h1 := pos_inv hd (List.mem_range.1 ha) (List.mem_range.1 hb)
    have h2 := pos_inv hd (List.mem_range.1 hc) (List.mem_range.1 hb')
    rw [← h1.1, ← h2.1, e]
theorem lines_perm {w h d : Nat} (hd : d < 4) : (linesD w h d).flatten.Perm (List.range (w * h)) := by
  rw [List.perm_ext_iff_of_nodup (lines_nodup hd) List.nodup_range]
  intro i
  rw [mem_lines hd, List.mem_range]
def openAt (cs : List Int) (i : Nat) : Bool := isOpenC (cs.getD i 0)
def ballAt (cs : List Int) (i : Nat) : Bool := isBallC (cs.getD i 0)
def strI (w h d : Nat) (cs : List Int) : List (List Nat) := (linesD w h d).flatMap (runsF (openAt cs) [])
def tailD (w h d : Nat) (cs : List Int) (i : Nat) : List Nat := ((lineD w h d (lnA w d i)).drop (lnB w h d i)).takeWhile (openAt cs)
def endD (w h d : Nat) (cs : List Int) (i : Nat) : Bool := openAt cs i && !(decide (0 < lnB w h d i) && openAt cs (pos w h d (lnA w d i) (lnB w h d i - 1)))
def strS (w h d : Nat) (cs : List Int) : List (List Nat) := ((List.range (w * h)).filter (endD w h d cs)).map (tailD w h d cs)
theorem filter_congr_ {α : Type} {p q : α → Bool} {l : List α} (h : ∀ x ∈ l, p x = q x) : l.filter p = l.filter q := List.filter_congr h
theorem line_runs {w h d a : Nat} (hd : d < 4) (ha : a < lnM w h d) (cs : List Int) : runsF (openAt cs) [] (lineD w h d a) = ((lineD w h d a).filter (endD w h d cs)).map (tailD w h d cs) := by
  have h1 := runs_starts (openAt cs) (lineD w h d a) []
  rw [if_pos rfl] at h1
  have h2 := starts_range (openAt cs) (pos w h d a) (lnK w h d) (lnK w h d) 0 (by omega)
  rw [show (decide (0 < 0) && openAt cs (pos w h d a (0 - 1))) = false by simp, List.drop_zero, ← List.range_eq_range'] at h2
  rw [h1]
  refine h2.trans ?_
  unfold lineD
  rw [List.filter_map, List.map_map]
  have e : ∀ b ∈ List.range (lnK w h d), (endD w h d cs ∘ pos w h d a) b = (openAt cs (pos w h d a b) && !(decide (0 < b) && openAt cs (pos w h d a (b - 1)))) := fun b hb => by
    obtain ⟨e1, e2⟩ := pos_inv hd ha (List.mem_range.1 hb)
    show endD w h d cs (pos w h d a b) = _
    unfold endD
    rw [e1, e2]
  rw [filter_congr_ e]
  refine List.map_congr_left fun b hb => ?_
  obtain ⟨e1, e2⟩ := pos_inv hd ha (List.mem_range.1 (List.mem_filter.1 hb).1)
  show _ = tailD w h d cs (pos w h d a b)
  unfold tailD lineD
  rw [e1, e2]
theorem strI_eq {w h d : Nat} (hd : d < 4) (cs : List Int) : strI w h d cs = (((linesD w h d).flatten).filter (endD w h d cs)).map (tailD w h d cs) := by
  unfold strI
  have : ∀ l : List Nat, (∀ a ∈ l, a < lnM w h d) → (l.map (lineD w h d)).flatMap (runsF (openAt cs) []) = (((l.map (lineD w h d)).flatten).filter (endD w h d cs)).map (tailD w h d cs) := fun l => by
    induction l with
    | nil => intro _; rfl
    | cons a l ih =>
      intro hl
      rw [List.map_cons, List.flatMap_cons, List.flatten_cons, List.filter_append, List.map_append, ih (fun x hx => hl x (List.mem_cons_of_mem _ hx)), line_runs hd (hl a List.mem_cons_self)]
  exact this _ fun a ha => List.mem_range.1 ha
theorem strI_perm {w h d : Nat} (hd : d < 4) (cs : List Int) : (strI w h d cs).Perm (strS w h d cs) := by
  rw [strI_eq hd]
  exact ((lines_perm hd).filter _).map _
theorem runsF_flatten (p : Nat → Bool) : ∀ (l own : List Nat), (runsF p own l).flatten = own ++ l.filter p
  | [], own => by
    unfold runsF
    by_cases h : own = []
    · rw [if_pos h, h]; rfl
    · rw [if_neg h]; simp
  | k :: l, own => by
    unfold runsF
    rw [List.filter_cons]
    by_cases hk : p k = true
    · rw [if_pos hk, if_pos hk, runsF_flatten p l (own ++ [k]), List.append_assoc]; rfl
    · rw [if_neg hk, if_neg hk]
      by_cases h : own = []
      · rw [if_pos h, runsF_flatten p l [], h]
      · rw [if_neg h, List.flatten_cons, runsF_flatten p l []]; rfl
theorem runsF_ne (p : Nat → Bool) : ∀ (l own : List Nat), ∀ st ∈ runsF p own l, st ≠ []
  | [], own, st, hs => by
    unfold runsF at hs
    by_cases h : own = []
    · rw [if_pos h] at hs; cases hs
    · rw [if_neg h, List.mem_singleton] at hs; rw [hs]; exact h
  | k :: l, own, st, hs => by
    unfold runsF at hs
    by_cases hk : p k = true
    · rw [if_pos hk] at hs; exact runsF_ne p l _ st hs
    · rw [if_neg hk] at hs
      by_cases h : own = []
      · rw [if_pos h] at hs; exact runsF_ne p l _ st hs
      · rw [if_neg h] at hs
        rcases List.mem_cons.1 hs with rfl | hs
        · exact h
        · exact runsF_ne p l _ st hs
theorem strI_flatten (w h d : Nat) (cs : List Int) : (strI w h d cs).flatten = (linesD w h d).flatten.filter (openAt cs) := by
  unfold strI
  induction linesD w h d with
  | nil => rfl
  | cons a l ih => rw [List.flatMap_cons, List.flatten_append, List.flatten_cons, List.filter_append, ih, runsF_flatten]; rfl
theorem strI_ne {w h d : Nat} {cs : List Int} : ∀ st ∈ strI w h d cs, st ≠ [] := fun st hs => by
  obtain ⟨l, _, hl⟩ := List.mem_flatMap.1 hs
  exact runsF_ne _ _ _ st hl
def strD (w h d : Nat) (cs : List Int) : List (List Nat) := sortK (strS w h d cs)
theorem strD_perm {w h d : Nat} (hd : d < 4) (cs : List Int) : (strD w h d cs).Perm (strI w h d cs) := (sortK_perm _).trans (strI_perm hd cs).symm
theorem strI_keys {w h d : Nat} (hd : d < 4) (cs : List Int) : ((strI w h d cs).map leastL).Nodup :=
  keys_nodup (by rw [strI_flatten]; exact (lines_nodup hd).filter _) strI_ne
theorem strD_of {w h d : Nat} (hd : d < 4) {cs : List Int} {T : List (List Nat)} (hp : T.Perm (strI w h d cs)) (hs : T.Pairwise fun a b => leastL a ≤ leastL b) : T = strD w h d cs :=
  sorted_one _ _ (hp.trans (strD_perm hd cs).symm) ((hp.map leastL).nodup_iff.2 (strI_keys hd cs)) hs (sortK_sorted _)
theorem strD_ne {w h d : Nat} (hd : d < 4) {cs : List Int} : ∀ st ∈ strD w h d cs, st ≠ [] := fun st hs => strI_ne st ((strD_perm hd cs).mem_iff.1 hs)
theorem perm_flatten_ {a b : List (List Nat)} (h : a.Perm b) : a.flatten.Perm b.flatten := h.flatten
theorem strD_cells {w h d : Nat} (hd : d < 4) (cs : List Int) : (strD w h d cs).flatten.Perm ((List.range (w * h)).filter (openAt cs)) := by
  refine (perm_flatten_ (strD_perm hd cs)).trans ?_
  rw [strI_flatten]
  exact (lines_perm hd).filter _
theorem strD_mem {w h d : Nat} (hd : d < 4) {cs : List Int} {i : Nat} : i ∈ (strD w h d cs).flatten ↔ i < w * h ∧ openAt cs i = true := by
  rw [(strD_cells hd cs).mem_iff, List.mem_filter, List.mem_range]
theorem strD_Str {w h d : Nat} (hd : d < 4) (cs : List Int) : Str (w * h) (strD w h d cs) :=
  ⟨(strD_cells hd cs).nodup_iff.2 (List.nodup_range.filter _), fun st hs i hi => ((strD_mem hd).1 (List.mem_flatten.2 ⟨st, hs, hi⟩)).1⟩
theorem strD_same {w h d : Nat} {cs ds : List Int} (e : ∀ i, i < w * h → openAt cs i = openAt ds i) (hd : d < 4) : strD w h d cs = strD w h d ds := by
  refine strD_of hd ?_ (sortK_sorted _)
  refine (strD_perm hd cs).trans (List.Perm.of_eq ?_)
  unfold strI linesD
  have : ∀ (l own : List Nat), (∀ i ∈ l, i < w * h) → runsF (openAt cs) own l = runsF (openAt ds) own l := fun l => by
    induction l with
    | nil => intro own _; rfl
    | cons k l ih =>
      intro own hl
      have ih' := fun own => ih own (fun i hi => hl i (List.mem_cons_of_mem _ hi))
      unfold runsF
      rw [e k (hl k List.mem_cons_self), ih', ih']
  refine flatMap_same fun l hl => this l [] fun i hi => ?_
  obtain ⟨a, ha, rfl⟩ := List.mem_map.1 hl
  obtain ⟨b, hb, rfl⟩ := List.mem_map.1 hi
  exact (pos_lt hd (List.mem_range.1 ha) (List.mem_range.1 hb)).2.2
def aheadI (w h : Nat) (cs : List Int) (i d : Nat) : Int :=
  let x : Int := if d = 1 then ((i % w : Nat) : Int) + 1 else if d = 0 ∨ d = 2 then ((i % w : Nat) : Int) else ((i % w : Nat) : Int) - 1
  let y : Int := if d = 0 then ((i / w : Nat) : Int) - 1 else if d = 2 then ((i / w : Nat) : Int) + 1 else ((i / w : Nat) : Int)
  if (0 ≤ x ∧ x < (w : Int)) ∧ 0 ≤ y ∧ y < (h : Int) then (if openAt cs (y.toNat * w + x.toNat) = true then ((y.toNat * w + x.toNat : Nat) : Int) else -1) else -1
theorem ahead_pos {w h d a b : Nat} (hd : d < 4) (ha : a < lnM w h d) (hb : b < lnK w h d) (cs : List Int) :
    aheadI w h cs (pos w h d a b) d = if (decide (0 < b) && openAt cs (pos w h d a (b - 1))) = true then (pos w h d a (b - 1) : Int) else -1 := by
  obtain ⟨h1, h2, _⟩ := pos_lt hd ha hb
  have e1 : pos w h d a b % w = pX w d a b := place_mod h1
  have e2 : pos w h d a b / w = pY h d a b := place_div h1
  unfold aheadI
  rw [e1, e2]
  by_cases h0 : 0 < b
  · have hx : ∀ x y : Int, x = (pX w d a (b - 1) : Nat) → y = (pY h d a (b - 1) : Nat) → (if (0 ≤ x ∧ x < (w : Int)) ∧ 0 ≤ y ∧ y < (h : Int) then (if openAt cs (y.toNat * w + x.toNat) = true then ((y.toNat * w + x.toNat : Nat) : Int) else -1) else -1) = if (decide (0 < b) && openAt cs (pos w h d a (b - 1))) = true then (pos w h d a (b - 1) : Int) else -1 := by
      rintro x y rfl rfl
      obtain ⟨q1, q2, _⟩ := pos_lt hd ha (show b - 1 < lnK w h d by omega)
      rw [if_pos (by omega), Int.toNat_natCast, Int.toNat_natCast, decide_eq_true h0, Bool.true_and]
      rfl
    refine hx _ _ ?_ ?_
    · rcases dir4 hd with rfl | rfl | rfl | rfl <;> simp [lnM, lnK, pX] at * <;> omega
    · rcases dir4 hd with rfl | rfl | rfl | rfl <;> simp [lnM, lnK, pY] at * <;> omega
  · obtain rfl : b = 0 := by omega
    rw [if_neg (show ¬ ((decide (0 < 0) && openAt cs (pos w h d a (0 - 1))) = true) by simp)]
    refine if_neg ?_
    rcases dir4 hd with rfl | rfl | rfl | rfl <;> simp [lnM, lnK, pX, pY] at * <;> omega
theorem back_pos {w h d a b : Nat} (hd : d < 4) (ha : a < lnM w h d) (hb : b < lnK w h d) (cs : List Int) :
    aheadI w h cs (pos w h d a b) ((d + 2) % 4) = if (decide (b + 1 < lnK w h d) && openAt cs (pos w h d a (b + 1))) = true then (pos w h d a (b + 1) : Int) else -1 := by
  obtain ⟨h1, h2, _⟩ := pos_lt hd ha hb
  have e1 : pos w h d a b % w = pX w d a b := place_mod h1
  have e2 : pos w h d a b / w = pY h d a b := place_div h1
  unfold aheadI
  rw [e1, e2]
  by_cases h0 : b + 1 < lnK w h d
  · have hx : ∀ x y : Int, x = (pX w d a (b + 1) : Nat) → y = (pY h d a (b + 1) : Nat) → (if (0 ≤ x ∧ x < (w : Int)) ∧ 0 ≤ y ∧ y < (h : Int) then (if openAt cs (y.toNat * w + x.toNat) = true then ((y.toNat * w + x.toNat : Nat) : Int) else -1) else -1) = if (decide (b + 1 < lnK w h d) && openAt cs (pos w h d a (b + 1))) = true then (pos w h d a (b + 1) : Int) else -1 := by
      rintro x y rfl rfl
      obtain ⟨q1, q2, _⟩ := pos_lt hd ha h0
      rw [if_pos (by omega), Int.toNat_natCast, Int.toNat_natCast, decide_eq_true h0, Bool.true_and]
      rfl
    refine hx _ _ ?_ ?_
    · rcases dir4 hd with rfl | rfl | rfl | rfl <;> simp [lnM, lnK, pX] at * <;> omega
    · rcases dir4 hd with rfl | rfl | rfl | rfl <;> simp [lnM, lnK, pY] at * <;> omega
  · rw [if_neg (show ¬ ((decide (b + 1 < lnK w h d) && openAt cs (pos w h d a (b + 1))) = true) by simp [h0])]
    refine if_neg ?_
    rcases dir4 hd with rfl | rfl | rfl | rfl <;> simp [lnM, lnK, pX, pY] at * <;> omega
theorem end_ahead {w h d i : Nat} (hd : d < 4) (hi : i < w * h) (cs : List Int) : endD w h d cs i = (openAt cs i && decide (aheadI w h cs i d < 0)) := by
  obtain ⟨h1, h2, h3⟩ := inv_pos hd hi
  have e := ahead_pos hd h1 h2 cs
  rw [h3] at e
  unfold endD
  rw [e]
  cases hq : (decide (0 < lnB w h d i) && openAt cs (pos w h d (lnA w d i) (lnB w h d i - 1)))
  · rw [if_neg Bool.false_ne_true]; simp
  · rw [if_pos rfl]
    have : ¬ (((pos w h d (lnA w d i) (lnB w h d i - 1) : Nat) : Int) < 0) := by omega
    simp [this]
def bareL (l : List Int) : List Int := l.map fun c => if isBallC c = true then 46 else c
theorem bareL_length (l : List Int) : (bareL l).length = l.length := by simp [bareL]
theorem bareL_get {l : List Int} {i : Nat} (h : i < l.length) : (bareL l).getD i 0 = if ballAt l i = true then 46 else l.getD i 0 := by
  unfold ballAt
  rw [getD_at (by rw [bareL_length]; exact h), getD_at h]
  unfold bareL
  rw [List.getElem_map]
theorem ball_open {c : Int} (h : isBallC c = true) : isOpenC c = true := by
  unfold isBallC isNameC at h
  unfold isOpenC
  simp at h
  simp
  omega
theorem ballAt_open {cs : List Int} {i : Nat} (h : ballAt cs i = true) : openAt cs i = true := ball_open h
theorem ballAt_lt {cs : List Int} {i : Nat} (h : ballAt cs i = true) : i < cs.length := by
  rcases Nat.lt_or_ge i cs.length with h1 | h1
  · exact h1
  · unfold ballAt at h
    rw [List.getD_eq_getElem?_getD, List.getElem?_eq_none h1] at h
    exact absurd h (by decide)
def mvD (w h d : Nat) (cs : List Int) : List (Nat × Nat) := mvs (ballAt cs) (strD w h d cs)
def tiltD (w h d : Nat) (cs : List Int) : List Int := putAll cs (bareL cs) (mvD w h d cs)
theorem tiltD_length (w h d : Nat) (cs : List Int) : (tiltD w h d cs).length = cs.length := by unfold tiltD; rw [putAll_length, bareL_length]
section
variable {w h d : Nat} {cs : List Int}
theorem mv_snd (hd : d < 4) : ((mvD w h d cs).map Prod.snd).Nodup := (strD_Str hd cs).snd _
theorem mv_fst (hd : d < 4) : ((mvD w h d cs).map Prod.fst).Nodup := (strD_Str hd cs).fst _
theorem mem_mvs {b : Nat → Bool} {S : List (List Nat)} {p : Nat × Nat} : p ∈ mvs b S ↔ ∃ st ∈ S, p ∈ (st.filter b).zip st := List.mem_flatMap
theorem mv_mem (hd : d < 4) {p : Nat × Nat} (hp : p ∈ mvD w h d cs) : p.1 < w * h ∧ ballAt cs p.1 = true ∧ p.2 < w * h ∧ openAt cs p.2 = true := by
  obtain ⟨st, hs, hz⟩ := mem_mvs.1 hp
  have h1 := (List.of_mem_zip hz).1
  have h2 := (List.of_mem_zip hz).2
  obtain ⟨h3, h4⟩ := List.mem_filter.1 h1
  have a1 := (strD_mem hd).1 (List.mem_flatten.2 ⟨st, hs, h3⟩)
  have a2 := (strD_mem hd).1 (List.mem_flatten.2 ⟨st, hs, h2⟩)
  exact ⟨a1.1, h4, a2.1, a2.2⟩
theorem mv_of (hd : d < 4) (hl : cs.length = w * h) {i : Nat} (hb : ballAt cs i = true) : ∃ j, (i, j) ∈ mvD w h d cs := by
  have hi : i ∈ (mvD w h d cs).map Prod.fst := by
    unfold mvD
    rw [mvs_fst, List.mem_filter]
    exact ⟨(strD_mem hd).2 ⟨hl ▸ ballAt_lt hb, ballAt_open hb⟩, hb⟩
  obtain ⟨p, hp, rfl⟩ := List.mem_map.1 hi
  exact ⟨p.2, hp⟩
theorem fst_inj {m : List (Nat × Nat)} (hn : (m.map Prod.fst).Nodup) {p q : Nat × Nat} (hp : p ∈ m) (hq : q ∈ m) (e : p.1 = q.1) : p = q := by
  induction m with
  | nil => cases hp
  | cons a m ih =>
    rw [List.map_cons, List.nodup_cons] at hn
    rcases List.mem_cons.1 hp with e1 | hp'
    · rcases List.mem_cons.1 hq with e2 | hq'
      · rw [e1, e2]
      · exact absurd (List.mem_map.2 ⟨q, hq', by rw [← e, e1]⟩) hn.1
    · rcases List.mem_cons.1 hq with e2 | hq'
      · exact absurd (List.mem_map.2 ⟨p, hp', by rw [e, e2]⟩) hn.1
      · exact ih hn.2 hp' hq'
theorem tilt_to (hd : d < 4) (hl : cs.length = w * h) {p : Nat × Nat} (hp : p ∈ mvD w h d cs) : (tiltD w h d cs).getD p.2 0 = cs.getD p.1 0 :=
  putAll_at cs _ _ (mv_snd hd) hp (by rw [bareL_length, hl]; exact (mv_mem hd hp).2.2.1)
theorem tilt_far {i : Nat} (hi : i < cs.length) (hp : ∀ p ∈ mvD w h d cs, p.2 ≠ i) : (tiltD w h d cs).getD i 0 = if ballAt cs i = true then 46 else cs.getD i 0 := by
  unfold tiltD
  rw [putAll_far cs _ _ hp, bareL_get hi]
theorem tilt_cell (hd : d < 4) (hl : cs.length = w * h) {i : Nat} (hi : i < w * h) :
    (∃ k, (k, i) ∈ mvD w h d cs ∧ (tiltD w h d cs).getD i 0 = cs.getD k 0 ∧ ballAt cs k = true) ∨ ((∀ p ∈ mvD w h d cs, p.2 ≠ i) ∧ (tiltD w h d cs).getD i 0 = (if ballAt cs i = true then 46 else cs.getD i 0) ∧ ballAt (tiltD w h d cs) i = false) := by
  by_cases hex : ∃ p ∈ mvD w h d cs, p.2 = i
  · obtain ⟨p, hp, rfl⟩ := hex
    exact .inl ⟨p.1, hp, tilt_to hd hl hp, (mv_mem hd hp).2.1⟩
  · have hp : ∀ p ∈ mvD w h d cs, p.2 ≠ i := fun p hp e => hex ⟨p, hp, e⟩
    have e := tilt_far (cs := cs) (by rw [hl]; exact hi) hp
    refine .inr ⟨hp, e, ?_⟩
    unfold ballAt
    rw [e]
    by_cases hb : ballAt cs i = true
    · rw [if_pos hb]; rfl
    · rw [if_neg hb]; unfold ballAt at hb; simpa using hb
theorem tilt_ball (hd : d < 4) (hl : cs.length = w * h) {i : Nat} : ballAt (tiltD w h d cs) i = true ↔ i ∈ (mvD w h d cs).map Prod.snd := by
  constructor
  · intro hb
    have hi : i < w * h := by have := ballAt_lt hb; rw [tiltD_length, hl] at this; exact this
    rcases tilt_cell hd hl hi with ⟨k, hk, _⟩ | ⟨_, _, hf⟩
    · exact List.mem_map.2 ⟨_, hk, rfl⟩
    · rw [hf] at hb; cases hb
  · intro hi
    obtain ⟨p, hp, rfl⟩ := List.mem_map.1 hi
    unfold ballAt
    rw [tilt_to hd hl hp]
    exact (mv_mem hd hp).2.1
theorem tilt_open (hd : d < 4) (hl : cs.length = w * h) {i : Nat} (hi : i < w * h) : openAt (tiltD w h d cs) i = openAt cs i := by
  rcases tilt_cell hd hl hi with ⟨k, hk, e, hb⟩ | ⟨_, e, _⟩
  · rw [(mv_mem hd hk).2.2.2]
    unfold openAt
    rw [e]
    exact ball_open hb
  · unfold openAt
    rw [e]
    by_cases hb : ballAt cs i = true
    · rw [if_pos hb]
      have := ballAt_open hb
      unfold openAt at this
      rw [this]; rfl
    · rw [if_neg hb]
theorem tilt_str (hd : d < 4) (hl : cs.length = w * h) {e : Nat} (he : e < 4) : strD w h e (tiltD w h d cs) = strD w h e cs := strD_same (fun i hi => tilt_open hd hl hi) he
theorem flatten_one : ∀ {S : List (List Nat)}, S.flatten.Nodup → ∀ {s t : List Nat} {i : Nat}, s ∈ S → t ∈ S → i ∈ s → i ∈ t → s = t
  | [], _, _, _, _, h, _, _, _ => by cases h
  | a :: S, hn, s, t, i, hs, ht, his, hit => by
    rw [List.flatten_cons, List.nodup_append] at hn
    rcases List.mem_cons.1 hs with e1 | hs'
    · rcases List.mem_cons.1 ht with e2 | ht'
      · rw [e1, e2]
      · exact absurd rfl (hn.2.2 i (e1 ▸ his) i (List.mem_flatten.2 ⟨t, ht', hit⟩))
    · rcases List.mem_cons.1 ht with e2 | ht'
      · exact absurd rfl (hn.2.2 i (e2 ▸ hit) i (List.mem_flatten.2 ⟨s, hs', his⟩))
      · exact flatten_one hn.2.1 hs' ht' his hit
theorem nodup_of_mem : ∀ {S : List (List Nat)}, S.flatten.Nodup → ∀ {s : List Nat}, s ∈ S → s.Nodup
  | [], _, _, h => by cases h
  | a :: S, hn, s, hs => by
    rw [List.flatten_cons, List.nodup_append] at hn
    rcases List.mem_cons.1 hs with rfl | hs
    · exact hn.1
    · exact nodup_of_mem hn.2.1 hs
theorem filter_take {l : List Nat} (hn : l.Nodup) (n : Nat) (p : Nat → Bool) (hp : ∀ i ∈ l, p i = true ↔ i ∈ l.take n) : l.filter p = l.take n := by
  conv => lhs; rw [← List.take_append_drop n l]
  rw [List.filter_append]
  have hn' := hn
  rw [← List.take_append_drop n l, List.nodup_append] at hn'
  rw [List.filter_eq_self.2 (fun i hi => (hp i (List.mem_of_mem_take hi)).2 hi), List.filter_eq_nil_iff.2 (fun i hi => fun h => ?_), List.append_nil]
  exact absurd rfl (hn'.2.2 i ((hp i (List.mem_of_mem_drop hi)).1 h) i hi)
theorem mem_zip_self : ∀ {l m : List Nat} {p : Nat × Nat}, p ∈ (l.take m.length).zip l → p.1 = p.2
  | [], _, p, h => by simp at h
  | a :: l, [], p, h => by simp at h
  | a :: l, b :: m, p, h => by
    rw [List.length_cons, List.take_succ_cons, List.zip_cons_cons] at h
    rcases List.mem_cons.1 h with rfl | h
    · rfl
    · exact mem_zip_self h
theorem tilt_tilt (hd : d < 4) (hl : cs.length = w * h) : tiltD w h d (tiltD w h d cs) = tiltD w h d cs := by
  have hl' : (tiltD w h d cs).length = w * h := by rw [tiltD_length, hl]
  have key : ∀ p ∈ mvD w h d (tiltD w h d cs), p.1 = p.2 := by
    intro p hp
    unfold mvD at hp
    rw [tilt_str hd hl hd] at hp
    obtain ⟨st, hs, hz⟩ := mem_mvs.1 hp
    have hN := (strD_Str hd cs (w := w) (h := h)).nodup
    have hst := nodup_of_mem hN hs
    rw [filter_take hst (st.filter (ballAt cs)).length (ballAt (tiltD w h d cs)) (fun i hi => ?_)] at hz
    · exact mem_zip_self hz
    · rw [tilt_ball hd hl]
      constructor
      · intro hm
        obtain ⟨q, hq, rfl⟩ := List.mem_map.1 hm
        obtain ⟨st', hs', hz'⟩ := mem_mvs.1 hq
        have e := flatten_one hN hs' hs (List.of_mem_zip hz').2 hi
        subst e
        rw [← zip_snd]
        exact List.mem_map.2 ⟨q, hz', rfl⟩
      · intro hm
        rw [← zip_snd] at hm
        obtain ⟨q, hq, rfl⟩ := List.mem_map.1 hm
        exact List.mem_map.2 ⟨q, mem_mvs.2 ⟨st, hs, hq⟩, rfl⟩
  refine list_ext_getD (by rw [tiltD_length]) fun i hi => ?_
  rw [tiltD_length, hl'] at hi
  rcases tilt_cell hd hl' hi with ⟨k, hk, e, _⟩ | ⟨hp, e, hf⟩
  · rw [e, show k = i from key _ hk]
  · rw [e, if_neg]
    intro hb
    obtain ⟨j, hj⟩ := mv_of hd hl' hb
    have := key _ hj
    simp only at this
    subst this
    exact hp _ hj rfl
end
section
variable {w h d : Nat} {cs : List Int}
end
def runD (w h : Nat) (cs : List Int) : List Nat → List Int
  | [] => cs
  | d :: ds => runD w h (tiltD w h d cs) ds
theorem runD_length (w h : Nat) : ∀ (ds : List Nat) (cs : List Int), (runD w h cs ds).length = cs.length
  | [], cs => rfl
  | d :: ds, cs => by unfold runD; rw [runD_length w h ds, tiltD_length]
def only (cs : List Int) (c : Int) (k : Nat) : Prop := ∀ i, i < cs.length → (cs.getD i 0 = c ↔ i = k)
def shortD : List Nat → List Nat
  | [] => []
  | [d] => [d]
  | d :: e :: ds => if d = e then shortD (e :: ds) else d :: shortD (e :: ds)
def noRep : List Nat → Bool
  | [] => true
  | [_] => true
  | d :: e :: ds => d != e && noRep (e :: ds)
theorem shortD_run {w h : Nat} : ∀ (ds : List Nat), (∀ d ∈ ds, d < 4) → ∀ cs : List Int, cs.length = w * h → runD w h cs (shortD ds) = runD w h cs ds
  | [], _, _, _ => rfl
  | [d], _, _, _ => rfl
  | d :: e :: ds, hd, cs, hl => by
    have hd' := hd d List.mem_cons_self
    have ih := shortD_run (w := w) (h := h) (e :: ds) (fun x hx => hd x (List.mem_cons_of_mem _ hx))
    unfold shortD
    split
    · rename_i h1
      subst h1
      rw [ih cs hl]
      show runD w h (tiltD w h d cs) ds = runD w h (tiltD w h d (tiltD w h d cs)) ds
      rw [tilt_tilt hd' hl]
    · show runD w h (tiltD w h d cs) (shortD (e :: ds)) = runD w h (tiltD w h d cs) (e :: ds)
      exact ih _ (by rw [tiltD_length]; exact hl)
theorem shortD_length : ∀ ds : List Nat, (shortD ds).length ≤ ds.length ∧ (noRep ds = false → (shortD ds).length < ds.length)
  | [] => ⟨Nat.le_refl _, fun h => by cases h⟩
  | [d] => ⟨Nat.le_refl _, fun h => by cases h⟩
  | d :: e :: ds => by
    obtain ⟨h1, h2⟩ := shortD_length (e :: ds)
    have l1 : (d :: e :: ds).length = (e :: ds).length + 1 := rfl
    unfold shortD
    split
    · exact ⟨by omega, fun _ => by omega⟩
    · rename_i hne
      have l2 : (d :: shortD (e :: ds)).length = (shortD (e :: ds)).length + 1 := rfl
      refine ⟨by omega, fun h => ?_⟩
      have h' : (d != e && noRep (e :: ds)) = false := h
      rw [show (d != e) = true from bne_iff_ne.2 hne, Bool.true_and] at h'
      have := h2 h'
      omega
theorem shortD_mem : ∀ (ds : List Nat), ∀ x ∈ shortD ds, x ∈ ds
  | [], x, h => h
  | [d], x, h => h
  | d :: e :: ds, x, h => by
    unfold shortD at h
    split at h
    · exact List.mem_cons_of_mem _ (shortD_mem (e :: ds) x h)
    · rcases List.mem_cons.1 h with rfl | h
      · exact List.mem_cons_self
      · exact List.mem_cons_of_mem _ (shortD_mem (e :: ds) x h)
def grow (l : List (List Nat)) : List (List Nat) := l.flatMap fun u => [0, 1, 2, 3].map fun d => u ++ [d]
def level : Nat → List (List Nat)
  | 0 => [[]]
  | n + 1 => grow (level n)
theorem mem_level : ∀ (n : Nat) (u : List Nat), u ∈ level n ↔ u.length = n ∧ ∀ d ∈ u, d < 4
  | 0, u => by
    show u ∈ [[]] ↔ _
    rw [List.mem_singleton]
    constructor
    · rintro rfl; exact ⟨rfl, fun d h => by cases h⟩
    · intro h; exact List.eq_nil_of_length_eq_zero h.1
  | n + 1, u => by
    show u ∈ grow (level n) ↔ _
    unfold grow
    rw [List.mem_flatMap]
    constructor
    · rintro ⟨v, hv, hu⟩
      obtain ⟨d, hd, rfl⟩ := List.mem_map.1 hu
      obtain ⟨h1, h2⟩ := (mem_level n v).1 hv
      refine ⟨by simp [h1], fun e he => ?_⟩
      rcases List.mem_append.1 he with he | he
      · exact h2 e he
      · rw [List.mem_singleton] at he; subst he
        simp at hd; omega
    · rintro ⟨h1, h2⟩
      obtain ⟨v, d, rfl⟩ : ∃ v d, u = v ++ [d] := by
        rcases List.eq_nil_or_concat u with e | ⟨v, d, e⟩
        · rw [e] at h1; cases h1
        · exact ⟨v, d, by rw [e, List.concat_eq_append]⟩
      refine ⟨v, (mem_level n v).2 ⟨by simp at h1; exact h1, fun e he => h2 e (List.mem_append_left _ he)⟩, List.mem_map.2 ⟨d, ?_, rfl⟩⟩
      have := h2 d (by simp)
      simp; omega
theorem noRep_snoc : ∀ (u : List Nat) (d : Nat), noRep (u ++ [d]) = (noRep u && (u.getLast? != some d))
  | [], d => by simp [noRep]
  | [a], d => by
    show (a != d && noRep [d]) = (noRep [a] && (some a != some d))
    have : (a != d) = (some a != some d) := by
      rw [Bool.eq_iff_iff, bne_iff_ne, bne_iff_ne]
      simp
    rw [this]; simp [noRep]
  | a :: b :: u, d => by
    have ih := noRep_snoc (b :: u) d
    show (a != b && noRep (b :: u ++ [d])) = (a != b && noRep (b :: u) && ((a :: b :: u).getLast? != some d))
    rw [ih, List.getLast?_cons_cons, Bool.and_assoc]
def levelS : Nat → List (List Nat)
  | 0 => [[]]
  | n + 1 => (levelS n).flatMap fun u => ([0, 1, 2, 3].filter fun d => u.getLast? != some d).map fun d => u ++ [d]
theorem levelS_eq : ∀ n, levelS n = (level n).filter noRep
  | 0 => rfl
  | n + 1 => by
    show (levelS n).flatMap _ = (grow (level n)).filter noRep
    rw [levelS_eq n]
    unfold grow
    induction level n with
    | nil => rfl
    | cons u l ih =>
      rw [List.flatMap_cons, List.filter_append, ← ih, List.filter_cons]
      have e : (List.map (fun d => u ++ [d]) [0, 1, 2, 3]).filter noRep = if noRep u = true then ([0, 1, 2, 3].filter fun d => u.getLast? != some d).map fun d => u ++ [d] else [] := by
        rw [List.filter_map]
        by_cases h : noRep u = true
        · rw [if_pos h]
          congr 1
          refine List.filter_congr fun d _ => ?_
          show noRep (u ++ [d]) = _
          rw [noRep_snoc, h, Bool.true_and]
        · rw [if_neg h]
          rw [List.filter_eq_nil_iff.2 (fun d _ => by show ¬ noRep (u ++ [d]) = true; rw [noRep_snoc]; simp [h])]
          rfl
      rw [e]
      by_cases h : noRep u = true
      · rw [if_pos h, if_pos h, List.flatMap_cons]
      · rw [if_neg h, if_neg h, List.nil_append]
def levels (n : Nat) : List (List Nat) := (List.range (n + 1)).flatMap level
def levelsS (n : Nat) : List (List Nat) := (List.range (n + 1)).flatMap levelS
theorem levelsS_eq (n : Nat) : levelsS n = (levels n).filter noRep := by
  unfold levelsS levels
  rw [List.filter_flatMap]
  exact flatMap_same' fun k _ => levelS_eq k
where flatMap_same' {α β : Type} {l : List α} {f g : α → List β} (h : ∀ x ∈ l, f x = g x) : l.flatMap f = l.flatMap g := flatMap_same h
theorem find_short (p : List Nat → Bool) (hp : ∀ u, (∀ d ∈ u, d < 4) → p (shortD u) = p u) (n : Nat) : (levels n).find? p = (levelsS n).find? p := by
  rw [levelsS_eq]
  have key : ∀ m, (∀ u ∈ (List.range m).flatMap level, p u = false) → ∀ u ∈ level m, p u = true → noRep u = true := fun m hm u hu hpu => by
    obtain ⟨h1, h2⟩ := (mem_level m u).1 hu
    rcases hr : noRep u with _ | _
    · exfalso
      have hs := (shortD_length u).2 hr
      have : p (shortD u) = false := hm _ (List.mem_flatMap.2 ⟨(shortD u).length, List.mem_range.2 (by omega), (mem_level _ _).2 ⟨rfl, fun d hd => h2 d (shortD_mem u d hd)⟩⟩)
      rw [hp u h2, hpu] at this
      cases this
    · rfl
  have go : ∀ m, ((List.range m).flatMap level).find? p = (((List.range m).flatMap level).filter noRep).find? p := fun m => by
    induction m with
    | zero => rfl
    | succ m ih =>
      rw [List.range_succ, List.flatMap_append, List.filter_append, List.find?_append, List.find?_append, ← ih]
      cases hf : ((List.range m).flatMap level).find? p with
      | some x => rfl
      | none =>
        have hnone := List.find?_eq_none.1 hf
        have hk := key m (fun u hu => by simpa using hnone u hu)
        simp only [List.flatMap_cons, List.flatMap_nil, List.append_nil, Option.none_or]
        have : ∀ l : List (List Nat), (∀ u ∈ l, p u = true → noRep u = true) → l.find? p = (l.filter noRep).find? p := fun l => by
          induction l with
          | nil => intro _; rfl
          | cons a l ih =>
            intro hl
            have ih' := ih fun u hu => hl u (List.mem_cons_of_mem _ hu)
            rw [List.find?_cons, List.filter_cons]
            by_cases ha : p a = true
            · rw [if_pos (hl a List.mem_cons_self ha), List.find?_cons, ha]
            · have ha' : p a = false := by simpa using ha
              rw [ha']
              by_cases hr : noRep a = true
              · rw [if_pos hr, List.find?_cons, ha']; exact ih'
              · rw [if_neg hr]; exact ih'
        exact this _ hk
  exact go (n + 1)
end Go.Proofs.YtdffgeoegdkiaaaGreatDoor

namespace Go.Proofs.YtdffgeoegdkiaaaGreatDoor.F
open Go.Proofs.YtdffgeoegdkiaaaGreatDoor
open Go.RowKit Go.Proofs.YtdffgeoegdkiaaaGreatDoorW.PrintWords Go.Proofs.YtdffgeoegdkiaaaGreatDoorW.PrintLast Go.Proofs.YtdffgeoegdkiaaaGreatDoorW.PrintMore
attribute [local go_sem] max2_int min2_int max_two min_two max_three min_three max_four min_four
def impl_tray_number.f (a0_0 : Int) (a0_1 : Int) (l0_2 : List Int) (a1 : Int) (a2 : Int) : Option (Int) := some (wrap64 ((wrap64 (a2 * a0_0)) + a1))
set_option maxHeartbeats 8000000 in
set_option maxRecDepth 100000 in
theorem impl_tray_number.calls (a0_0 : Int) (a0_1 : Int) (A0_2 : Option Addr) (c0_2 : Nat) (l0_2 : List Int) (a1 : Int) (a2 : Int) (r : Int) (w : World) (hr0_2 : Kd.C (Kd.int .u8) w A0_2 l0_2.length l0_2) (hc0_2 : l0_2.length ≤ c0_2) (h : impl_tray_number.f a0_0 a0_1 l0_2 a1 a2 = some r) :
  Calls Tryz.prog 214 #[.agg #[.int .i64 a0_0, .int .i64 a0_1, .slice A0_2 l0_2.length c0_2], .int .i64 a1, .int .i64 a2] w fun e w' => e = .returned (.int .i64 r) ∧ Below w.heap.size w w' := by
 have hu93 := Tryz.underlying93
 have HR0_2 := am hr0_2
 have HC0_2 := am hc0_2
 clear hr0_2 hc0_2
 have HB := am (Below.refl w.heap.size w)
 have H : (some (wrap64 ((wrap64 (a2 * a0_0)) + a1))) = some r := h
 clear h
 obtain rfl := Option.some.inj H
 go_enter Tryz.func214, Tryz.ntmps214
 go_wp2_with (first | ((with_reducible refine gate_dst (N := 3) rfl ?_); refine box_event ?hg (N := 3) ?hd (cs := #[.int .i64 a0_0, .int .i64 a0_1, .slice A0_2 l0_2.length c0_2]) (t := 93) ?hr ?_; (case hd => rfl); (case hg => rfl); (case hr => exact aq16); intro gb101 hg w4 hbox hb; have n0_ := am (below_step aq1 hb); have n1_ := am (hbox); have n2_ := am ((by rw [hg]; exact (below_size aq1) : w.heap.size ≤ gb101)); have n3_ := am ((by rw [hg]; exact (below_size aq1) : w.heap.size ≤ gb101)); clear HB; have HB := n0_; have BK101 := n1_; have GW101 := n2_; have GE101 := n3_; clear n0_ n1_ n2_ n3_; clear hb hbox hg; obtain ⟨hcz5_0, hcz5_1, hcz5_2, hfz5_0, hfz5_1, hfz5_2⟩ := blk3_ BK101.out))
 go_ret
 exact ⟨aq8, aq0⟩
def slices_Reverse_int_int.l0 : Nat → List Int → Int → Int → Option (List Int)
 | 0, _, _, _ => none
 | k + 1, x0, x2, x3 => if x2 < x3 then (if 0 ≤ x3 then (if x3 < (x0.length : Int) then (if 0 ≤ x2 then (if x2 < (x0.length : Int) then (slices_Reverse_int_int.l0 k ((x0.set (x2 : Int).toNat (rd x0 x3)).set (x3 : Int).toNat (rd x0 x2)) (wrap64 (x2 + 1)) (wrap64 (x3 - 1))) else (none)) else (none)) else (none)) else (none)) else (some x0)
def slices_Reverse_int_int.f (k : Nat) (l0 : List Int) : Option (List Int) := slices_Reverse_int_int.l0 k l0 0 (wrap64 ((l0.length : Int) - 1))
theorem slices_Reverse_int_int.mono_l : ∀ k, (∀ y0 y1 y2, LeO (slices_Reverse_int_int.l0 k y0 y1 y2) (slices_Reverse_int_int.l0 (k + 1) y0 y1 y2))
 | 0 => fun _ _ _ r h => by simp [slices_Reverse_int_int.l0] at h
 | k + 1 => by
  have ih0 := slices_Reverse_int_int.mono_l k
  ·intro y0 y1 y2
   unfold slices_Reverse_int_int.l0
   exact mo
theorem slices_Reverse_int_int.mono : ∀ a0 k, LeO (slices_Reverse_int_int.f k a0) (slices_Reverse_int_int.f (k + 1) a0) := by
 intro a0 k
 have ih0 := slices_Reverse_int_int.mono_l k
 unfold slices_Reverse_int_int.f
 exact mo
def slices_Reverse_int_int.T3 : Bool × List (List Nat × List Nat) := (true, [([], []), ([], []), ([], []), ([], []), ([], []), ([], []), ([4, 5], [4, 5]), ([6], [6]), ([], []), ([], []), ([8, 9], [8, 9]), ([10], [10]), ([0, 1, 0, 1, 4, 5, 6, 7, 11], [0, 1]), ([12, 7, 0, 1, 4, 5, 6, 7, 11], [7, 12]), ([2, 3, 0, 1, 2, 3, 4, 5, 6, 7, 8, 9, 10, 11, 12, 13], [2, 3]), ([14, 11, 13, 0, 1, 2, 3, 4, 5, 6, 7, 8, 9, 10, 11, 12, 13], [11, 14])])
def slices_Reverse_int_int.B3 : List Nat := [0, 0, 0, 0, 0, 0, 48, 112, 0, 0, 768, 1792, 4083, 8179, 16383, 32767]
theorem slices_Reverse_int_int.tab3 : rtab .any (opsOf Tryz.f215 3) = slices_Reverse_int_int.T3 := by kernel_rfl
theorem slices_Reverse_int_int.bits3 : waitsOk slices_Reverse_int_int.T3.2 slices_Reverse_int_int.B3 = true := by kernel_rfl
set_option maxHeartbeats 8000000 in
set_option maxRecDepth 100000 in
theorem slices_Reverse_int_int.calls (k : Nat) (P0_ : Nat → Prop) (u9000_ : Value) (l0 : List Int) (r : List Int) (w0 w : World) (hB : Below w0.heap.size w0 w) (ho0 : Kd.R (Kd.int .i64) 3 w w0.heap.size P0_ u9000_ l0) (h : slices_Reverse_int_int.f k l0 = some r) :
  Calls Tryz.prog 215 #[u9000_] w fun e w' => e = .returned (.tuple #[]) ∧ Kd.R (Kd.int .i64) 3 w' w0.heap.size (fun k_ => (P0_ k_ ∨ w.heap.size ≤ k_)) u9000_ r ∧ Below w0.heap.size w0 w' ∧ Kept w w' (fun k_ => P0_ k_) := by
 have HO0 := am (show Kd.R (Kd.int .i64) 3 w w0.heap.size (fun k_ => (P0_ k_ ∨ w.heap.size ≤ k_)) u9000_ l0 from Kd.R_mono ho0 (fun k_ hk => (.inl hk)))
 have HK := am (Kept.refl w (fun k_ => P0_ k_))
 have HW0 := am hB.size
 have HB := am hB
 clear hB
 have H : (slices_Reverse_int_int.l0 k l0 0 (wrap64 ((l0.length : Int) - 1))) = some r := h
 clear h
 have H' := am H
 clear H
 obtain ⟨Ao2, co2, eo2⟩ := Kd.R_slice HO0.out
 subst eo2
 go_enter Tryz.func215, Tryz.ntmps215
 go_wp2
 go_loopg [2, 3] k (fun kq v2 v3 w' => ∃ (x0_1 : List Int) (x2_1 : Int) (x3_1 : Int), v2 = .int .i64 x2_1 ∧ v3 = .int .i64 x3_1 ∧ Aside0 (slices_Reverse_int_int.l0 kq x0_1 x2_1 x3_1 = some r) ∧ Aside0 (kq ≤ k) ∧ Aside0 (Kd.R (Kd.int .i64) 3 w' w0.heap.size (fun k_ => (P0_ k_ ∨ w.heap.size ≤ k_)) (.slice Ao2 l0.length co2) x0_1) ∧ Aside0 (Kept w w' (fun k_ => P0_ k_)) ∧ Aside0 (Below w0.heap.size w0 w'))
 case atStart => exact ⟨(l0), (0), (wrap64 ((l0.length : Int) - 1)), aq7, aq7, H', ⟨Nat.le_refl _⟩, ⟨by (with_reducible repeat (first | apply Kd.R_alloc | apply Kd.R_drewN | apply Kd.R_drew)); exact HO0.out⟩, ⟨aq108⟩, ⟨aq1⟩⟩
 case round =>
  clear H'
  try clear c2
  try clear p2
  obtain ⟨x0_1, x2_1, x3_1, rfl, rfl, HA, HK1, HO_0, HK, HB⟩ := hrel
  have hl0_1 := (Kd.R_reads' HO_0.out).1
  rw [hl0_1] at HO_0
  (try simp only [hl0_1])
  cases gk with
  | zero => exact absurd HA.out (by simp [slices_Reverse_int_int.l0])
  | succ k1 =>
   have H := HA.out
   clear HA
   simp only [slices_Reverse_int_int.l0] at H
   by_cases c3 : x2_1 < x3_1
   ·rw [if_pos c3] at H
    have c3b0 := decide_eq_true c3
    clear c3
    by_cases c4 : 0 ≤ x3_1
    ·rw [if_pos c4] at H
     have c4b0 := decide_eq_true c4
     clear c4
     by_cases c5 : x3_1 < (x0_1.length : Int)
     ·rw [if_pos c5] at H
      have c5b0 := decide_eq_true c5
      clear c5
      by_cases c6 : 0 ≤ x2_1
      ·rw [if_pos c6] at H
       have c6b0 := decide_eq_true c6
       clear c6
       by_cases c7 : x2_1 < (x0_1.length : Int)
       ·rw [if_pos c7] at H
        have c7b0 := decide_eq_true c7
        clear c7
        obtain ⟨y103, hy_⟩ : ∃ y_ : List Int, y_ = (x0_1.set (x2_1 : Int).toNat (rd x0_1 x3_1)) := ⟨_, rfl⟩
        replace H : (slices_Reverse_int_int.l0 k1 (y103.set (x3_1 : Int).toNat (rd x0_1 x2_1)) (wrap64 (x2_1 + 1)) (wrap64 (x3_1 - 1))) = some r := aq3
        have Ny103 := am hy_
        clear hy_
        obtain ⟨y104, hy_⟩ : ∃ y_ : List Int, y_ = (y103.set (x3_1 : Int).toNat (rd x0_1 x2_1)) := ⟨_, rfl⟩
        replace H : (slices_Reverse_int_int.l0 k1 y104 (wrap64 (x2_1 + 1)) (wrap64 (x3_1 - 1))) = some r := aq3
        have Ny104 := am hy_
        clear hy_
        have H' := am H
        clear H
        try go_wp2
        have n0_ := am (Kd.R_drew HO_0.out)
        have n1_ := am (Kept.drew HK.out)
        have n2_ := am (below_drew1 HB.out)
        clear HO_0
        clear HK
        clear HB
        have HO_0 := n0_
        have HK := n1_
        have HB := n2_
        clear n0_ n1_ n2_
        have p101 : 0 ≤ (x3_1 : Int) := of_decide_eq_true aq4
        have q101 : x3_1 < (x0_1.length : Int) := of_decide_eq_true aq4
        obtain ⟨ad101, e101, hx101_0⟩ := Kd.at_int (Kd.R_reads' HO_0.out).2.2 x3_1 p101 q101
        cases e101
        replace p101 := eq_true p101
        replace q101 := eq_true q101
        have p102 : 0 ≤ (x2_1 : Int) := of_decide_eq_true aq4
        have q102 : x2_1 < (x0_1.length : Int) := of_decide_eq_true aq4
        obtain ⟨ad102, e102, hx102_0⟩ := Kd.at_int (Kd.R_reads' HO_0.out).2.2 x2_1 p102 q102
        obtain rfl : ad101 = ad102 := (by injection e102)
        replace p102 := eq_true p102
        replace q102 := eq_true q102
        have p8 : 0 ≤ (x2_1 : Int) := of_decide_eq_true aq4
        have q8 : (x2_1 : Int) < ((x0_1.length : Int) : Int) := of_decide_eq_true aq4
        obtain ⟨go8, co8, eo8, gb8, gl8, cl8, HG8⟩ := Kd.R_form HO_0.out (by omega)
        (first | cases eo8 | (injection eo8 with ea_ en_ ec_; (first | subst ea_ | (injection ea_ with ea_; subst ea_)); subst ec_; clear en_))
        have GB8 := am gb8
        have GG8 := am HG8
        clear gb8 gl8 HG8
        have HMgo8 := am (show (P0_ go8 ∨ w.heap.size ≤ go8) from (HO_0.out.1 _ rfl))
        (first | simp only [add_plain] at hx101_0 | skip)
        (first | simp only [add_plain] at hx102_0 | skip)
        obtain ⟨hx8_0, hf8_0⟩ := Kd.R_celln 0 HO_0.out (x2_1 : Int) p8 q8
        replace p8 := eq_true p8
        replace q8 := eq_true q8
        have HP11 := Kd.R_putn HO_0.out (x2_1 : Int) (rd x0_1 x3_1)
        rw [← Ny103.out] at HP11
        have HQ11 := am HP11
        clear HP11
        have p9 : 0 ≤ (x3_1 : Int) := of_decide_eq_true aq4
        have q9 : (x3_1 : Int) < ((x0_1.length : Int) : Int) := of_decide_eq_true aq4
        obtain ⟨hx9_0, hf9_0⟩ := Kd.R_celln 0 HQ11.out (x3_1 : Int) p9 q9
        replace p9 := eq_true p9
        replace q9 := eq_true q9
        have HP12 := Kd.R_putn HQ11.out (x3_1 : Int) (rd x0_1 x2_1)
        rw [← Ny104.out] at HP12
        have HQ12 := am HP12
        clear HP12
        refine start_ (n := 16) (S := fun w' => w'.cell? ⟨go8, (x3_1).toNat, none⟩ = some (.int .i64 (rd x0_1 x3_1)) ∧ w'.cell? ⟨go8, (x2_1).toNat, none⟩ = some (.int .i64 (rd x0_1 x2_1))) (ds := [13, 15]) #[false, false, false, false, false, false, false, false, false, false, false, false, false, false, false, false] (by kernel_rfl) rfl rfl ⟨hx101_0, hx102_0⟩ (fun hHeld => ?_); refine with_tabW slices_Reverse_int_int.tab3 slices_Reverse_int_int.bits3 (fun HT_ HW_ => ?_)
        generalize wr.drew = w10 at HO_0 HK HB GG8 HQ11 HQ12 hf8_0 hf9_0 hx101_0 hx102_0 hx8_0 hx9_0 hHeld ⊢
        refine pure_ (i := 0) (N := some 14) (v := ?_) (a' := ?_) (bm 16 1) rfl rfl (any_of HT_.out (by kernel_rfl)) (fun _ _ _ h => h) (Or.inl ⟨by rfl, ?_⟩) ?_ ?_
        rotate_left
        ·intro w'
         go_simp
         with_reducible rfl
        rotate_left
        ·simp only [Act.put, ac_]
         rfl
        refine pure_ (i := 1) (N := some 15) (v := ?_) (a' := ?_) (bm 16 3) rfl rfl (any_of HT_.out (by kernel_rfl)) (fun _ _ _ h => h) (Or.inl ⟨by rfl, ?_⟩) ?_ ?_
        rotate_left
        ·intro w'
         go_simp
         with_reducible rfl
        rotate_left
        ·simp only [Act.put, ac_]
         rfl
        refine pure_ (i := 2) (N := some 16) (v := ?_) (a' := ?_) (bm 16 7) rfl rfl (any_of HT_.out (by kernel_rfl)) (fun _ _ _ h => h) (Or.inl ⟨by rfl, ?_⟩) ?_ ?_
        rotate_left
        ·intro w'
         go_simp
         with_reducible rfl
        rotate_left
        ·simp only [Act.put, ac_]
         rfl
        refine pure_ (i := 3) (N := some 17) (v := ?_) (a' := ?_) (bm 16 15) rfl rfl (any_of HT_.out (by kernel_rfl)) (fun _ _ _ h => h) (Or.inl ⟨by rfl, ?_⟩) ?_ ?_
        rotate_left
        ·intro w'
         go_simp
         with_reducible rfl
        rotate_left
        ·simp only [Act.put, ac_]
         rfl
        refine pure_ (i := 4) (N := some 18) (v := ?_) (a' := ?_) (bm 16 31) rfl rfl (any_of HT_.out (by kernel_rfl)) (fun _ _ _ h => h) (Or.inl ⟨by rfl, ?_⟩) ?_ ?_
        rotate_left
        ·intro w'
         go_simp
         with_reducible rfl
        rotate_left
        ·simp only [Act.put, ac_]
         rfl
        refine pure_ (i := 5) (N := some 19) (v := ?_) (a' := ?_) (bm 16 63) rfl rfl (any_of HT_.out (by kernel_rfl)) (fun _ _ _ h => h) (Or.inl ⟨by rfl, ?_⟩) ?_ ?_
        rotate_left
        ·intro w'
         go_simp
         with_reducible rfl
        rotate_left
        ·simp only [Act.put, ac_]
         rfl
        refine pure_ (i := 6) (N := some 20) (v := ?_) (a' := ?_) (bm 16 127) rfl rfl (any_of HT_.out (by kernel_rfl)) (fun _ _ _ h => h) (Or.inl ⟨by rfl, ?_⟩) ?_ ?_
        rotate_left
        ·intro w'
         go_simp
         with_reducible rfl
        rotate_left
        ·simp only [Act.put, ac_]
         rfl
        refine pure_ (i := 8) (N := some 22) (v := ?_) (a' := ?_) (bm 16 383) rfl rfl (any_of HT_.out (by kernel_rfl)) (fun _ _ _ h => h) (Or.inl ⟨by rfl, ?_⟩) ?_ ?_
        rotate_left
        ·intro w'
         go_simp
         with_reducible rfl
        rotate_left
        ·simp only [Act.put, ac_]
         rfl
        refine pure_ (i := 9) (N := some 23) (v := ?_) (a' := ?_) (bm 16 895) rfl rfl (any_of HT_.out (by kernel_rfl)) (fun _ _ _ h => h) (Or.inl ⟨by rfl, ?_⟩) ?_ ?_
        rotate_left
        ·intro w'
         go_simp
         with_reducible rfl
        rotate_left
        ·simp only [Act.put, ac_]
         rfl
        refine pure_ (i := 10) (N := some 24) (v := ?_) (a' := ?_) (bm 16 1919) rfl rfl (any_of HT_.out (by kernel_rfl)) (fun _ _ _ h => h) (Or.inl ⟨by rfl, ?_⟩) ?_ ?_
        rotate_left
        ·intro w'
         go_simp
         with_reducible rfl
        rotate_left
        ·simp only [Act.put, ac_]
         rfl
        refine take_ (i := 7) (N := some 21) (v := ?_) (a' := ?_) (bm 16 2047) rfl rfl (take_ofW HT_.out HW_.out (by kernel_rfl)) (fun _ _ _ h => h) (Or.inl ⟨by rfl, ?_⟩) hHeld ?_ ?_
        rotate_left
        ·rintro w' ⟨s0, s1⟩
         go_simp
         with_reducible rfl
        rotate_left
        ·simp only [Act.put, ac_]
         rfl
        refine take_ (i := 11) (N := some 25) (v := ?_) (a' := ?_) (bm 16 4095) rfl rfl (take_ofW HT_.out HW_.out (by kernel_rfl)) (fun _ _ _ h => h) (Or.inl ⟨by rfl, ?_⟩) hHeld ?_ ?_
        rotate_left
        ·rintro w' ⟨s0, s1⟩
         go_simp
         with_reducible rfl
        rotate_left
        ·simp only [Act.put, ac_]
         rfl
        refine pure_ (i := 12) (N := some 26) (v := ?_) (a' := ?_) (bm 16 8191) rfl rfl (any_of HT_.out (by kernel_rfl)) (fun _ _ _ h => h) (Or.inl ⟨by rfl, ?_⟩) ?_ ?_
        rotate_left
        ·intro w'
         go_simp
         with_reducible rfl
        rotate_left
        ·simp only [Act.put, ac_]
         rfl
        refine last_ (i := 13) (N := none) (bm 16 16383) rfl rfl (one_of HT_.out (by kernel_rfl)) (by decide) (fun K hK => ?_)
        refine skip_ (w1 := ?_) (by rfl) rfl ?_ ?_
        rotate_left
        ·go_simp
         rfl
        refine hK.out _ _ ?_
        clear hK K
        refine pure_ (i := 14) (N := some 27) (v := ?_) (a' := ?_) (bm 16 32767) rfl rfl (any_of HT_.out (by kernel_rfl)) (fun _ _ _ h => h) (Or.inl ⟨by rfl, ?_⟩) ?_ ?_
        rotate_left
        ·intro w'
         go_simp
         with_reducible rfl
        rotate_left
        ·simp only [Act.put, ac_]
         rfl
        refine last_ (i := 15) (N := none) (bm 16 65535) rfl rfl (one_of HT_.out (by kernel_rfl)) (by decide) (fun K hK => ?_)
        refine skip_ (w1 := ?_) (by rfl) rfl ?_ ?_
        rotate_left
        ·go_simp
         rfl
        refine hK.out _ _ ?_
        clear hK K
        refine done_ (done_of HT_.out (by kernel_rfl)) ?_
        try go_wp2
        (try simp only [← hl0_1])
        go_roundg k1
        case measure => have := HK1.out; omega
        case rel => exact ⟨(y104), (wrap64 (x2_1 + 1)), (wrap64 (x3_1 - 1)), aq7, aq7, H', ⟨aq73⟩, ⟨by (try simp only [hl0_1]); (with_reducible repeat (first | apply Kd.R_alloc | apply Kd.R_drewN | apply Kd.R_drew)); exact HQ12.out⟩, ⟨by repeat (first | (with_reducible first | exact HK.out | apply Kept.alloc | apply Kept.drewN | apply Kept.drew | refine Kept.setCell ?_ HMgo8.out _ | refine Kept.setCell ?_ HMgo8.out _) | exact HK.out)⟩, ⟨by repeat (first | (with_reducible first | exact HB.out | apply below_alloc | apply pw_below_drewN | apply below_drew1 | refine below_set ?_ GB8.out | refine below_set ?_ GB8.out) | exact HB.out)⟩⟩
       ·rw [if_neg c7] at H
        exact absurd H (by simp)
      ·rw [if_neg c6] at H
       exact absurd H (by simp)
     ·rw [if_neg c5] at H
      exact absurd H (by simp)
    ·rw [if_neg c4] at H
     exact absurd H (by simp)
   ·rw [if_neg c3] at H
    have c3b0 := decide_eq_false c3
    clear c3
    obtain rfl := Option.some.inj H
    go_wp2
    first | go_end0 | ((try simp only [Exit.inBlock, Exit.then]); refine bodyPost_ret (results_none rfl _ _ _) rfl ?_)
    exact ⟨aq8, (by first | exact (by (with_reducible repeat (first | apply Kd.R_alloc | apply Kd.R_drewN | apply Kd.R_drew)); exact HO_0.out) | (simp only [hl0_1]; exact (by (with_reducible repeat (first | apply Kd.R_alloc | apply Kd.R_drewN | apply Kd.R_drew)); exact HO_0.out))), aq1, aq108⟩
mutual
def impl_tray_lines.j0 : Nat → Int → List (List Int) → Int → Int → Bool → Int → Int → List Int → Option ((List (List Int)))
 | 0, _, _, _, _, _, _, _, _ => none
 | k + 1, x1, x5, x6, x7, x21, x102000, x102001, x102002 => if x21 = true then (impl_tray_lines.j1 k x1 x5 x102000 x102001 x102000 x102001 x102002) else (impl_tray_lines.j1 k x1 x5 x6 x7 x102000 x102001 x102002)
def impl_tray_lines.j1 : Nat → Int → List (List Int) → Int → Int → Int → Int → List Int → Option ((List (List Int)))
 | 0, _, _, _, _, _, _, _ => none
 | k + 1, x1, x5, x6, x7, x102000, x102001, x102002 => impl_tray_lines.l0 k x1 x5 x7 x6 0 x102000 x102001 x102002
def impl_tray_lines.l0 : Nat → Int → List (List Int) → Int → Int → Int → Int → Int → List Int → Option ((List (List Int)))
 | 0, _, _, _, _, _, _, _, _ => none
 | k + 1, x1, x5, x7, x26, x27, x102000, x102001, x102002 => if x27 < x26 then (impl_tray_lines.l1 k x1 x5 x7 x27 (([] : List Int)) x26 x27 x7 0 x102000 x102001 x102002) else (some x5)
def impl_tray_lines.l1 : Nat → Int → List (List Int) → Int → Int → List Int → Int → Int → Int → Int → Int → Int → List Int → Option ((List (List Int)))
 | 0, _, _, _, _, _, _, _, _, _, _, _, _ => none
 | k + 1, x1, x5, x7, x8, x9, x26, x27, x31, x32, x102000, x102001, x102002 => if x32 < x31 then (if x1 = 117 then (impl_tray_lines.j4 k x1 x5 x7 x8 x9 x32 x26 x27 x31 x32 true x102000 x102001 x102002) else (impl_tray_lines.j4 k x1 x5 x7 x8 x9 x32 x26 x27 x31 x32 (x1 == 100) x102000 x102001 x102002)) else (if x1 = 114 then ((slices_Reverse_int_int.f k x9).bind fun t108 => (if x5.length < 5864062014805 then (impl_tray_lines.l0 k x1 (x5 ++ [t108]) x7 x26 (wrap64 (x27 + 1)) x102000 x102001 x102002) else (none))) else (if x1 = 100 then ((slices_Reverse_int_int.f k x9).bind fun t112 => (if x5.length < 5864062014805 then (impl_tray_lines.l0 k x1 (x5 ++ [t112]) x7 x26 (wrap64 (x27 + 1)) x102000 x102001 x102002) else (none))) else (if x5.length < 5864062014805 then (impl_tray_lines.l0 k x1 (x5 ++ [x9]) x7 x26 (wrap64 (x27 + 1)) x102000 x102001 x102002) else (none))))
def impl_tray_lines.j4 : Nat → Int → List (List Int) → Int → Int → List Int → Int → Int → Int → Int → Int → Bool → Int → Int → List Int → Option ((List (List Int)))
 | 0, _, _, _, _, _, _, _, _, _, _, _, _, _, _ => none
 | k + 1, x1, x5, x7, x8, x9, x10, x26, x27, x31, x32, x40, x102000, x102001, x102002 => if x40 = true then ((impl_tray_number.f x102000 x102001 x102002 x8 x10).bind fun t119 => (if x9.length < 17592186044416 then (impl_tray_lines.l1 k x1 x5 x7 x8 (x9 ++ [t119]) x26 x27 x31 (wrap64 (x32 + 1)) x102000 x102001 x102002) else (none))) else ((impl_tray_number.f x102000 x102001 x102002 x10 x8).bind fun t123 => (if x9.length < 17592186044416 then (impl_tray_lines.l1 k x1 x5 x7 x8 (x9 ++ [t123]) x26 x27 x31 (wrap64 (x32 + 1)) x102000 x102001 x102002) else (none)))
end
def impl_tray_lines.f (k : Nat) (a0_0 : Int) (a0_1 : Int) (l0_2 : List Int) (a1 : Int) : Option ((List (List Int))) := (some (([] : List (List Int)) : List (List Int))).bind fun y102 => (if a1 = 117 then (impl_tray_lines.j0 k a1 y102 a0_1 a0_0 true a0_0 a0_1 l0_2) else (impl_tray_lines.j0 k a1 y102 a0_1 a0_0 (a1 == 100) a0_0 a0_1 l0_2))
theorem impl_tray_lines.mono_l : ∀ k, (∀ y0 y1 y2 y3 y4 y5 y6 y7, LeO (impl_tray_lines.j0 k y0 y1 y2 y3 y4 y5 y6 y7) (impl_tray_lines.j0 (k + 1) y0 y1 y2 y3 y4 y5 y6 y7)) ∧ (∀ y0 y1 y2 y3 y4 y5 y6, LeO (impl_tray_lines.j1 k y0 y1 y2 y3 y4 y5 y6) (impl_tray_lines.j1 (k + 1) y0 y1 y2 y3 y4 y5 y6)) ∧ (∀ y0 y1 y2 y3 y4 y5 y6 y7, LeO (impl_tray_lines.l0 k y0 y1 y2 y3 y4 y5 y6 y7) (impl_tray_lines.l0 (k + 1) y0 y1 y2 y3 y4 y5 y6 y7)) ∧ (∀ y0 y1 y2 y3 y4 y5 y6 y7 y8 y9 y10 y11, LeO (impl_tray_lines.l1 k y0 y1 y2 y3 y4 y5 y6 y7 y8 y9 y10 y11) (impl_tray_lines.l1 (k + 1) y0 y1 y2 y3 y4 y5 y6 y7 y8 y9 y10 y11)) ∧ (∀ y0 y1 y2 y3 y4 y5 y6 y7 y8 y9 y10 y11 y12 y13, LeO (impl_tray_lines.j4 k y0 y1 y2 y3 y4 y5 y6 y7 y8 y9 y10 y11 y12 y13) (impl_tray_lines.j4 (k + 1) y0 y1 y2 y3 y4 y5 y6 y7 y8 y9 y10 y11 y12 y13))
 | 0 => ⟨fun _ _ _ _ _ _ _ _ r h => by simp [impl_tray_lines.j0] at h, fun _ _ _ _ _ _ _ r h => by simp [impl_tray_lines.j1] at h, fun _ _ _ _ _ _ _ _ r h => by simp [impl_tray_lines.l0] at h, fun _ _ _ _ _ _ _ _ _ _ _ _ r h => by simp [impl_tray_lines.l1] at h, fun _ _ _ _ _ _ _ _ _ _ _ _ _ _ r h => by simp [impl_tray_lines.j4] at h⟩
 | k + 1 => by
  obtain ⟨ih0, ih1, ih2, ih3, ih4⟩ := impl_tray_lines.mono_l k
  refine ⟨?_, ?_, ?_, ?_, ?_⟩
  ·intro y0 y1 y2 y3 y4 y5 y6 y7
   unfold impl_tray_lines.j0
   have im0 := @slices_Reverse_int_int.mono; exact mo
  ·intro y0 y1 y2 y3 y4 y5 y6
   unfold impl_tray_lines.j1
   have im0 := @slices_Reverse_int_int.mono; exact mo
  ·intro y0 y1 y2 y3 y4 y5 y6 y7
   unfold impl_tray_lines.l0
   have im0 := @slices_Reverse_int_int.mono; exact mo
  ·intro y0 y1 y2 y3 y4 y5 y6 y7 y8 y9 y10 y11
   unfold impl_tray_lines.l1
   have im0 := @slices_Reverse_int_int.mono; exact mo
  ·intro y0 y1 y2 y3 y4 y5 y6 y7 y8 y9 y10 y11 y12 y13
   unfold impl_tray_lines.j4
   have im0 := @slices_Reverse_int_int.mono; exact mo
theorem impl_tray_lines.mono : ∀ a0 a1 a2 a3 k, LeO (impl_tray_lines.f k a0 a1 a2 a3) (impl_tray_lines.f (k + 1) a0 a1 a2 a3) := by
 intro a0 a1 a2 a3 k
 obtain ⟨ih0, ih1, ih2, ih3, ih4⟩ := impl_tray_lines.mono_l k
 unfold impl_tray_lines.f
 have im0 := @slices_Reverse_int_int.mono; exact mo
set_option maxHeartbeats 8000000 in
set_option maxRecDepth 100000 in
theorem impl_tray_lines.calls (k : Nat) (a0_0 : Int) (a0_1 : Int) (A0_2 : Option Addr) (c0_2 : Nat) (l0_2 : List Int) (a1 : Int) (r : List (List Int)) (w : World) (hr0_2 : Kd.C (Kd.int .u8) w A0_2 l0_2.length l0_2) (hc0_2 : l0_2.length ≤ c0_2) (h : impl_tray_lines.f k a0_0 a0_1 l0_2 a1 = some r) :
  Calls Tryz.prog 181 #[.agg #[.int .i64 a0_0, .int .i64 a0_1, .slice A0_2 l0_2.length c0_2], .int .u8 a1] w fun e w' => ∃ v0_ : Value, e = .returned (v0_) ∧ Kd.S (Kd.slice 3 (Kd.int .i64)) 28 w' w.heap.size (fun _ => True) v0_ r ∧ Below w.heap.size w w' := by
 have hu93 := Tryz.underlying93
 have HR0_2 := am hr0_2
 have HC0_2 := am hc0_2
 clear hr0_2 hc0_2
 have HB := am (Below.refl w.heap.size w)
 have H : ((some (([] : List (List Int)) : List (List Int))).bind fun y102 => (if a1 = 117 then (impl_tray_lines.j0 k a1 y102 a0_1 a0_0 true a0_0 a0_1 l0_2) else (impl_tray_lines.j0 k a1 y102 a0_1 a0_0 (a1 == 100) a0_0 a0_1 l0_2))) = some r := h
 clear h
 obtain ⟨y102, hy_⟩ : ∃ y_ : List (List Int), y_ = (([] : List (List Int))) := ⟨_, rfl⟩
 replace H : (if a1 = 117 then (impl_tray_lines.j0 k a1 y102 a0_1 a0_0 true a0_0 a0_1 l0_2) else (impl_tray_lines.j0 k a1 y102 a0_1 a0_0 (a1 == 100) a0_0 a0_1 l0_2)) = some r := aq3
 have Ny102 := am hy_
 clear hy_
 have HC3 := am H
 clear H
 go_enter Tryz.func181, Tryz.ntmps181
 go_upto_region 3 with (first | ((with_reducible refine gate_dst (N := 2) rfl ?_); refine box_event ?hg (N := 2) ?hd (cs := #[.int .i64 a0_0, .int .i64 a0_1, .slice A0_2 l0_2.length c0_2]) (t := 93) ?hr ?_; (case hd => rfl); (case hg => rfl); (case hr => exact aq16); intro gb101 hg w4 hbox hb; have n0_ := am (below_step aq1 hb); have n1_ := am (hbox); have n2_ := am ((by rw [hg]; exact (below_size aq1) : w.heap.size ≤ gb101)); have n3_ := am ((by rw [hg]; exact (below_size aq1) : w.heap.size ≤ gb101)); clear HB; have HB := n0_; have BK101 := n1_; have GW101 := n2_; have GE101 := n3_; clear n0_ n1_ n2_ n3_; clear hb hbox hg) | ((with_reducible refine gate_dst (N := 11) rfl ?_); refine Kd.S_lit (Kd.slice 3 (Kd.int .i64)) _ 28 ?hg (N := 11) ?hd (xs := ([] : List (List Int))) (inner := []) (ok := fun _ => True) (okp := fun _ => True) ?hr ?hp (fun _ hk => hk) trivial (Below.refl _ _) (Nat.le_refl _) (by simp) ?_; (case hd => rfl); (case hg => rfl); (case hr => exact aq16); (case hp => exact (Reps.none _ _)); intro v103 w5 ho6 hb hg_ hnew_; clear hg_ hnew_; (first | rw [← Ny102.out] at ho6 | (simp only [Int.reduceToNat] at ho6; rw [← Ny102.out] at ho6)); have n0_ := am (Kd.S_lower ho6 (below_size aq0)); have n1_ := am (blk_below (g := gb101) (o := .cells #[.int .i64 a0_0, .int .i64 a0_1, .slice A0_2 l0_2.length c0_2] 93 (0, 0)) aq2 hb); have n2_ := am (below_step aq0 hb); clear BK101; clear HB; have HO104 := n0_; have BK101 := n1_; have HB := n2_; clear n0_ n1_ n2_; clear hb ho6; obtain ⟨hcz7_0, hcz7_1, hcz7_2, hfz7_0, hfz7_1, hfz7_2⟩ := blk3_ BK101.out))
 repeat (go_quiet (first | ((with_reducible refine gate_dst (N := 2) rfl ?_); refine box_event ?hg (N := 2) ?hd (cs := #[.int .i64 a0_0, .int .i64 a0_1, .slice A0_2 l0_2.length c0_2]) (t := 93) ?hr ?_; (case hd => rfl); (case hg => rfl); (case hr => exact aq16); intro gb101 hg w4 hbox hb; have n0_ := am (below_step aq1 hb); have n1_ := am (hbox); have n2_ := am ((by rw [hg]; exact (below_size aq1) : w.heap.size ≤ gb101)); have n3_ := am ((by rw [hg]; exact (below_size aq1) : w.heap.size ≤ gb101)); clear HB; have HB := n0_; have BK101 := n1_; have GW101 := n2_; have GE101 := n3_; clear n0_ n1_ n2_ n3_; clear hb hbox hg) | ((with_reducible refine gate_dst (N := 11) rfl ?_); refine Kd.S_lit (Kd.slice 3 (Kd.int .i64)) _ 28 ?hg (N := 11) ?hd (xs := ([] : List (List Int))) (inner := []) (ok := fun _ => True) (okp := fun _ => True) ?hr ?hp (fun _ hk => hk) trivial (Below.refl _ _) (Nat.le_refl _) (by simp) ?_; (case hd => rfl); (case hg => rfl); (case hr => exact aq16); (case hp => exact (Reps.none _ _)); intro v103 w5 ho6 hb hg_ hnew_; clear hg_ hnew_; (first | rw [← Ny102.out] at ho6 | (simp only [Int.reduceToNat] at ho6; rw [← Ny102.out] at ho6)); have n0_ := am (Kd.S_lower ho6 (below_size aq0)); have n1_ := am (blk_below (g := gb101) (o := .cells #[.int .i64 a0_0, .int .i64 a0_1, .slice A0_2 l0_2.length c0_2] 93 (0, 0)) aq2 hb); have n2_ := am (below_step aq0 hb); clear BK101; clear HB; have HO104 := n0_; have BK101 := n1_; have HB := n2_; clear n0_ n1_ n2_; clear hb ho6; obtain ⟨hcz7_0, hcz7_1, hcz7_2, hfz7_0, hfz7_1, hfz7_2⟩ := blk3_ BK101.out)); go_upto_region 3 with (first | ((with_reducible refine gate_dst (N := 2) rfl ?_); refine box_event ?hg (N := 2) ?hd (cs := #[.int .i64 a0_0, .int .i64 a0_1, .slice A0_2 l0_2.length c0_2]) (t := 93) ?hr ?_; (case hd => rfl); (case hg => rfl); (case hr => exact aq16); intro gb101 hg w4 hbox hb; have n0_ := am (below_step aq1 hb); have n1_ := am (hbox); have n2_ := am ((by rw [hg]; exact (below_size aq1) : w.heap.size ≤ gb101)); have n3_ := am ((by rw [hg]; exact (below_size aq1) : w.heap.size ≤ gb101)); clear HB; have HB := n0_; have BK101 := n1_; have GW101 := n2_; have GE101 := n3_; clear n0_ n1_ n2_ n3_; clear hb hbox hg) | ((with_reducible refine gate_dst (N := 11) rfl ?_); refine Kd.S_lit (Kd.slice 3 (Kd.int .i64)) _ 28 ?hg (N := 11) ?hd (xs := ([] : List (List Int))) (inner := []) (ok := fun _ => True) (okp := fun _ => True) ?hr ?hp (fun _ hk => hk) trivial (Below.refl _ _) (Nat.le_refl _) (by simp) ?_; (case hd => rfl); (case hg => rfl); (case hr => exact aq16); (case hp => exact (Reps.none _ _)); intro v103 w5 ho6 hb hg_ hnew_; clear hg_ hnew_; (first | rw [← Ny102.out] at ho6 | (simp only [Int.reduceToNat] at ho6; rw [← Ny102.out] at ho6)); have n0_ := am (Kd.S_lower ho6 (below_size aq0)); have n1_ := am (blk_below (g := gb101) (o := .cells #[.int .i64 a0_0, .int .i64 a0_1, .slice A0_2 l0_2.length c0_2] 93 (0, 0)) aq2 hb); have n2_ := am (below_step aq0 hb); clear BK101; clear HB; have HO104 := n0_; have BK101 := n1_; have HB := n2_; clear n0_ n1_ n2_; clear hb ho6; obtain ⟨hcz7_0, hcz7_1, hcz7_2, hfz7_0, hfz7_1, hfz7_2⟩ := blk3_ BK101.out)))
 (try simp only [Act.put, List.setIfInBounds_toArray, List.set_cons_zero, List.set_cons_succ])
 go_cut [21] (fun v21 wc => ∃ (kq : Nat) (x21_2 : Bool), v21 = .bool x21_2 ∧ Aside0 (impl_tray_lines.j0 kq a1 y102 a0_1 a0_0 x21_2 a0_0 a0_1 l0_2 = some r) ∧ Aside0 (kq ≤ k) ∧ Aside0 (Kd.S (Kd.slice 3 (Kd.int .i64)) 28 wc w.heap.size (fun _ => True) v103 y102) ∧ Aside0 (wc.heap[gb101]? = some (.cells #[.int .i64 a0_0, .int .i64 a0_1, (.slice A0_2 l0_2.length c0_2)] 93 (0, 0))) ∧ Aside0 (Below w.heap.size w wc))
 case first =>
  have H := HC3.out
  clear HC3
  by_cases c8 : a1 = 117
  ·rw [if_pos c8] at H
   have c8b0 := beq_iff_eq.mpr c8
   have c8b1 := bne_eq_false_iff_eq.mpr c8
   clear c8
   (first | rw [c8b0] | (simp only [i64_w, i32_w]; rw [c8b0]) | skip)
   have H' := am H
   clear H
   go_wp2
   repeat (go_quiet (fail); try go_wp2)
   go_meet
   case rel => exact ⟨_, (true), aq7, H', ⟨aq107⟩, ⟨aq71⟩, ⟨aq2⟩, ⟨aq0⟩⟩
  ·rw [if_neg c8] at H
   have c8b0 := beq_eq_false_iff_ne.mpr c8
   have c8b1 := bne_iff_ne.mpr c8
   (first | rw [c8b0] | (simp only [i64_w, i32_w]; rw [c8b0]) | skip)
   have H' := am H
   clear H
   go_wp2
   repeat (go_quiet (fail); try go_wp2)
   go_meet
   case rel => exact ⟨_, ((a1 == 100)), aq7, H', ⟨aq107⟩, ⟨aq71⟩, ⟨aq2⟩, ⟨aq0⟩⟩
 case rest =>
  clear HC3
  try clear c1
  try clear p2
  try clear c8
  try clear c8b0
  try clear c8b1
  try clear hcz7_0
  try clear hcz7_1
  try clear hcz7_2
  try clear hfz7_0
  try clear hfz7_1
  try clear hfz7_2
  obtain ⟨kq, x21_2, rfl, HA, HJ2, HO_5, BK101, HB⟩ := hcut
  cases kq with
  | zero => exact absurd HA.out (by simp [impl_tray_lines.j0])
  | succ kj2 =>
   have H := HA.out
   clear HA
   simp only [impl_tray_lines.j0] at H
   have HC9 := am H
   clear H
   go_upto_if 21 with (fail)
   repeat (go_quiet (fail); go_upto_if 21 with (fail))
   go_cut [6, 7] (fun v6 v7 wc => ∃ (kq : Nat) (x6_8 : Int) (x7_8 : Int), v6 = .int .i64 x6_8 ∧ v7 = .int .i64 x7_8 ∧ Aside0 (impl_tray_lines.j1 kq a1 y102 x6_8 x7_8 a0_0 a0_1 l0_2 = some r) ∧ Aside0 (kq ≤ kj2) ∧ Aside0 (Kd.S (Kd.slice 3 (Kd.int .i64)) 28 wc w.heap.size (fun _ => True) v103 y102) ∧ Aside0 (wc.heap[gb101]? = some (.cells #[.int .i64 a0_0, .int .i64 a0_1, (.slice A0_2 l0_2.length c0_2)] 93 (0, 0))) ∧ Aside0 (Below w.heap.size w wc))
   case first =>
    have H := HC9.out
    clear HC9
    by_cases c10 : x21_2 = true
    ·subst c10
     rw [if_pos rfl] at H
     have H' := am H
     clear H
     obtain ⟨hcz11_0, hcz11_1, hcz11_2, hfz11_0, hfz11_1, hfz11_2⟩ := blk3_ BK101.out
     go_wp2
     repeat (go_quiet (fail); try go_wp2)
     go_meet
     case rel => exact ⟨_, (a0_0), (a0_1), aq7, aq7, H', ⟨by have := HJ2.out; first | omega | exact Nat.le_refl _⟩, ⟨aq24⟩, ⟨aq2⟩, ⟨aq0⟩⟩
    ·replace c10 := Bool.eq_false_iff.mpr c10
     subst c10
     rw [if_neg Bool.false_ne_true] at H
     have H' := am H
     clear H
     go_wp2
     repeat (go_quiet (fail); try go_wp2)
     go_meet
     case rel => exact ⟨_, (a0_1), (a0_0), aq7, aq7, H', ⟨by have := HJ2.out; first | omega | exact Nat.le_refl _⟩, ⟨aq24⟩, ⟨aq2⟩, ⟨aq0⟩⟩
   case rest =>
    clear HC9
    try clear c1
    try clear p2
    try clear c8
    try clear c8b0
    try clear c8b1
    try clear c10
    try clear hcz11_0
    try clear hcz11_1
    try clear hcz11_2
    try clear hcz7_0
    try clear hcz7_1
    try clear hcz7_2
    try clear hfz11_0
    try clear hfz11_1
    try clear hfz11_2
    try clear hfz7_0
    try clear hfz7_1
    try clear hfz7_2
    try clear p2
    obtain ⟨kq, x6_8, x7_8, rfl, rfl, HA, HJ8, HO_5, BK101, HB⟩ := hcut
    cases kq with
    | zero => exact absurd HA.out (by simp [impl_tray_lines.j1])
    | succ kj8 =>
     have H := HA.out
     clear HA
     simp only [impl_tray_lines.j1] at H
     have H' := am H
     clear H
     go_wp2
     repeat (go_quiet (fail); try go_wp2)
     go_loopg [5, 27] kj8 (fun kq v5 v27 w' => ∃ (x5_3 : List (List Int)) (x27_3 : Int), v27 = .int .i64 x27_3 ∧ Aside0 (impl_tray_lines.l0 kq a1 x5_3 x7_8 x6_8 x27_3 a0_0 a0_1 l0_2 = some r) ∧ Aside0 (kq ≤ kj8) ∧ Aside0 (Kd.S (Kd.slice 3 (Kd.int .i64)) 28 w' w.heap.size (fun _ => True) v5 x5_3) ∧ Aside0 (w'.heap[gb101]? = some (.cells #[.int .i64 a0_0, .int .i64 a0_1, (.slice A0_2 l0_2.length c0_2)] 93 (0, 0))) ∧ Aside0 (Below w.heap.size w w'))
     case atStart => exact ⟨(y102), (0), aq7, H', ⟨Nat.le_refl _⟩, ⟨aq24⟩, ⟨aq2⟩, ⟨aq0⟩⟩
     case round =>
      clear H'
      try clear c1
      try clear p2
      try clear c8
      try clear c8b0
      try clear c8b1
      try clear c10
      try clear hcz11_0
      try clear hcz11_1
      try clear hcz11_2
      try clear hcz7_0
      try clear hcz7_1
      try clear hcz7_2
      try clear hfz11_0
      try clear hfz11_1
      try clear hfz11_2
      try clear hfz7_0
      try clear hfz7_1
      try clear hfz7_2
      try clear p2
      obtain ⟨x5_3, x27_3, rfl, HA, HK3, HO_5, BK101, HB⟩ := hrel
      cases gk with
      | zero => exact absurd HA.out (by simp [impl_tray_lines.l0])
      | succ k3 =>
       have H := HA.out
       clear HA
       simp only [impl_tray_lines.l0] at H
       by_cases c12 : x27_3 < x6_8
       ·rw [if_pos c12] at H
        have c12b0 := decide_eq_true c12
        clear c12
        obtain ⟨y105, hy_⟩ : ∃ y_ : List Int, y_ = (([] : List Int)) := ⟨_, rfl⟩
        replace H : (impl_tray_lines.l1 k3 a1 x5_3 x7_8 x27_3 y105 x6_8 x27_3 x7_8 0 a0_0 a0_1 l0_2) = some r := aq3
        have Ny105 := am hy_
        clear hy_
        have H' := am H
        clear H
        go_wp2_with (first | ((with_reducible refine gate_dst (N := 30) rfl ?_); refine Kd.R_lit (Kd.int .i64) _ 3 ?hg (N := 30) ?hd (xs := ([] : List Int)) (inner := []) (ok := fun _ => True) (okp := fun _ => True) ?hr ?hp (fun _ hk => hk) trivial (Below.refl _ _) (Nat.le_refl _) (by simp) ?_; (case hd => rfl); (case hg => rfl); (case hr => exact aq16); (case hp => exact (Reps.none _ _)); intro v106 w13 ho14 hb hg_ hnew_; clear hg_ hnew_; (first | rw [← Ny105.out] at ho14 | (simp only [Int.reduceToNat] at ho14; rw [← Ny105.out] at ho14)); have n0_ := am (Kd.S_elder' aq24 (Kd.R_base ho14) hb); have n1_ := am (Kd.R_lower ho14 (below_size aq0)); have n2_ := am (blk_below (g := gb101) (o := .cells #[.int .i64 a0_0, .int .i64 a0_1, .slice A0_2 l0_2.length c0_2] 93 (0, 0)) aq2 hb); have n3_ := am (below_step aq0 hb); clear HO_5; clear BK101; clear HB; have HO_5 := n0_; have HO107 := n1_; have BK101 := n2_; have HB := n3_; clear n0_ n1_ n2_ n3_; clear hb ho14))
        repeat (go_quiet (fail); try go_wp2_with (first | ((with_reducible refine gate_dst (N := 30) rfl ?_); refine Kd.R_lit (Kd.int .i64) _ 3 ?hg (N := 30) ?hd (xs := ([] : List Int)) (inner := []) (ok := fun _ => True) (okp := fun _ => True) ?hr ?hp (fun _ hk => hk) trivial (Below.refl _ _) (Nat.le_refl _) (by simp) ?_; (case hd => rfl); (case hg => rfl); (case hr => exact aq16); (case hp => exact (Reps.none _ _)); intro v106 w13 ho14 hb hg_ hnew_; clear hg_ hnew_; (first | rw [← Ny105.out] at ho14 | (simp only [Int.reduceToNat] at ho14; rw [← Ny105.out] at ho14)); have n0_ := am (Kd.S_elder' aq24 (Kd.R_base ho14) hb); have n1_ := am (Kd.R_lower ho14 (below_size aq0)); have n2_ := am (blk_below (g := gb101) (o := .cells #[.int .i64 a0_0, .int .i64 a0_1, .slice A0_2 l0_2.length c0_2] 93 (0, 0)) aq2 hb); have n3_ := am (below_step aq0 hb); clear HO_5; clear BK101; clear HB; have HO_5 := n0_; have HO107 := n1_; have BK101 := n2_; have HB := n3_; clear n0_ n1_ n2_ n3_; clear hb ho14)))
        go_loopg [9, 32] k3 (fun kq v9 v32 w' => ∃ (x9_4 : List Int) (x32_4 : Int), v32 = .int .i64 x32_4 ∧ Aside0 (impl_tray_lines.l1 kq a1 x5_3 x7_8 x27_3 x9_4 x6_8 x27_3 x7_8 x32_4 a0_0 a0_1 l0_2 = some r) ∧ Aside0 (kq ≤ k3) ∧ Aside0 (Kd.S (Kd.slice 3 (Kd.int .i64)) 28 w' w.heap.size (fun k_ => some k_ ≠ (v9 : Value).ownBlock) u5 x5_3) ∧ Aside0 (Kd.R (Kd.int .i64) 3 w' w.heap.size (fun _ => True) v9 x9_4) ∧ Aside0 (w'.heap[gb101]? = some (.cells #[.int .i64 a0_0, .int .i64 a0_1, (.slice A0_2 l0_2.length c0_2)] 93 (0, 0))) ∧ Aside0 (Below w.heap.size w w'))
        case atStart => exact ⟨(y105), (0), aq7, H', ⟨Nat.le_refl _⟩, ⟨aq60⟩, ⟨by (with_reducible repeat (first | apply Kd.R_alloc | apply Kd.R_drewN | apply Kd.R_drew)); exact HO107.out⟩, ⟨aq2⟩, ⟨aq0⟩⟩
        case round =>
         clear H'
         try clear c1
         try clear p2
         try clear c8
         try clear c8b0
         try clear c8b1
         try clear c10
         try clear c12
         try clear c12b0
         try clear hcz11_0
         try clear hcz11_1
         try clear hcz11_2
         try clear hcz7_0
         try clear hcz7_1
         try clear hcz7_2
         try clear hfz11_0
         try clear hfz11_1
         try clear hfz11_2
         try clear hfz7_0
         try clear hfz7_1
         try clear hfz7_2
         try clear p2
         obtain ⟨x9_4, x32_4, rfl, HA, HK4, HO_5, HO_9, BK101, HB⟩ := hrel
         cases gk with
         | zero => exact absurd HA.out (by simp [impl_tray_lines.l1])
         | succ k4 =>
          have H := HA.out
          clear HA
          simp only [impl_tray_lines.l1] at H
          by_cases c15 : x32_4 < x7_8
          ·rw [if_pos c15] at H
           have c15b0 := decide_eq_true c15
           clear c15
           have HC16 := am H
           clear H
           go_upto_region 12 with (fail)
           repeat (go_quiet (fail); go_upto_region 12 with (fail))
           go_cut [40] (fun v40 wc => ∃ (kq : Nat) (x40_15 : Bool), v40 = .bool x40_15 ∧ Aside0 (impl_tray_lines.j4 kq a1 x5_3 x7_8 x27_3 x9_4 x32_4 x6_8 x27_3 x7_8 x32_4 x40_15 a0_0 a0_1 l0_2 = some r) ∧ Aside0 (kq ≤ k4) ∧ Aside0 (Kd.S (Kd.slice 3 (Kd.int .i64)) 28 wc w.heap.size (fun k_ => some k_ ≠ (u9 : Value).ownBlock) u5 x5_3) ∧ Aside0 (Kd.R (Kd.int .i64) 3 wc w.heap.size (fun _ => True) u9 x9_4) ∧ Aside0 (wc.heap[gb101]? = some (.cells #[.int .i64 a0_0, .int .i64 a0_1, (.slice A0_2 l0_2.length c0_2)] 93 (0, 0))) ∧ Aside0 (Below w.heap.size w wc))
           case first =>
            have H := HC16.out
            clear HC16
            by_cases c17 : a1 = 117
            ·rw [if_pos c17] at H
             have c17b0 := beq_iff_eq.mpr c17
             have c17b1 := bne_eq_false_iff_eq.mpr c17
             clear c17
             (first | rw [c17b0] | (simp only [i64_w, i32_w]; rw [c17b0]) | skip)
             have H' := am H
             clear H
             go_wp2
             repeat (go_quiet (fail); try go_wp2)
             go_meet
             case rel => exact ⟨_, (true), aq7, H', ⟨by have := HJ2.out; have := HJ8.out; have := HK3.out; have := HK4.out; first | omega | exact Nat.le_refl _⟩, ⟨aq24⟩, ⟨aq10⟩, ⟨aq2⟩, ⟨aq0⟩⟩
            ·rw [if_neg c17] at H
             have c17b0 := beq_eq_false_iff_ne.mpr c17
             have c17b1 := bne_iff_ne.mpr c17
             (first | rw [c17b0] | (simp only [i64_w, i32_w]; rw [c17b0]) | skip)
             have H' := am H
             clear H
             go_wp2
             repeat (go_quiet (fail); try go_wp2)
             go_meet
             case rel => exact ⟨_, ((a1 == 100)), aq7, H', ⟨by have := HJ2.out; have := HJ8.out; have := HK3.out; have := HK4.out; first | omega | exact Nat.le_refl _⟩, ⟨aq24⟩, ⟨aq10⟩, ⟨aq2⟩, ⟨aq0⟩⟩
           case rest =>
            clear HC16
            try clear c1
            try clear p2
            try clear c8
            try clear c8b0
            try clear c8b1
            try clear c10
            try clear c12
            try clear c12b0
            try clear c15
            try clear c15b0
            try clear c17
            try clear c17b0
            try clear c17b1
            try clear hcz11_0
            try clear hcz11_1
            try clear hcz11_2
            try clear hcz7_0
            try clear hcz7_1
            try clear hcz7_2
            try clear hfz11_0
            try clear hfz11_1
            try clear hfz11_2
            try clear hfz7_0
            try clear hfz7_1
            try clear hfz7_2
            try clear p2
            obtain ⟨kq, x40_15, rfl, HA, HJ15, HO_5, HO_9, BK101, HB⟩ := hcut
            cases kq with
            | zero => exact absurd HA.out (by simp [impl_tray_lines.j4])
            | succ kj15 =>
             have H := HA.out
             clear HA
             simp only [impl_tray_lines.j4] at H
             by_cases c18 : x40_15 = true
             ·subst c18
              rw [if_pos rfl] at H
              obtain ⟨t119, A190, H⟩ := Option.bind_eq_some_iff.mp H
              have A19 := am A190
              clear A190
              by_cases c20 : x9_4.length < 17592186044416
              ·rw [if_pos c20] at H
               have LMc20 := am c20
               clear c20
               obtain ⟨y120, hy_⟩ : ∃ y_ : List Int, y_ = (x9_4 ++ [t119]) := ⟨_, rfl⟩
               replace H : (impl_tray_lines.l1 kj15 a1 x5_3 x7_8 x27_3 y120 x6_8 x27_3 x7_8 (wrap64 (x32_4 + 1)) a0_0 a0_1 l0_2) = some r := aq3
               have Ny120 := am hy_
               clear hy_
               have H' := am H
               clear H
               obtain ⟨hcz21_0, hcz21_1, hcz21_2, hfz21_0, hfz21_1, hfz21_2⟩ := blk3_ BK101.out
               go_wp2_with (first | (go_at_call 214; (with_reducible refine (impl_tray_number.calls a0_0 a0_1 _ _ l0_2 x27_3 x32_4 t119 _ ?side1 ?side2 A19.out).mono ?_); (case side1 => exact aq9); (case side2 => exact HC0_2.out); rintro e w22 ⟨rfl, hb⟩; have n0_ := am (Kd.S_below aq24 hb); have n1_ := am (Kd.R_below aq10 hb); have n2_ := am (blk_below (g := gb101) (o := .cells #[.int .i64 a0_0, .int .i64 a0_1, .slice A0_2 l0_2.length c0_2] 93 (0, 0)) aq2 hb); have n3_ := am (below_step aq0 hb); clear HO_5; clear HO_9; clear BK101; clear HB; have HO_5 := n0_; have HO_9 := n1_; have BK101 := n2_; have HB := n3_; clear n0_ n1_ n2_ n3_; (try clear hb); (try clear hb2); (try clear hk); (try clear hi)) | ((with_reducible refine gate_builtin (b := .append) (xs := #[.tmp 41, .tmp 46]) rfl ?_); at_builtin; refine Kd.R_append (Kd.int .i64) (w0 := w) w.heap.size rfl (.tmp 41) (.tmp 46) 28 3 (.int .i64 0) 8 rfl Tryz.underlying28 info3 rfl (by decide) (by omega) u9 x9_4 t119 [.int .i64 t119] (fun _ => True) (fun _ => False) rfl rfl ?aP (fun _ hk => hk.elim) ?aF ?aO ?aB ?aS ?aL ?_; (case aP => exact rfl); (case aB => exact aq0); (case aF => exact aq80); (case aO => exact aq10); (case aS => exact aq78); (case aL => have := LMc20.out; omega); intro v121 w23 ho hb hg hat; rw [← Ny120.out] at ho; have n0_ := am (Kd.S_after (ok := (fun _ => True)) aq53 hg hat); have n1_ := am (blk_grown (g := gb101) (o := .cells #[.int .i64 a0_0, .int .i64 a0_1, .slice A0_2 l0_2.length c0_2] 93 (0, 0)) aq2 hg (Kd.R_ne HO_9.out BK101.out (by decide))); have n2_ := am (hb); have n3_ := am (ho); clear HO_5; clear BK101; clear HB; clear HO_9; have HO_5 := n0_; have BK101 := n1_; have HB := n2_; have HO122 := n3_; clear n0_ n1_ n2_ n3_; clear ho hb hg hat))
               repeat (go_quiet (fail); try go_wp2_with (first | (go_at_call 214; (with_reducible refine (impl_tray_number.calls a0_0 a0_1 _ _ l0_2 x27_3 x32_4 t119 _ ?side1 ?side2 A19.out).mono ?_); (case side1 => exact aq9); (case side2 => exact HC0_2.out); rintro e w22 ⟨rfl, hb⟩; have n0_ := am (Kd.S_below aq24 hb); have n1_ := am (Kd.R_below aq10 hb); have n2_ := am (blk_below (g := gb101) (o := .cells #[.int .i64 a0_0, .int .i64 a0_1, .slice A0_2 l0_2.length c0_2] 93 (0, 0)) aq2 hb); have n3_ := am (below_step aq0 hb); clear HO_5; clear HO_9; clear BK101; clear HB; have HO_5 := n0_; have HO_9 := n1_; have BK101 := n2_; have HB := n3_; clear n0_ n1_ n2_ n3_; (try clear hb); (try clear hb2); (try clear hk); (try clear hi)) | ((with_reducible refine gate_builtin (b := .append) (xs := #[.tmp 41, .tmp 46]) rfl ?_); at_builtin; refine Kd.R_append (Kd.int .i64) (w0 := w) w.heap.size rfl (.tmp 41) (.tmp 46) 28 3 (.int .i64 0) 8 rfl Tryz.underlying28 info3 rfl (by decide) (by omega) u9 x9_4 t119 [.int .i64 t119] (fun _ => True) (fun _ => False) rfl rfl ?aP (fun _ hk => hk.elim) ?aF ?aO ?aB ?aS ?aL ?_; (case aP => exact rfl); (case aB => exact aq0); (case aF => exact aq80); (case aO => exact aq10); (case aS => exact aq78); (case aL => have := LMc20.out; omega); intro v121 w23 ho hb hg hat; rw [← Ny120.out] at ho; have n0_ := am (Kd.S_after (ok := (fun _ => True)) aq53 hg hat); have n1_ := am (blk_grown (g := gb101) (o := .cells #[.int .i64 a0_0, .int .i64 a0_1, .slice A0_2 l0_2.length c0_2] 93 (0, 0)) aq2 hg (Kd.R_ne HO_9.out BK101.out (by decide))); have n2_ := am (hb); have n3_ := am (ho); clear HO_5; clear BK101; clear HB; clear HO_9; have HO_5 := n0_; have BK101 := n1_; have HB := n2_; have HO122 := n3_; clear n0_ n1_ n2_ n3_; clear ho hb hg hat)))
               go_roundg kj15
               case measure => have := HJ2.out; have := HJ8.out; have := HK3.out; have := HK4.out; have := HJ15.out; omega
               case rel => exact ⟨(y120), (wrap64 (x32_4 + 1)), aq7, H', ⟨by have := HJ2.out; have := HJ8.out; have := HK3.out; have := HK4.out; have := HJ15.out; omega⟩, ⟨aq60⟩, ⟨by (with_reducible repeat (first | apply Kd.R_alloc | apply Kd.R_drewN | apply Kd.R_drew)); exact HO122.out⟩, ⟨aq2⟩, ⟨aq0⟩⟩
              ·rw [if_neg c20] at H
               exact absurd H (by simp)
             ·replace c18 := Bool.eq_false_iff.mpr c18
              subst c18
              rw [if_neg Bool.false_ne_true] at H
              obtain ⟨t123, A240, H⟩ := Option.bind_eq_some_iff.mp H
              have A24 := am A240
              clear A240
              by_cases c25 : x9_4.length < 17592186044416
              ·rw [if_pos c25] at H
               have LMc25 := am c25
               clear c25
               obtain ⟨y124, hy_⟩ : ∃ y_ : List Int, y_ = (x9_4 ++ [t123]) := ⟨_, rfl⟩
               replace H : (impl_tray_lines.l1 kj15 a1 x5_3 x7_8 x27_3 y124 x6_8 x27_3 x7_8 (wrap64 (x32_4 + 1)) a0_0 a0_1 l0_2) = some r := aq3
               have Ny124 := am hy_
               clear hy_
               have H' := am H
               clear H
               obtain ⟨hcz26_0, hcz26_1, hcz26_2, hfz26_0, hfz26_1, hfz26_2⟩ := blk3_ BK101.out
               go_wp2_with (first | (go_at_call 214; (with_reducible refine (impl_tray_number.calls a0_0 a0_1 _ _ l0_2 x32_4 x27_3 t123 _ ?side1 ?side2 A24.out).mono ?_); (case side1 => exact aq9); (case side2 => exact HC0_2.out); rintro e w27 ⟨rfl, hb⟩; have n0_ := am (Kd.S_below aq24 hb); have n1_ := am (Kd.R_below aq10 hb); have n2_ := am (blk_below (g := gb101) (o := .cells #[.int .i64 a0_0, .int .i64 a0_1, .slice A0_2 l0_2.length c0_2] 93 (0, 0)) aq2 hb); have n3_ := am (below_step aq0 hb); clear HO_5; clear HO_9; clear BK101; clear HB; have HO_5 := n0_; have HO_9 := n1_; have BK101 := n2_; have HB := n3_; clear n0_ n1_ n2_ n3_; (try clear hb); (try clear hb2); (try clear hk); (try clear hi)) | ((with_reducible refine gate_builtin (b := .append) (xs := #[.tmp 48, .tmp 53]) rfl ?_); at_builtin; refine Kd.R_append (Kd.int .i64) (w0 := w) w.heap.size rfl (.tmp 48) (.tmp 53) 28 3 (.int .i64 0) 8 rfl Tryz.underlying28 info3 rfl (by decide) (by omega) u9 x9_4 t123 [.int .i64 t123] (fun _ => True) (fun _ => False) rfl rfl ?aP (fun _ hk => hk.elim) ?aF ?aO ?aB ?aS ?aL ?_; (case aP => exact rfl); (case aB => exact aq0); (case aF => exact aq80); (case aO => exact aq10); (case aS => exact aq78); (case aL => have := LMc25.out; omega); intro v125 w28 ho hb hg hat; rw [← Ny124.out] at ho; have n0_ := am (Kd.S_after (ok := (fun _ => True)) aq53 hg hat); have n1_ := am (blk_grown (g := gb101) (o := .cells #[.int .i64 a0_0, .int .i64 a0_1, .slice A0_2 l0_2.length c0_2] 93 (0, 0)) aq2 hg (Kd.R_ne HO_9.out BK101.out (by decide))); have n2_ := am (hb); have n3_ := am (ho); clear HO_5; clear BK101; clear HB; clear HO_9; have HO_5 := n0_; have BK101 := n1_; have HB := n2_; have HO126 := n3_; clear n0_ n1_ n2_ n3_; clear ho hb hg hat))
               repeat (go_quiet (fail); try go_wp2_with (first | (go_at_call 214; (with_reducible refine (impl_tray_number.calls a0_0 a0_1 _ _ l0_2 x32_4 x27_3 t123 _ ?side1 ?side2 A24.out).mono ?_); (case side1 => exact aq9); (case side2 => exact HC0_2.out); rintro e w27 ⟨rfl, hb⟩; have n0_ := am (Kd.S_below aq24 hb); have n1_ := am (Kd.R_below aq10 hb); have n2_ := am (blk_below (g := gb101) (o := .cells #[.int .i64 a0_0, .int .i64 a0_1, .slice A0_2 l0_2.length c0_2] 93 (0, 0)) aq2 hb); have n3_ := am (below_step aq0 hb); clear HO_5; clear HO_9; clear BK101; clear HB; have HO_5 := n0_; have HO_9 := n1_; have BK101 := n2_; have HB := n3_; clear n0_ n1_ n2_ n3_; (try clear hb); (try clear hb2); (try clear hk); (try clear hi)) | ((with_reducible refine gate_builtin (b := .append) (xs := #[.tmp 48, .tmp 53]) rfl ?_); at_builtin; refine Kd.R_append (Kd.int .i64) (w0 := w) w.heap.size rfl (.tmp 48) (.tmp 53) 28 3 (.int .i64 0) 8 rfl Tryz.underlying28 info3 rfl (by decide) (by omega) u9 x9_4 t123 [.int .i64 t123] (fun _ => True) (fun _ => False) rfl rfl ?aP (fun _ hk => hk.elim) ?aF ?aO ?aB ?aS ?aL ?_; (case aP => exact rfl); (case aB => exact aq0); (case aF => exact aq80); (case aO => exact aq10); (case aS => exact aq78); (case aL => have := LMc25.out; omega); intro v125 w28 ho hb hg hat; rw [← Ny124.out] at ho; have n0_ := am (Kd.S_after (ok := (fun _ => True)) aq53 hg hat); have n1_ := am (blk_grown (g := gb101) (o := .cells #[.int .i64 a0_0, .int .i64 a0_1, .slice A0_2 l0_2.length c0_2] 93 (0, 0)) aq2 hg (Kd.R_ne HO_9.out BK101.out (by decide))); have n2_ := am (hb); have n3_ := am (ho); clear HO_5; clear BK101; clear HB; clear HO_9; have HO_5 := n0_; have BK101 := n1_; have HB := n2_; have HO126 := n3_; clear n0_ n1_ n2_ n3_; clear ho hb hg hat)))
               go_roundg kj15
               case measure => have := HJ2.out; have := HJ8.out; have := HK3.out; have := HK4.out; have := HJ15.out; omega
               case rel => exact ⟨(y124), (wrap64 (x32_4 + 1)), aq7, H', ⟨by have := HJ2.out; have := HJ8.out; have := HK3.out; have := HK4.out; have := HJ15.out; omega⟩, ⟨aq60⟩, ⟨by (with_reducible repeat (first | apply Kd.R_alloc | apply Kd.R_drewN | apply Kd.R_drew)); exact HO126.out⟩, ⟨aq2⟩, ⟨aq0⟩⟩
              ·rw [if_neg c25] at H
               exact absurd H (by simp)
          ·rw [if_neg c15] at H
           have c15b0 := decide_eq_false c15
           clear c15
           by_cases c29 : a1 = 114
           ·rw [if_pos c29] at H
            have c29b0 := beq_iff_eq.mpr c29
            have c29b1 := bne_eq_false_iff_eq.mpr c29
            clear c29
            obtain ⟨t108, A300, H⟩ := Option.bind_eq_some_iff.mp H
            have A30 := am A300
            clear A300
            by_cases c31 : x5_3.length < 5864062014805
            ·rw [if_pos c31] at H
             have LMc31 := am c31
             clear c31
             obtain ⟨y109, hy_⟩ : ∃ y_ : List (List Int), y_ = (x5_3 ++ [t108]) := ⟨_, rfl⟩
             replace H : (impl_tray_lines.l0 k4 a1 y109 x7_8 x6_8 (wrap64 (x27_3 + 1)) a0_0 a0_1 l0_2) = some r := aq3
             have Ny109 := am hy_
             clear hy_
             have H' := am H
             clear H
             obtain ⟨Ao32, co32, eo32⟩ := Kd.R_slice HO_9.out
             subst eo32
             go_wp2_with (first | (go_at_call 215; (with_reducible refine (slices_Reverse_int_int.calls k4 (fun k_ => some k_ = (.slice Ao32 x9_4.length co32 : Value).ownBlock) (.slice Ao32 x9_4.length co32) x9_4 t108 w _ ?side1 ?side2 A30.out).mono ?_); (case side1 => exact aq0); (case side2 => exact Kd.R_tight rfl HO_9.out); rintro e w33 ⟨rfl, hy0, hb, hkp⟩; have n0_ := am (Kd.S_mono (ok' := fun k_ => some k_ ≠ (.slice Ao32 x9_4.length co32 : Value).ownBlock) (Kd.S_keptB (HO_5.out) hkp (fun k_ hk_ hs_ => (hk_) hs_)) (fun k_ hk_ => hk_.1)); have n1_ := am (Kd.R_reok rfl hy0 (fun k_ e_ => HO_9.out.1 k_ e_)); have n2_ := am (blk_kept aq2 hkp (fun hs_ => (fun e_ => (Kd.R_ne HO_9.out BK101.out (by decide)) e_) hs_)); have n3_ := am (hb); clear HO_5; clear HO_9; clear BK101; clear HB; have HO_5 := n0_; have HO_9 := n1_; have BK101 := n2_; have HB := n3_; clear n0_ n1_ n2_ n3_; (try clear hb); (try clear hkp); (try clear hy0)) | ((with_reducible refine gate_builtin (b := .append) (xs := #[.tmp 64, .tmp 66]) rfl ?_); at_builtin; refine Kd.S_append (Kd.slice 3 (Kd.int .i64)) (w0 := w) w.heap.size rfl (.tmp 64) (.tmp 66) 40 28 (.slice none 0 0) 24 rfl Tryz.underlying40 info28 rfl (by decide) (by omega) u5 x5_3 t108 [.slice Ao32 x9_4.length co32] (fun _ => True) (fun k_ => some k_ = (.slice Ao32 x9_4.length co32 : Value).ownBlock) rfl rfl ?aP (fun k_ hk_ => ((Kd.R_mono (ok' := fun k_ => ((fun _ => True)) k_ ∧ some k_ ≠ (u5 : Value).ownBlock) (Kd.R_apart' (HO_9.out) (Kd.S_typed HO_5.out) (by decide)) (fun k_ hk => ⟨trivial, hk.2⟩))).1 k_ hk_.symm) ?aF ?aO ?aB ?aS ?aL ?_; (case aP => exact aq27); (case aB => exact aq0); (case aF => exact aq80); (case aO => exact aq37); (case aS => exact aq78); (case aL => have := LMc31.out; omega); intro v110 w34 ho hb hg hat; rw [← Ny109.out] at ho; have n0_ := am (blk_grown (g := gb101) (o := .cells #[.int .i64 a0_0, .int .i64 a0_1, .slice A0_2 l0_2.length c0_2] 93 (0, 0)) aq2 hg (Kd.S_ne HO_5.out BK101.out (by decide))); have n1_ := am (hb); have n2_ := am (ho); clear BK101; clear HB; clear HO_5; clear HO_9; have BK101 := n0_; have HB := n1_; have HO111 := n2_; clear n0_ n1_ n2_; clear ho hb hg hat))
             repeat (go_quiet (fail); try go_wp2_with (first | (go_at_call 215; (with_reducible refine (slices_Reverse_int_int.calls k4 (fun k_ => some k_ = (.slice Ao32 x9_4.length co32 : Value).ownBlock) (.slice Ao32 x9_4.length co32) x9_4 t108 w _ ?side1 ?side2 A30.out).mono ?_); (case side1 => exact aq0); (case side2 => exact Kd.R_tight rfl HO_9.out); rintro e w33 ⟨rfl, hy0, hb, hkp⟩; have n0_ := am (Kd.S_mono (ok' := fun k_ => some k_ ≠ (.slice Ao32 x9_4.length co32 : Value).ownBlock) (Kd.S_keptB (HO_5.out) hkp (fun k_ hk_ hs_ => (hk_) hs_)) (fun k_ hk_ => hk_.1)); have n1_ := am (Kd.R_reok rfl hy0 (fun k_ e_ => HO_9.out.1 k_ e_)); have n2_ := am (blk_kept aq2 hkp (fun hs_ => (fun e_ => (Kd.R_ne HO_9.out BK101.out (by decide)) e_) hs_)); have n3_ := am (hb); clear HO_5; clear HO_9; clear BK101; clear HB; have HO_5 := n0_; have HO_9 := n1_; have BK101 := n2_; have HB := n3_; clear n0_ n1_ n2_ n3_; (try clear hb); (try clear hkp); (try clear hy0)) | ((with_reducible refine gate_builtin (b := .append) (xs := #[.tmp 64, .tmp 66]) rfl ?_); at_builtin; refine Kd.S_append (Kd.slice 3 (Kd.int .i64)) (w0 := w) w.heap.size rfl (.tmp 64) (.tmp 66) 40 28 (.slice none 0 0) 24 rfl Tryz.underlying40 info28 rfl (by decide) (by omega) u5 x5_3 t108 [.slice Ao32 x9_4.length co32] (fun _ => True) (fun k_ => some k_ = (.slice Ao32 x9_4.length co32 : Value).ownBlock) rfl rfl ?aP (fun k_ hk_ => ((Kd.R_mono (ok' := fun k_ => ((fun _ => True)) k_ ∧ some k_ ≠ (u5 : Value).ownBlock) (Kd.R_apart' (HO_9.out) (Kd.S_typed HO_5.out) (by decide)) (fun k_ hk => ⟨trivial, hk.2⟩))).1 k_ hk_.symm) ?aF ?aO ?aB ?aS ?aL ?_; (case aP => exact aq27); (case aB => exact aq0); (case aF => exact aq80); (case aO => exact aq37); (case aS => exact aq78); (case aL => have := LMc31.out; omega); intro v110 w34 ho hb hg hat; rw [← Ny109.out] at ho; have n0_ := am (blk_grown (g := gb101) (o := .cells #[.int .i64 a0_0, .int .i64 a0_1, .slice A0_2 l0_2.length c0_2] 93 (0, 0)) aq2 hg (Kd.S_ne HO_5.out BK101.out (by decide))); have n1_ := am (hb); have n2_ := am (ho); clear BK101; clear HB; clear HO_5; clear HO_9; have BK101 := n0_; have HB := n1_; have HO111 := n2_; clear n0_ n1_ n2_; clear ho hb hg hat)))
             go_roundg k4
             case measure => have := HJ2.out; have := HJ8.out; have := HK3.out; have := HK4.out; omega
             case rel => exact ⟨(y109), (wrap64 (x27_3 + 1)), aq7, H', ⟨aq98⟩, ⟨by (with_reducible repeat (first | apply Kd.S_alloc | apply Kd.S_drewN | apply Kd.S_drew)); exact HO111.out⟩, ⟨aq2⟩, ⟨aq0⟩⟩
            ·rw [if_neg c31] at H
             exact absurd H (by simp)
           ·rw [if_neg c29] at H
            have c29b0 := beq_eq_false_iff_ne.mpr c29
            have c29b1 := bne_iff_ne.mpr c29
            by_cases c35 : a1 = 100
            ·rw [if_pos c35] at H
             have c35b0 := beq_iff_eq.mpr c35
             have c35b1 := bne_eq_false_iff_eq.mpr c35
             clear c35
             obtain ⟨t112, A360, H⟩ := Option.bind_eq_some_iff.mp H
             have A36 := am A360
             clear A360
             by_cases c37 : x5_3.length < 5864062014805
             ·rw [if_pos c37] at H
              have LMc37 := am c37
              clear c37
              obtain ⟨y113, hy_⟩ : ∃ y_ : List (List Int), y_ = (x5_3 ++ [t112]) := ⟨_, rfl⟩
              replace H : (impl_tray_lines.l0 k4 a1 y113 x7_8 x6_8 (wrap64 (x27_3 + 1)) a0_0 a0_1 l0_2) = some r := aq3
              have Ny113 := am hy_
              clear hy_
              have H' := am H
              clear H
              obtain ⟨Ao38, co38, eo38⟩ := Kd.R_slice HO_9.out
              subst eo38
              go_wp2_with (first | (go_at_call 215; (with_reducible refine (slices_Reverse_int_int.calls k4 (fun k_ => some k_ = (.slice Ao38 x9_4.length co38 : Value).ownBlock) (.slice Ao38 x9_4.length co38) x9_4 t112 w _ ?side1 ?side2 A36.out).mono ?_); (case side1 => exact aq0); (case side2 => exact Kd.R_tight rfl HO_9.out); rintro e w39 ⟨rfl, hy0, hb, hkp⟩; have n0_ := am (Kd.S_mono (ok' := fun k_ => some k_ ≠ (.slice Ao38 x9_4.length co38 : Value).ownBlock) (Kd.S_keptB (HO_5.out) hkp (fun k_ hk_ hs_ => (hk_) hs_)) (fun k_ hk_ => hk_.1)); have n1_ := am (Kd.R_reok rfl hy0 (fun k_ e_ => HO_9.out.1 k_ e_)); have n2_ := am (blk_kept aq2 hkp (fun hs_ => (fun e_ => (Kd.R_ne HO_9.out BK101.out (by decide)) e_) hs_)); have n3_ := am (hb); clear HO_5; clear HO_9; clear BK101; clear HB; have HO_5 := n0_; have HO_9 := n1_; have BK101 := n2_; have HB := n3_; clear n0_ n1_ n2_ n3_; (try clear hb); (try clear hkp); (try clear hy0)) | ((with_reducible refine gate_builtin (b := .append) (xs := #[.tmp 64, .tmp 66]) rfl ?_); at_builtin; refine Kd.S_append (Kd.slice 3 (Kd.int .i64)) (w0 := w) w.heap.size rfl (.tmp 64) (.tmp 66) 40 28 (.slice none 0 0) 24 rfl Tryz.underlying40 info28 rfl (by decide) (by omega) u5 x5_3 t112 [.slice Ao38 x9_4.length co38] (fun _ => True) (fun k_ => some k_ = (.slice Ao38 x9_4.length co38 : Value).ownBlock) rfl rfl ?aP (fun k_ hk_ => ((Kd.R_mono (ok' := fun k_ => ((fun _ => True)) k_ ∧ some k_ ≠ (u5 : Value).ownBlock) (Kd.R_apart' (HO_9.out) (Kd.S_typed HO_5.out) (by decide)) (fun k_ hk => ⟨trivial, hk.2⟩))).1 k_ hk_.symm) ?aF ?aO ?aB ?aS ?aL ?_; (case aP => exact aq27); (case aB => exact aq0); (case aF => exact aq80); (case aO => exact aq37); (case aS => exact aq78); (case aL => have := LMc37.out; omega); intro v114 w40 ho hb hg hat; rw [← Ny113.out] at ho; have n0_ := am (blk_grown (g := gb101) (o := .cells #[.int .i64 a0_0, .int .i64 a0_1, .slice A0_2 l0_2.length c0_2] 93 (0, 0)) aq2 hg (Kd.S_ne HO_5.out BK101.out (by decide))); have n1_ := am (hb); have n2_ := am (ho); clear BK101; clear HB; clear HO_5; clear HO_9; have BK101 := n0_; have HB := n1_; have HO115 := n2_; clear n0_ n1_ n2_; clear ho hb hg hat))
              repeat (go_quiet (fail); try go_wp2_with (first | (go_at_call 215; (with_reducible refine (slices_Reverse_int_int.calls k4 (fun k_ => some k_ = (.slice Ao38 x9_4.length co38 : Value).ownBlock) (.slice Ao38 x9_4.length co38) x9_4 t112 w _ ?side1 ?side2 A36.out).mono ?_); (case side1 => exact aq0); (case side2 => exact Kd.R_tight rfl HO_9.out); rintro e w39 ⟨rfl, hy0, hb, hkp⟩; have n0_ := am (Kd.S_mono (ok' := fun k_ => some k_ ≠ (.slice Ao38 x9_4.length co38 : Value).ownBlock) (Kd.S_keptB (HO_5.out) hkp (fun k_ hk_ hs_ => (hk_) hs_)) (fun k_ hk_ => hk_.1)); have n1_ := am (Kd.R_reok rfl hy0 (fun k_ e_ => HO_9.out.1 k_ e_)); have n2_ := am (blk_kept aq2 hkp (fun hs_ => (fun e_ => (Kd.R_ne HO_9.out BK101.out (by decide)) e_) hs_)); have n3_ := am (hb); clear HO_5; clear HO_9; clear BK101; clear HB; have HO_5 := n0_; have HO_9 := n1_; have BK101 := n2_; have HB := n3_; clear n0_ n1_ n2_ n3_; (try clear hb); (try clear hkp); (try clear hy0)) | ((with_reducible refine gate_builtin (b := .append) (xs := #[.tmp 64, .tmp 66]) rfl ?_); at_builtin; refine Kd.S_append (Kd.slice 3 (Kd.int .i64)) (w0 := w) w.heap.size rfl (.tmp 64) (.tmp 66) 40 28 (.slice none 0 0) 24 rfl Tryz.underlying40 info28 rfl (by decide) (by omega) u5 x5_3 t112 [.slice Ao38 x9_4.length co38] (fun _ => True) (fun k_ => some k_ = (.slice Ao38 x9_4.length co38 : Value).ownBlock) rfl rfl ?aP (fun k_ hk_ => ((Kd.R_mono (ok' := fun k_ => ((fun _ => True)) k_ ∧ some k_ ≠ (u5 : Value).ownBlock) (Kd.R_apart' (HO_9.out) (Kd.S_typed HO_5.out) (by decide)) (fun k_ hk => ⟨trivial, hk.2⟩))).1 k_ hk_.symm) ?aF ?aO ?aB ?aS ?aL ?_; (case aP => exact aq27); (case aB => exact aq0); (case aF => exact aq80); (case aO => exact aq37); (case aS => exact aq78); (case aL => have := LMc37.out; omega); intro v114 w40 ho hb hg hat; rw [← Ny113.out] at ho; have n0_ := am (blk_grown (g := gb101) (o := .cells #[.int .i64 a0_0, .int .i64 a0_1, .slice A0_2 l0_2.length c0_2] 93 (0, 0)) aq2 hg (Kd.S_ne HO_5.out BK101.out (by decide))); have n1_ := am (hb); have n2_ := am (ho); clear BK101; clear HB; clear HO_5; clear HO_9; have BK101 := n0_; have HB := n1_; have HO115 := n2_; clear n0_ n1_ n2_; clear ho hb hg hat)))
              go_roundg k4
              case measure => have := HJ2.out; have := HJ8.out; have := HK3.out; have := HK4.out; omega
              case rel => exact ⟨(y113), (wrap64 (x27_3 + 1)), aq7, H', ⟨aq98⟩, ⟨by (with_reducible repeat (first | apply Kd.S_alloc | apply Kd.S_drewN | apply Kd.S_drew)); exact HO115.out⟩, ⟨aq2⟩, ⟨aq0⟩⟩
             ·rw [if_neg c37] at H
              exact absurd H (by simp)
            ·rw [if_neg c35] at H
             have c35b0 := beq_eq_false_iff_ne.mpr c35
             have c35b1 := bne_iff_ne.mpr c35
             by_cases c41 : x5_3.length < 5864062014805
             ·rw [if_pos c41] at H
              have LMc41 := am c41
              clear c41
              obtain ⟨y116, hy_⟩ : ∃ y_ : List (List Int), y_ = (x5_3 ++ [x9_4]) := ⟨_, rfl⟩
              replace H : (impl_tray_lines.l0 k4 a1 y116 x7_8 x6_8 (wrap64 (x27_3 + 1)) a0_0 a0_1 l0_2) = some r := aq3
              have Ny116 := am hy_
              clear hy_
              have H' := am H
              clear H
              obtain ⟨Ao43, co43, eo43⟩ := Kd.R_slice HO_9.out
              subst eo43
              go_wp2_with (first | ((with_reducible refine gate_builtin (b := .append) (xs := #[.tmp 64, .tmp 66]) rfl ?_); at_builtin; refine Kd.S_append (Kd.slice 3 (Kd.int .i64)) (w0 := w) w.heap.size rfl (.tmp 64) (.tmp 66) 40 28 (.slice none 0 0) 24 rfl Tryz.underlying40 info28 rfl (by decide) (by omega) u5 x5_3 x9_4 [.slice Ao43 x9_4.length co43] (fun _ => True) (fun k_ => some k_ = (.slice Ao43 x9_4.length co43 : Value).ownBlock) rfl rfl ?aP (fun k_ hk_ => ((Kd.R_mono (ok' := fun k_ => ((fun _ => True)) k_ ∧ some k_ ≠ (u5 : Value).ownBlock) (Kd.R_apart' (HO_9.out) (Kd.S_typed HO_5.out) (by decide)) (fun k_ hk => ⟨trivial, hk.2⟩))).1 k_ hk_.symm) ?aF ?aO ?aB ?aS ?aL ?_; (case aP => exact aq27); (case aB => exact aq0); (case aF => exact aq80); (case aO => exact aq37); (case aS => exact aq78); (case aL => have := LMc41.out; omega); intro v117 w42 ho hb hg hat; rw [← Ny116.out] at ho; have n0_ := am (blk_grown (g := gb101) (o := .cells #[.int .i64 a0_0, .int .i64 a0_1, .slice A0_2 l0_2.length c0_2] 93 (0, 0)) aq2 hg (Kd.S_ne HO_5.out BK101.out (by decide))); have n1_ := am (hb); have n2_ := am (ho); clear BK101; clear HB; clear HO_5; clear HO_9; have BK101 := n0_; have HB := n1_; have HO118 := n2_; clear n0_ n1_ n2_; clear ho hb hg hat))
              repeat (go_quiet (fail); try go_wp2_with (first | ((with_reducible refine gate_builtin (b := .append) (xs := #[.tmp 64, .tmp 66]) rfl ?_); at_builtin; refine Kd.S_append (Kd.slice 3 (Kd.int .i64)) (w0 := w) w.heap.size rfl (.tmp 64) (.tmp 66) 40 28 (.slice none 0 0) 24 rfl Tryz.underlying40 info28 rfl (by decide) (by omega) u5 x5_3 x9_4 [.slice Ao43 x9_4.length co43] (fun _ => True) (fun k_ => some k_ = (.slice Ao43 x9_4.length co43 : Value).ownBlock) rfl rfl ?aP (fun k_ hk_ => ((Kd.R_mono (ok' := fun k_ => ((fun _ => True)) k_ ∧ some k_ ≠ (u5 : Value).ownBlock) (Kd.R_apart' (HO_9.out) (Kd.S_typed HO_5.out) (by decide)) (fun k_ hk => ⟨trivial, hk.2⟩))).1 k_ hk_.symm) ?aF ?aO ?aB ?aS ?aL ?_; (case aP => exact aq27); (case aB => exact aq0); (case aF => exact aq80); (case aO => exact aq37); (case aS => exact aq78); (case aL => have := LMc41.out; omega); intro v117 w42 ho hb hg hat; rw [← Ny116.out] at ho; have n0_ := am (blk_grown (g := gb101) (o := .cells #[.int .i64 a0_0, .int .i64 a0_1, .slice A0_2 l0_2.length c0_2] 93 (0, 0)) aq2 hg (Kd.S_ne HO_5.out BK101.out (by decide))); have n1_ := am (hb); have n2_ := am (ho); clear BK101; clear HB; clear HO_5; clear HO_9; have BK101 := n0_; have HB := n1_; have HO118 := n2_; clear n0_ n1_ n2_; clear ho hb hg hat)))
              go_roundg k4
              case measure => have := HJ2.out; have := HJ8.out; have := HK3.out; have := HK4.out; omega
              case rel => exact ⟨(y116), (wrap64 (x27_3 + 1)), aq7, H', ⟨aq98⟩, ⟨by (with_reducible repeat (first | apply Kd.S_alloc | apply Kd.S_drewN | apply Kd.S_drew)); exact HO118.out⟩, ⟨aq2⟩, ⟨aq0⟩⟩
             ·rw [if_neg c41] at H
              exact absurd H (by simp)
       ·rw [if_neg c12] at H
        have c12b0 := decide_eq_false c12
        clear c12
        obtain rfl := Option.some.inj H
        go_wp2
        repeat (go_quiet (fail); try go_wp2)
        go_ret
        exact ⟨_, aq8, aq24, aq0⟩
def impl_tray_own.f (a0_0 : Int) (a0_1 : Int) (l0_2 : List Int) : Option (Int × Int × List Int) := (slices_Clone.f l0_2).bind fun t103 => (some (a0_0, a0_1, t103))
def impl_tray_own.T1 : Bool × List (List Nat × List Nat) := (true, [([], []), ([0], [0]), ([], []), ([2], [2]), ([], []), ([4], [4]), ([5], [5]), ([1, 3, 6], [1, 3, 6]), ([7, 6, 0, 1, 2, 3, 4, 5, 6, 7], [7])])
def impl_tray_own.B1 : List Nat := [0, 1, 0, 4, 0, 16, 48, 127, 255]
theorem impl_tray_own.tab1 : rtab .any (opsOf Tryz.f217 1) = impl_tray_own.T1 := by kernel_rfl
theorem impl_tray_own.bits1 : waitsOk impl_tray_own.T1.2 impl_tray_own.B1 = true := by kernel_rfl
set_option maxHeartbeats 8000000 in
set_option maxRecDepth 100000 in
theorem impl_tray_own.calls (a0_0 : Int) (a0_1 : Int) (A0_2 : Option Addr) (c0_2 : Nat) (l0_2 : List Int) (r1 : Int) (r2 : Int) (r3 : List Int) (w : World) (hr0_2 : Kd.C (Kd.int .u8) w A0_2 l0_2.length l0_2) (hc0_2 : l0_2.length ≤ c0_2) (h : impl_tray_own.f a0_0 a0_1 l0_2 = some (r1, r2, r3)) :
  Calls Tryz.prog 217 #[.agg #[.int .i64 a0_0, .int .i64 a0_1, .slice A0_2 l0_2.length c0_2]] w fun e w' => ∃ v2_ : Value, e = .returned (.agg #[.int .i64 r1, .int .i64 r2, v2_]) ∧ Kd.R (Kd.int .u8) 5 w' w.heap.size (fun _ => True) v2_ r3 ∧ Below w.heap.size w w' := by
 have hu93 := Tryz.underlying93
 have HR0_2 := am hr0_2
 have HC0_2 := am hc0_2
 clear hr0_2 hc0_2
 have HB := am (Below.refl w.heap.size w)
 have H : ((slices_Clone.f l0_2).bind fun t103 => (some (a0_0, a0_1, t103))) = some (r1, r2, r3) := h
 clear h
 obtain ⟨t103, A20, H⟩ := Option.bind_eq_some_iff.mp H
 have A2 := am A20
 clear A20
 simp only [Option.some.injEq, Prod.mk.injEq] at H
 obtain ⟨rfl, rfl, rfl⟩ := H
 go_enter Tryz.func217, Tryz.ntmps217
 try go_wp2_with (first | ((with_reducible refine gate_dst (N := 1) rfl ?_); refine box_event ?hg (N := 1) ?hd (cs := #[.int .i64 a0_0, .int .i64 a0_1, .slice A0_2 l0_2.length c0_2]) (t := 93) ?hr ?_; (case hd => rfl); (case hg => rfl); (case hr => exact aq16); intro gb101 hg w3 hbox hb; have n0_ := am (below_step aq1 hb); have n1_ := am (hbox); have n2_ := am ((by rw [hg]; exact (below_size aq1) : w.heap.size ≤ gb101)); have n3_ := am ((by rw [hg]; exact (below_size aq1) : w.heap.size ≤ gb101)); clear HB; have HB := n0_; have BK101 := n1_; have GW101 := n2_; have GE101 := n3_; clear n0_ n1_ n2_ n3_; clear hb hbox hg) | ((with_reducible refine gate_dst (N := 2) rfl ?_); refine box_event ?hg (N := 2) ?hd (cs := #[.int .i64 0, .int .i64 0, .slice none 0 0]) (t := 93) ?hr ?_; (case hd => rfl); (case hg => rfl); (case hr => exact aq16); intro gb102 hg w4 hbox hb; have n0_ := am (blk_below (g := gb101) (o := .cells #[.int .i64 a0_0, .int .i64 a0_1, .slice A0_2 l0_2.length c0_2] 93 (0, 0)) aq2 hb); have n1_ := am (below_step aq0 hb); have n2_ := am (hbox); have n3_ := am ((by rw [hg]; exact (below_size aq0) : w.heap.size ≤ gb102)); have n4_ := am ((by rw [hg]; exact (below_size aq0) : w.heap.size ≤ gb102)); have n5_ := am ((by rw [hg]; exact Nat.ne_of_lt (blk_lt (g := gb101) (o := .cells #[.int .i64 a0_0, .int .i64 a0_1, .slice A0_2 l0_2.length c0_2] 93 (0, 0)) aq2) : gb101 ≠ gb102)); have n6_ := am ((by rw [hg]; exact Nat.ne_of_gt (blk_lt (g := gb101) (o := .cells #[.int .i64 a0_0, .int .i64 a0_1, .slice A0_2 l0_2.length c0_2] 93 (0, 0)) aq2) : gb102 ≠ gb101)); clear BK101; clear HB; have BK101 := n0_; have HB := n1_; have BK102 := n2_; have GW102 := n3_; have GE102 := n4_; have NB101_102 := n5_; have NB102_101 := n6_; clear n0_ n1_ n2_ n3_ n4_ n5_ n6_; clear hb hbox hg))
 have n0_ := am (blk_drew BK101.out)
 have n1_ := am (blk_drew BK102.out)
 have n2_ := am (below_drew1 HB.out)
 clear BK101
 clear BK102
 clear HB
 have BK101 := n0_
 have BK102 := n1_
 have HB := n2_
 clear n0_ n1_ n2_
 refine start_ (n := 9) (S := fun w' => w'.cell? ⟨gb101, 0, none⟩ = some (.int .i64 a0_0) ∧ w'.cell? ⟨gb101, 1, none⟩ = some (.int .i64 a0_1) ∧ w'.cell? ⟨gb101, 2, none⟩ = some (.slice A0_2 l0_2.length c0_2)) (ds := []) #[false, false, false, false, false, false, false, false, false] (by kernel_rfl) rfl rfl ⟨(blk_cell BK101.out 0).trans rfl, (blk_cell BK101.out 1).trans rfl, (blk_cell BK101.out 2).trans rfl⟩ (fun hHeld => ?_); refine with_tabW impl_tray_own.tab1 impl_tray_own.bits1 (fun HT_ HW_ => ?_)
 generalize w4.drew = w5 at BK101 BK102 HB hHeld ⊢
 refine pure_ (i := 0) (N := some 3) (v := ?_) (a' := ?_) (bm 9 1) rfl rfl (any_of HT_.out (by kernel_rfl)) (fun _ _ _ h => h) (Or.inl ⟨by rfl, ?_⟩) ?_ ?_
 rotate_left
 ·intro w'
  go_simp
  with_reducible rfl
 rotate_left
 ·simp only [Act.put, ac_]
  rfl
 refine pure_ (i := 2) (N := some 5) (v := ?_) (a' := ?_) (bm 9 5) rfl rfl (any_of HT_.out (by kernel_rfl)) (fun _ _ _ h => h) (Or.inl ⟨by rfl, ?_⟩) ?_ ?_
 rotate_left
 ·intro w'
  go_simp
  with_reducible rfl
 rotate_left
 ·simp only [Act.put, ac_]
  rfl
 refine pure_ (i := 4) (N := some 7) (v := ?_) (a' := ?_) (bm 9 21) rfl rfl (any_of HT_.out (by kernel_rfl)) (fun _ _ _ h => h) (Or.inl ⟨by rfl, ?_⟩) ?_ ?_
 rotate_left
 ·intro w'
  go_simp
  with_reducible rfl
 rotate_left
 ·simp only [Act.put, ac_]
  rfl
 refine take_ (i := 1) (N := some 4) (v := ?_) (a' := ?_) (bm 9 23) rfl rfl (take_ofW HT_.out HW_.out (by kernel_rfl)) (fun _ _ _ h => h) (Or.inl ⟨by rfl, ?_⟩) hHeld ?_ ?_
 rotate_left
 ·rintro w' ⟨s0, s1, s2⟩
  go_simp
  with_reducible rfl
 rotate_left
 ·simp only [Act.put, ac_]
  rfl
 refine take_ (i := 3) (N := some 6) (v := ?_) (a' := ?_) (bm 9 31) rfl rfl (take_ofW HT_.out HW_.out (by kernel_rfl)) (fun _ _ _ h => h) (Or.inl ⟨by rfl, ?_⟩) hHeld ?_ ?_
 rotate_left
 ·rintro w' ⟨s0, s1, s2⟩
  go_simp
  with_reducible rfl
 rotate_left
 ·simp only [Act.put, ac_]
  rfl
 refine take_ (i := 5) (N := some 8) (v := ?_) (a' := ?_) (bm 9 63) rfl rfl (take_ofW HT_.out HW_.out (by kernel_rfl)) (fun _ _ _ h => h) (Or.inl ⟨by rfl, ?_⟩) hHeld ?_ ?_
 rotate_left
 ·rintro w' ⟨s0, s1, s2⟩
  go_simp
  with_reducible rfl
 rotate_left
 ·simp only [Act.put, ac_]
  rfl
 refine one_ (i := 6) (N := some 9) (bm 9 127) rfl rfl (one_of HT_.out (by kernel_rfl)) (by decide) (fun K hK => ?_)
 refine goes_ Tryz.func238 (by kernel_rfl) rfl #[.slice A0_2 l0_2.length c0_2] (by rfl) rfl rfl aq5 ?_
 with_reducible refine (slices_Clone.calls _ _ l0_2 t103 _ ?side1 ?side2 A2.out).mono ?_
 (case side1 => exact aq9)
 (case side2 => exact HC0_2.out)
 rintro e w6 ⟨v104, rfl, ho0, hb⟩
 refine ⟨_, rfl, ?_⟩
 have n0_ := am (Kd.R_lower ho0 (below_size aq6))
 have n1_ := am (blk_below (g := gb101) (o := .cells #[.int .i64 a0_0, .int .i64 a0_1, .slice A0_2 l0_2.length c0_2] 93 (0, 0)) aq2 hb)
 have n2_ := am (blk_below (g := gb102) (o := .cells #[.int .i64 0, .int .i64 0, .slice none 0 0] 93 (0, 0)) aq13 hb)
 have n3_ := am (below_step aq6 hb)
 clear BK101
 clear BK102
 clear HB
 have HO105 := n0_
 have BK101 := n1_
 have BK102 := n2_
 have HB := n3_
 clear n0_ n1_ n2_ n3_
 (try clear hb)
 (try clear hb2)
 (try clear hk)
 (try clear hi)
 (try clear ho0)
 obtain ⟨Ao7, co7, eo7⟩ := Kd.R_slice HO105.out
 (first | subst eo7 | (injection eo7 with f1_ f2_ f3_; have f4_ := f1_.symm; have f5_ := f3_.symm; clear f1_ f2_ f3_; subst f4_; subst f5_))
 refine hK.out _ _ ⟨(blk_cell BK101.out 0).trans rfl, (blk_cell BK101.out 1).trans rfl, (blk_cell BK101.out 2).trans rfl⟩ (fun hHeld => ?_)
 clear hK K
 refine norm_ (a' := ?_) ?_ ?_
 rotate_left
 ·show Act.put _ (some 9) _ = _
  simp only [Act.put, ac_]
  rfl
 refine pure_ (i := 7) (N := some 10) (v := ?_) (a' := ?_) (bm 9 255) rfl rfl (any_of HT_.out (by kernel_rfl)) (fun _ _ _ h => h) (Or.inl ⟨by rfl, ?_⟩) ?_ ?_
 rotate_left
 ·intro w'
  go_simp
  with_reducible rfl
 rotate_left
 ·simp only [Act.put, ac_]
  rfl
 refine one_ (i := 8) (N := none) (bm 9 511) rfl rfl (one_of HT_.out (by kernel_rfl)) (by decide) (fun K hK => ?_)
 have hs8 : w6.cell? ⟨gb102, 0, none⟩ = some (.int .i64 0) := (blk_cell BK102.out 0).trans rfl
 have hfs8 := blk_frozen BK102.out 0
 have hns8_0 := NB101_102.out
 have hms8_0 := NB102_101.out
 have hs9 : w6.cell? ⟨gb102, 1, none⟩ = some (.int .i64 0) := (blk_cell BK102.out 1).trans rfl
 have hfs9 := blk_frozen BK102.out 1
 have hns9_0 := NB101_102.out
 have hms9_0 := NB102_101.out
 have hs10 : w6.cell? ⟨gb102, 2, none⟩ = some (.slice none 0 0) := (blk_cell BK102.out 2).trans rfl
 have hfs10 := blk_frozen BK102.out 2
 have hns10_0 := NB101_102.out
 have hms10_0 := NB102_101.out
 refine skip_ (w1 := ?_) (by rfl) rfl ?_ ?_
 rotate_left
 ·go_simp
  rfl
 refine hK.out _ _ ⟨((cell_far (p := ⟨gb102, _, none⟩) NB101_102.out _).trans (((cell_far (p := ⟨gb102, _, none⟩) NB101_102.out _).trans (((cell_far (p := ⟨gb102, _, none⟩) NB101_102.out _).trans (hHeld.1)))))), ((cell_far (p := ⟨gb102, _, none⟩) NB101_102.out _).trans (((cell_far (p := ⟨gb102, _, none⟩) NB101_102.out _).trans (((cell_far (p := ⟨gb102, _, none⟩) NB101_102.out _).trans (hHeld.2.1)))))), ((cell_far (p := ⟨gb102, _, none⟩) NB101_102.out _).trans (((cell_far (p := ⟨gb102, _, none⟩) NB101_102.out _).trans (((cell_far (p := ⟨gb102, _, none⟩) NB101_102.out _).trans (hHeld.2.2))))))⟩ (fun hHeld => ?_)
 clear hK K
 refine done_ (done_of HT_.out (by kernel_rfl)) ?_
 try go_wp2
 refine bodyPost_ret (results_cell_row rfl _ _ gb102 93 #[.int .i64 a0_0, .int .i64 a0_1, .slice Ao7 t103.length co7] (0, 0) _ rfl aq40 Tryz.underlying93 rfl (by kernel_rfl)) rfl ?_
 exact ⟨_, aq8, by (with_reducible repeat (first | apply Kd.R_alloc | apply Kd.R_drewN | apply Kd.R_drew)); exact Kd.R_mono (Kd.R_far (p := ⟨gb102, 2, none⟩) (Kd.R_far (p := ⟨gb102, 1, none⟩) (Kd.R_far (p := ⟨gb102, 0, none⟩) (Kd.R_types HO105.out BK102.out (by decide)) (fun _ hk => hk.2) (.int .i64 a0_0)) (fun _ hk => hk.2) (.int .i64 a0_1)) (fun _ hk => hk.2) (.slice Ao7 t103.length co7)) (fun _ hk => trivial), aq6⟩
def spec_tyCopy.f (a0_0 : Int) (a0_1 : Int) (l0_2 : List Int) : Option (Int × Int × List Int) := (some (([] : List Int) : List Int)).bind fun y103 => (if y103.length + l0_2.length < 140737488355328 then (some (a0_0, a0_1, (y103 ++ l0_2))) else (none))
def spec_tyCopy.T1 : Bool × List (List Nat × List Nat) := (true, [([], []), ([0], [0]), ([], []), ([2], [2]), ([], []), ([], []), ([5], [5]), ([4, 6], [4, 6]), ([1, 3, 7], [1, 3, 7]), ([8, 7, 0, 1, 2, 3, 4, 5, 6, 7, 8], [8])])
def spec_tyCopy.B1 : List Nat := [0, 1, 0, 4, 0, 0, 32, 112, 255, 511]
theorem spec_tyCopy.tab1 : rtab .any (opsOf Tryz.f114 1) = spec_tyCopy.T1 := by kernel_rfl
theorem spec_tyCopy.bits1 : waitsOk spec_tyCopy.T1.2 spec_tyCopy.B1 = true := by kernel_rfl
set_option maxHeartbeats 8000000 in
set_option maxRecDepth 100000 in
theorem spec_tyCopy.calls (a0_0 : Int) (a0_1 : Int) (A0_2 : Option Addr) (c0_2 : Nat) (l0_2 : List Int) (r1 : Int) (r2 : Int) (r3 : List Int) (w : World) (hr0_2 : Kd.C (Kd.int .u8) w A0_2 l0_2.length l0_2) (hc0_2 : l0_2.length ≤ c0_2) (h : spec_tyCopy.f a0_0 a0_1 l0_2 = some (r1, r2, r3)) :
  Calls Tryz.prog 114 #[.agg #[.int .i64 a0_0, .int .i64 a0_1, .slice A0_2 l0_2.length c0_2]] w fun e w' => ∃ v2_ : Value, e = .returned (.agg #[.int .i64 r1, .int .i64 r2, v2_]) ∧ Kd.R (Kd.int .u8) 5 w' w.heap.size (fun _ => True) v2_ r3 ∧ Below w.heap.size w w' := by
 have hu62 := Tryz.underlying62
 have HR0_2 := am hr0_2
 have HC0_2 := am hc0_2
 clear hr0_2 hc0_2
 have HB := am (Below.refl w.heap.size w)
 have H : ((some (([] : List Int) : List Int)).bind fun y103 => (if y103.length + l0_2.length < 140737488355328 then (some (a0_0, a0_1, (y103 ++ l0_2))) else (none))) = some (r1, r2, r3) := h
 clear h
 obtain ⟨y103, hy_⟩ : ∃ y_ : List Int, y_ = (([] : List Int)) := ⟨_, rfl⟩
 replace H : (if y103.length + l0_2.length < 140737488355328 then (some (a0_0, a0_1, (y103 ++ l0_2))) else (none)) = some (r1, r2, r3) := aq3
 have Ny103 := am hy_
 clear hy_
 by_cases c2 : y103.length + l0_2.length < 140737488355328
 ·rw [if_pos c2] at H
  have LMc2 := am c2
  clear c2
  obtain ⟨y106, hy_⟩ : ∃ y_ : List Int, y_ = (y103 ++ l0_2) := ⟨_, rfl⟩
  replace H : (some (a0_0, a0_1, y106)) = some (r1, r2, r3) := aq3
  have Ny106 := am hy_
  clear hy_
  simp only [Option.some.injEq, Prod.mk.injEq] at H
  obtain ⟨rfl, rfl, rfl⟩ := H
  go_enter Tryz.func114, Tryz.ntmps114
  try go_wp2_with (first | ((with_reducible refine gate_dst (N := 1) rfl ?_); refine box_event ?hg (N := 1) ?hd (cs := #[.int .i64 a0_0, .int .i64 a0_1, .slice A0_2 l0_2.length c0_2]) (t := 62) ?hr ?_; (case hd => rfl); (case hg => rfl); (case hr => exact aq16); intro gb101 hg w3 hbox hb; have n0_ := am (below_step aq1 hb); have n1_ := am (hbox); have n2_ := am ((by rw [hg]; exact (below_size aq1) : w.heap.size ≤ gb101)); have n3_ := am ((by rw [hg]; exact (below_size aq1) : w.heap.size ≤ gb101)); clear HB; have HB := n0_; have BK101 := n1_; have GW101 := n2_; have GE101 := n3_; clear n0_ n1_ n2_ n3_; clear hb hbox hg) | ((with_reducible refine gate_dst (N := 2) rfl ?_); refine box_event ?hg (N := 2) ?hd (cs := #[.int .i64 0, .int .i64 0, .slice none 0 0]) (t := 62) ?hr ?_; (case hd => rfl); (case hg => rfl); (case hr => exact aq16); intro gb102 hg w4 hbox hb; have n0_ := am (blk_below (g := gb101) (o := .cells #[.int .i64 a0_0, .int .i64 a0_1, .slice A0_2 l0_2.length c0_2] 62 (0, 0)) aq2 hb); have n1_ := am (below_step aq0 hb); have n2_ := am (hbox); have n3_ := am ((by rw [hg]; exact (below_size aq0) : w.heap.size ≤ gb102)); have n4_ := am ((by rw [hg]; exact (below_size aq0) : w.heap.size ≤ gb102)); have n5_ := am ((by rw [hg]; exact Nat.ne_of_lt (blk_lt (g := gb101) (o := .cells #[.int .i64 a0_0, .int .i64 a0_1, .slice A0_2 l0_2.length c0_2] 62 (0, 0)) aq2) : gb101 ≠ gb102)); have n6_ := am ((by rw [hg]; exact Nat.ne_of_gt (blk_lt (g := gb101) (o := .cells #[.int .i64 a0_0, .int .i64 a0_1, .slice A0_2 l0_2.length c0_2] 62 (0, 0)) aq2) : gb102 ≠ gb101)); clear BK101; clear HB; have BK101 := n0_; have HB := n1_; have BK102 := n2_; have GW102 := n3_; have GE102 := n4_; have NB101_102 := n5_; have NB102_101 := n6_; clear n0_ n1_ n2_ n3_ n4_ n5_ n6_; clear hb hbox hg))
  have n0_ := am (blk_drew BK101.out)
  have n1_ := am (blk_drew BK102.out)
  have n2_ := am (below_drew1 HB.out)
  clear BK101
  clear BK102
  clear HB
  have BK101 := n0_
  have BK102 := n1_
  have HB := n2_
  clear n0_ n1_ n2_
  refine start_ (n := 10) (S := fun w' => w'.cell? ⟨gb101, 0, none⟩ = some (.int .i64 a0_0) ∧ w'.cell? ⟨gb101, 1, none⟩ = some (.int .i64 a0_1) ∧ w'.cell? ⟨gb101, 2, none⟩ = some (.slice A0_2 l0_2.length c0_2)) (ds := []) #[false, false, false, false, false, false, false, false, false, false] (by kernel_rfl) rfl rfl ⟨(blk_cell BK101.out 0).trans rfl, (blk_cell BK101.out 1).trans rfl, (blk_cell BK101.out 2).trans rfl⟩ (fun hHeld => ?_); refine with_tabW spec_tyCopy.tab1 spec_tyCopy.bits1 (fun HT_ HW_ => ?_)
  generalize w4.drew = w5 at BK101 BK102 HB hHeld ⊢
  refine pure_ (i := 0) (N := some 3) (v := ?_) (a' := ?_) (bm 10 1) rfl rfl (any_of HT_.out (by kernel_rfl)) (fun _ _ _ h => h) (Or.inl ⟨by rfl, ?_⟩) ?_ ?_
  rotate_left
  ·intro w'
   go_simp
   with_reducible rfl
  rotate_left
  ·simp only [Act.put, ac_]
   rfl
  refine pure_ (i := 2) (N := some 5) (v := ?_) (a' := ?_) (bm 10 5) rfl rfl (any_of HT_.out (by kernel_rfl)) (fun _ _ _ h => h) (Or.inl ⟨by rfl, ?_⟩) ?_ ?_
  rotate_left
  ·intro w'
   go_simp
   with_reducible rfl
  rotate_left
  ·simp only [Act.put, ac_]
   rfl
  refine pure_ (i := 5) (N := some 8) (v := ?_) (a' := ?_) (bm 10 37) rfl rfl (any_of HT_.out (by kernel_rfl)) (fun _ _ _ h => h) (Or.inl ⟨by rfl, ?_⟩) ?_ ?_
  rotate_left
  ·intro w'
   go_simp
   with_reducible rfl
  rotate_left
  ·simp only [Act.put, ac_]
   rfl
  refine take_ (i := 1) (N := some 4) (v := ?_) (a' := ?_) (bm 10 39) rfl rfl (take_ofW HT_.out HW_.out (by kernel_rfl)) (fun _ _ _ h => h) (Or.inl ⟨by rfl, ?_⟩) hHeld ?_ ?_
  rotate_left
  ·rintro w' ⟨s0, s1, s2⟩
   go_simp
   with_reducible rfl
  rotate_left
  ·simp only [Act.put, ac_]
   rfl
  refine take_ (i := 3) (N := some 6) (v := ?_) (a' := ?_) (bm 10 47) rfl rfl (take_ofW HT_.out HW_.out (by kernel_rfl)) (fun _ _ _ h => h) (Or.inl ⟨by rfl, ?_⟩) hHeld ?_ ?_
  rotate_left
  ·rintro w' ⟨s0, s1, s2⟩
   go_simp
   with_reducible rfl
  rotate_left
  ·simp only [Act.put, ac_]
   rfl
  refine take_ (i := 6) (N := some 9) (v := ?_) (a' := ?_) (bm 10 111) rfl rfl (take_ofW HT_.out HW_.out (by kernel_rfl)) (fun _ _ _ h => h) (Or.inl ⟨by rfl, ?_⟩) hHeld ?_ ?_
  rotate_left
  ·rintro w' ⟨s0, s1, s2⟩
   go_simp
   with_reducible rfl
  rotate_left
  ·simp only [Act.put, ac_]
   rfl
  refine one_ (i := 4) (N := some 7) (bm 10 127) rfl rfl (one_of HT_.out (by kernel_rfl)) (by decide) (fun K hK => ?_)
  refine Kd.R_lit_step (Kd.int .u8) _ 5 ?hg (N := 7) ?hd (xs := ([] : List Int)) (inner := []) (ok := fun _ => True) (okp := fun _ => True) ?hr ?hp (fun _ hk => hk) trivial (Below.refl _ _) (Nat.le_refl _) (by simp) ?_; (case hd => rfl); (case hg => rfl); (case hr => exact aq16); (case hp => exact (Reps.none _ _))
  intro v104 w6 ho7 hb hg_ hnew_
  clear hg_ hnew_
  (first | rw [← Ny103.out] at ho7 | (simp only [Int.reduceToNat] at ho7; rw [← Ny103.out] at ho7))
  have n0_ := am (Kd.R_lower ho7 (below_size aq6))
  have n1_ := am (blk_below (g := gb101) (o := .cells #[.int .i64 a0_0, .int .i64 a0_1, .slice A0_2 l0_2.length c0_2] 62 (0, 0)) aq2 hb)
  have n2_ := am (blk_below (g := gb102) (o := .cells #[.int .i64 0, .int .i64 0, .slice none 0 0] 62 (0, 0)) aq13 hb)
  have n3_ := am (below_step aq6 hb)
  clear BK101
  clear BK102
  clear HB
  have HO105 := n0_
  have BK101 := n1_
  have BK102 := n2_
  have HB := n3_
  clear n0_ n1_ n2_ n3_
  clear hb ho7
  refine hK.out _ _ ⟨(blk_cell BK101.out 0).trans rfl, (blk_cell BK101.out 1).trans rfl, (blk_cell BK101.out 2).trans rfl⟩ (fun hHeld => ?_)
  clear hK K
  refine norm_ (a' := ?_) ?_ ?_
  rotate_left
  ·show Act.put _ (some 7) _ = _
   simp only [Act.put, ac_]
   rfl
  refine one_ (i := 7) (N := some 10) (bm 10 255) rfl rfl (one_of HT_.out (by kernel_rfl)) (by decide) (fun K hK => ?_)
  refine Kd.R_append_rows_step (Kd.int .u8) (w0 := w) w.heap.size (by rfl) (.tmp 7) (.tmp 9) 60 5 (.int .u8 0) 1 rfl Tryz.underlying60 info5 rfl (by decide) (by omega) v104 y103 l0_2 _ _ _ (fun _ => True) (fun _ => False) rfl rfl ?aO ?aR (fun _ _ h => h) (fun _ h => h.elim) ?aF ?aB ?aS ?aL ?_
  (case aR => exact aq9)
  (case aB => exact aq6)
  (case aF => exact aq80)
  (case aO => exact (by (with_reducible repeat (first | apply Kd.R_alloc | apply Kd.R_drewN | apply Kd.R_drew)); exact HO105.out))
  (case aS => exact (below_size aq6))
  (case aL => have := LMc2.out; omega)
  intro v107 w8 ho hb hg hat
  rw [← Ny106.out] at ho
  have n0_ := am (blk_grown (g := gb101) (o := .cells #[.int .i64 a0_0, .int .i64 a0_1, .slice A0_2 l0_2.length c0_2] 62 (0, 0)) aq2 hg (Kd.R_ne HO105.out BK101.out (by decide)))
  have n1_ := am (blk_grown (g := gb102) (o := .cells #[.int .i64 0, .int .i64 0, .slice none 0 0] 62 (0, 0)) aq13 hg (Kd.R_ne HO105.out BK102.out (by decide)))
  have n2_ := am (hb)
  have n3_ := am (ho)
  clear BK101
  clear BK102
  clear HB
  clear HO105
  have BK101 := n0_
  have BK102 := n1_
  have HB := n2_
  have HO108 := n3_
  clear n0_ n1_ n2_ n3_
  clear ho hb hg hat
  obtain ⟨Ao9, co9, eo9⟩ := Kd.R_slice HO108.out
  (first | subst eo9 | (injection eo9 with f1_ f2_ f3_; have f4_ := f1_.symm; have f5_ := f3_.symm; clear f1_ f2_ f3_; subst f4_; subst f5_))
  refine hK.out _ _ ⟨(blk_cell BK101.out 0).trans rfl, (blk_cell BK101.out 1).trans rfl, (blk_cell BK101.out 2).trans rfl⟩ (fun hHeld => ?_)
  clear hK K
  refine norm_ (a' := ?_) ?_ ?_
  rotate_left
  ·show Act.put _ (some 10) _ = _
   simp only [Act.put, ac_]
   rfl
  refine pure_ (i := 8) (N := some 11) (v := ?_) (a' := ?_) (bm 10 511) rfl rfl (any_of HT_.out (by kernel_rfl)) (fun _ _ _ h => h) (Or.inl ⟨by rfl, ?_⟩) ?_ ?_
  rotate_left
  ·intro w'
   go_simp
   with_reducible rfl
  rotate_left
  ·simp only [Act.put, ac_]
   rfl
  refine one_ (i := 9) (N := none) (bm 10 1023) rfl rfl (one_of HT_.out (by kernel_rfl)) (by decide) (fun K hK => ?_)
  have hs10 : w8.cell? ⟨gb102, 0, none⟩ = some (.int .i64 0) := (blk_cell BK102.out 0).trans rfl
  have hfs10 := blk_frozen BK102.out 0
  have hns10_0 := NB101_102.out
  have hms10_0 := NB102_101.out
  have hs11 : w8.cell? ⟨gb102, 1, none⟩ = some (.int .i64 0) := (blk_cell BK102.out 1).trans rfl
  have hfs11 := blk_frozen BK102.out 1
  have hns11_0 := NB101_102.out
  have hms11_0 := NB102_101.out
  have hs12 : w8.cell? ⟨gb102, 2, none⟩ = some (.slice none 0 0) := (blk_cell BK102.out 2).trans rfl
  have hfs12 := blk_frozen BK102.out 2
  have hns12_0 := NB101_102.out
  have hms12_0 := NB102_101.out
  refine skip_ (w1 := ?_) (by rfl) rfl ?_ ?_
  rotate_left
  ·go_simp
   rfl
  refine hK.out _ _ ⟨((cell_far (p := ⟨gb102, _, none⟩) NB101_102.out _).trans (((cell_far (p := ⟨gb102, _, none⟩) NB101_102.out _).trans (((cell_far (p := ⟨gb102, _, none⟩) NB101_102.out _).trans (hHeld.1)))))), ((cell_far (p := ⟨gb102, _, none⟩) NB101_102.out _).trans (((cell_far (p := ⟨gb102, _, none⟩) NB101_102.out _).trans (((cell_far (p := ⟨gb102, _, none⟩) NB101_102.out _).trans (hHeld.2.1)))))), ((cell_far (p := ⟨gb102, _, none⟩) NB101_102.out _).trans (((cell_far (p := ⟨gb102, _, none⟩) NB101_102.out _).trans (((cell_far (p := ⟨gb102, _, none⟩) NB101_102.out _).trans (hHeld.2.2))))))⟩ (fun hHeld => ?_)
  clear hK K
  refine done_ (done_of HT_.out (by kernel_rfl)) ?_
  try go_wp2
  refine bodyPost_ret (results_cell_row rfl _ _ gb102 62 #[.int .i64 a0_0, .int .i64 a0_1, .slice Ao9 y106.length co9] (0, 0) _ rfl aq40 Tryz.underlying62 rfl (by kernel_rfl)) rfl ?_
  exact ⟨_, aq8, by (with_reducible repeat (first | apply Kd.R_alloc | apply Kd.R_drewN | apply Kd.R_drew)); exact Kd.R_mono (Kd.R_far (p := ⟨gb102, 2, none⟩) (Kd.R_far (p := ⟨gb102, 1, none⟩) (Kd.R_far (p := ⟨gb102, 0, none⟩) (Kd.R_types HO108.out BK102.out (by decide)) (fun _ hk => hk.2) (.int .i64 a0_0)) (fun _ hk => hk.2) (.int .i64 a0_1)) (fun _ hk => hk.2) (.slice Ao9 y106.length co9)) (fun _ hk => trivial), aq6⟩
 ·rw [if_neg c2] at H
  exact absurd H (by simp)
def impl_isBall.f (a0 : Int) : Option (Bool) := if a0 = 111 then (some true) else ((impl_isName.f a0).bind fun t101 => (some t101))
set_option maxHeartbeats 8000000 in
set_option maxRecDepth 100000 in
theorem impl_isBall.calls (a0 : Int) (r : Bool) (w : World) (h : impl_isBall.f a0 = some r) :
  Calls Tryz.prog 107 #[.int .u8 a0] w fun e w' => e = .returned (.bool r) ∧ Drawn0 w w' := by
 have H : (if a0 = 111 then (some true) else ((impl_isName.f a0).bind fun t101 => (some t101))) = some r := h
 clear h
 by_cases c2 : a0 = 111
 ·rw [if_pos c2] at H
  have c2b0 := beq_iff_eq.mpr c2
  have c2b1 := bne_eq_false_iff_eq.mpr c2
  clear c2
  obtain rfl := Option.some.inj H
  go_enter Tryz.func107, Tryz.ntmps107
  go_wp2
  go_ret
  exact ⟨aq7, aq11⟩
 ·rw [if_neg c2] at H
  have c2b0 := beq_eq_false_iff_ne.mpr c2
  have c2b1 := bne_iff_ne.mpr c2
  obtain ⟨t101, A30, H⟩ := Option.bind_eq_some_iff.mp H
  have A3 := am A30
  clear A30
  obtain rfl := Option.some.inj H
  go_enter Tryz.func107, Tryz.ntmps107
  go_wp2_with (first | (go_at_call 150; (with_reducible refine (impl_isName.calls a0 t101 _ A3.out).mono ?_); rintro e w' ⟨rfl, ⟨nd, rfl⟩⟩))
  go_ret
  exact ⟨aq7, aq11⟩
end Go.Proofs.YtdffgeoegdkiaaaGreatDoor.F

namespace Go.Proofs.YtdffgeoegdkiaaaGreatDoor
open Go.RowKit Go.Proofs.YtdffgeoegdkiaaaGreatDoorW.PrintWords Go.Proofs.YtdffgeoegdkiaaaGreatDoorW.PrintLast Go.Proofs.YtdffgeoegdkiaaaGreatDoorW.PrintMore Go.Lib Go.Shelf Go.Proofs.YtdffgeoegdkiaaaGreatDoor.F
attribute [local go_sem] max2_int min2_int
def wallsL (l : List Int) : List Int := l.map fun c => if isBallC c = true then 46 else c
def wallsTo (j : Nat) (l : List Int) : List Int := wallsL (l.take j) ++ l.drop j
theorem wallsTo_zero (l : List Int) : wallsTo 0 l = l := by simp [wallsTo, wallsL]
theorem wallsTo_all {j : Nat} {l : List Int} (h : l.length ≤ j) : wallsTo j l = wallsL l := by
  unfold wallsTo; rw [List.take_of_length_le h, List.drop_eq_nil_of_le h, List.append_nil]
theorem wallsTo_length (j : Nat) (l : List Int) : (wallsTo j l).length = l.length := by
  unfold wallsTo wallsL; simp; omega
theorem wallsTo_get {j : Nat} {l : List Int} (h : j < l.length) : (wallsTo j l)[j]? = some (l[j]'h) := by
  unfold wallsTo wallsL
  rw [List.getElem?_append_right (by simp; omega)]
  simp only [List.length_map, List.length_take, Nat.min_eq_left (Nat.le_of_lt h), Nat.sub_self, List.getElem?_drop, Nat.add_zero]
  exact List.getElem?_eq_getElem h
theorem wallsTo_cell {j : Nat} {l : List Int} (h : j < l.length) (ts : List Value) : ((wallsTo j l).map (Value.int .u8) ++ ts).toArray[j]? = some (.int .u8 (l[j]'h)) := by
  rw [List.getElem?_toArray, List.getElem?_append_left (by rw [List.length_map, wallsTo_length]; exact h), List.getElem?_map, wallsTo_get h]; rfl
theorem wallsTo_succ {j : Nat} {l : List Int} (h : j < l.length) : wallsTo (j + 1) l = (wallsTo j l).set j (if isBallC (l[j]'h) = true then 46 else l[j]'h) := by
  apply List.ext_getElem?
  intro i
  have hl := wallsTo_length j l
  rw [List.getElem?_set]
  by_cases e : j = i
  · subst e
    rw [if_pos rfl, if_pos (by rw [hl]; exact h)]
    unfold wallsTo wallsL
    rw [List.getElem?_append_left (by simp; omega), List.getElem?_map, List.getElem?_take, if_pos (by omega), List.getElem?_eq_getElem h]; rfl
  · rw [if_neg e]
    unfold wallsTo wallsL
    by_cases h1 : i < j
    · rw [List.getElem?_append_left (by simp; omega), List.getElem?_append_left (by simp; omega), List.getElem?_map, List.getElem?_map, List.getElem?_take, List.getElem?_take, if_pos (by omega), if_pos h1]
    · rw [List.getElem?_append_right (by simp; omega), List.getElem?_append_right (by simp; omega)]
      simp only [List.length_map, List.length_take, Nat.min_eq_left (Nat.le_of_lt h), Nat.min_eq_left (show j + 1 ≤ l.length by omega), List.getElem?_drop]
      congr 1
      omega
theorem wallsTo_set {j : Nat} {l : List Int} (h : j < l.length) (ts : List Value) (hb : isBallC (l[j]'h) = true) : ((wallsTo j l).map (Value.int .u8) ++ ts).toArray.setIfInBounds j (.int .u8 46) = ((wallsTo (j + 1) l).map (Value.int .u8) ++ ts).toArray := by
  rw [wallsTo_succ h, if_pos hb, List.setIfInBounds_toArray, List.set_append_left _ _ (by rw [List.length_map, wallsTo_length]; exact h), List.map_set]
theorem wallsTo_keep {j : Nat} {l : List Int} (h : j < l.length) (hb : isBallC (l[j]'h) = false) : wallsTo (j + 1) l = wallsTo j l := by
  rw [wallsTo_succ h, if_neg (by rw [hb]; exact Bool.false_ne_true)]
  have := wallsTo_get h
  rw [List.getElem?_eq_some_iff] at this
  obtain ⟨h1, h2⟩ := this
  apply List.ext_getElem?
  intro i
  rw [List.getElem?_set]
  by_cases e : j = i
  · subst e; rw [if_pos rfl, if_pos h1, List.getElem?_eq_getElem h1, h2]
  · rw [if_neg e]
theorem impl_isBall_is (c : Int) : impl_isBall.f c = some (isBallC c) := by
  unfold impl_isBall.f impl_isName.f isBallC isNameC
  by_cases h : c = 111
  · simp [h]
  · by_cases h2 : c ≥ 97
    · simp [h, h2]
    · simp [h, h2, show ¬ 97 ≤ c from h2]
theorem spec_tyBall_is (c : Int) : spec_tyBall.f c = some (isBallC c) := by
  unfold spec_tyBall.f isBallC isNameC
  by_cases h : c = 111
  · simp [h]
  · by_cases h2 : c ≥ 97
    · simp [h, h2]
    · simp [h, h2, show ¬ 97 ≤ c from h2]
def impl_tray_emptied.f (a0 a1 : Int) (l : List Int) : Option (Int × Int × List Int) := if 0 < l.length ∧ l.length < 65536 then some (a0, a1, wallsL l) else none
set_option maxRecDepth 100000 in
set_option maxHeartbeats 4000000 in
theorem impl_tray_emptied.calls (a0_0 a0_1 : Int) (A0_2 : Option Addr) (c0_2 : Nat) (l0_2 : List Int) (r1 r2 : Int) (r3 : List Int) (w : World) (hr0_2 : Kd.C (Kd.int .u8) w A0_2 l0_2.length l0_2) (hc0_2 : l0_2.length ≤ c0_2) (h : impl_tray_emptied.f a0_0 a0_1 l0_2 = some (r1, r2, r3)) :
    Calls Tryz.prog 185 #[.agg #[.int .i64 a0_0, .int .i64 a0_1, .slice A0_2 l0_2.length c0_2]] w fun e w' => ∃ v2_ : Value, e = .returned (.agg #[.int .i64 r1, .int .i64 r2, v2_]) ∧ Kd.R (Kd.int .u8) 5 w' w.heap.size (fun _ => True) v2_ r3 ∧ Below w.heap.size w w' := by
  unfold impl_tray_emptied.f at h
  split at h
  case isFalse => cases h
  rename_i hc
  obtain ⟨hl0, hl1⟩ := hc
  injection h with h
  injection h with h1 h
  injection h with h2 h3
  subst h1 h2 h3
  have hown : impl_tray_own.f a0_0 a0_1 l0_2 = some (a0_0, a0_1, l0_2) := by
    unfold impl_tray_own.f slices_Clone.f
    rw [if_pos ⟨hl0, hl1⟩]; rfl
  have HOWN := am hown
  have HC := am hc0_2
  have HR := am hr0_2
  have HL := am hl1
  have HL0 := am hl0
  have hcall : ∀ W, Below w.heap.size w W → Calls Tryz.prog 217 #[.agg #[.int .i64 a0_0, .int .i64 a0_1, .slice A0_2 l0_2.length c0_2]] W fun e w' => ∃ g co ts, e = .returned (.agg #[.int .i64 a0_0, .int .i64 a0_1, .slice (some ⟨g, 0, none⟩) l0_2.length co]) ∧ W.heap.size ≤ g ∧ l0_2.length ≤ co ∧ w'.heap[g]? = some (.cells (l0_2.map (Value.int .u8) ++ ts).toArray 5 (0, 0)) ∧ ts.length + l0_2.length = co ∧ co ≤ maxLen ∧ Below W.heap.size W w' := fun W hW => by
    refine (impl_tray_own.calls a0_0 a0_1 A0_2 c0_2 l0_2 a0_0 a0_1 l0_2 W (Kd.C_below HR.out hW) HC.out HOWN.out).mono ?_
    rintro e w' ⟨v2, rfl, ho, hb⟩
    obtain ⟨_, ⟨rfl, h0⟩ | ⟨g, cap, cur, rfl, hg, hrow, hcl, hcm, hsz, htk⟩⟩ := Kd.own_of_R (enc := Value.int .u8) (h1 := fun _ => rfl) ho
    · have := HL0.out; omega
    · refine ⟨g, cap, cur.toList.drop l0_2.length, rfl, hg, hcl, ?_, ?_, hcm, hb⟩
      · rw [hrow]
        congr 2
        have : l0_2.map (Value.int .u8) ++ cur.toList.drop l0_2.length = cur.toList := by
          rw [show l0_2.map (Value.int .u8) = cur.toList.take l0_2.length from by rw [← encs, ← htk, Nat.mul_one]]
          exact List.take_append_drop _ _
        rw [this]
      · rw [List.length_drop, Array.length_toList]; omega
  have hball : ∀ (c : Int) (W : World), Calls Tryz.prog 107 #[.int .u8 c] W fun e w' => e = .returned (.bool (isBallC c)) ∧ w'.heap = W.heap ∧ Below W.heap.size W w' := fun c W => by
    refine (impl_isBall.calls c (isBallC c) W (impl_isBall_is c)).mono ?_
    rintro e w' ⟨rfl, ⟨nd, rfl⟩⟩
    exact ⟨rfl, rfl, pw_below_drewN (Below.refl _ _) nd⟩
  clear hl1 hl0 hown hc0_2 hr0_2
  go_enter Tryz.func185, Tryz.ntmps185
  go_wp2_with (first
    | ((with_reducible refine gate_dst (N := 1) rfl ?_); refine box_event ?hg (N := 1) ?hd (cs := #[.int .i64 a0_0, .int .i64 a0_1, .slice A0_2 l0_2.length c0_2]) (t := 93) ?hr ?_; (case hd => rfl); (case hg => rfl); (case hr => first | (go_simp; done) | (go_simp; rfl)); intro b1 hg1 w3 hbox1 hb1; have G1 := am hg1; have X1 := am hbox1; have B1 := am hb1; clear hg1 hbox1 hb1)
    | ((with_reducible refine gate_dst (N := 2) rfl ?_); refine box_event ?hg (N := 2) ?hd (cs := #[.int .i64 0, .int .i64 0, .slice none 0 0]) (t := 93) ?hr ?_; (case hd => rfl); (case hg => rfl); (case hr => first | (go_simp; done) | (go_simp; rfl)); intro b2 hg2 w4 hbox2 hb2; have G2 := am hg2; have X2 := am hbox2; have B2 := am (below_step B1.out hb2); have n1 := am (blk_below X1.out hb2); clear X1; have X1 := n1; clear n1; have z10 : w4.cell? ⟨b1, 0, none⟩ = some (.int .i64 a0_0) := (blk_cell X1.out 0).trans rfl; have z11 : w4.cell? ⟨b1, 1, none⟩ = some (.int .i64 a0_1) := (blk_cell X1.out 1).trans rfl; have z12 : w4.cell? ⟨b1, 2, none⟩ = some (.slice A0_2 l0_2.length c0_2) := (blk_cell X1.out 2).trans rfl; clear hg2 hbox2 hb2)
    | (go_at_call 217; refine (hcall _ B2.out).mono ?_; rintro e w5 ⟨g, co, ts, rfl, hg0, hco, hrow, hts, hcb, hb⟩; have G0 := am hg0; have HCO := am hco; have HROW := am hrow; have HTS := am hts; have HCB := am hcb; have B5 := am (below_step B2.out hb); have n2 := am (blk_below X2.out hb); clear X1 X2; have X2 := n2; clear n2 hb hg0 hco hrow hts hcb z10 z11 z12))
  obtain ⟨b3, hb3⟩ : ∃ b3, w5.heap.size = b3 := ⟨_, rfl⟩
  have hb5 := B5.out
  have hgw : w.heap.size ≤ g := Nat.le_trans B2.out.size G0.out
  have hw2 : w.heap.size ≤ b2 := G2.out ▸ B1.out.size
  have hw3 : w.heap.size ≤ b3 := by rw [← hb3]; exact hb5.size
  obtain ⟨W8, hW8⟩ : ∃ W8, w5.alloc (.cells #[.int .i64 a0_0, .int .i64 a0_1, .slice (some ⟨g, 0, none⟩) l0_2.length co] 93) = W8 := ⟨_, rfl⟩
  have hB58 : Below b3 w5 W8 := by rw [← hW8, ← hb3]; exact (Below.refl _ w5).alloc (Nat.le_refl _) _
  have hB8 : Below w.heap.size w W8 := by rw [← hW8]; exact hb5.alloc hb5.size _
  have x3 : W8.heap[b3]? = some (.cells #[.int .i64 a0_0, .int .i64 a0_1, .slice (some ⟨g, 0, none⟩) l0_2.length co] 93 (0, 0)) := by
    rw [← hW8, ← hb3]; exact World.alloc_heap_new w5 _
  have row8 := (hB58.block g (by rw [← hb3]; exact blk_lt HROW.out)).trans HROW.out
  have x2 := (hB58.block b2 (by rw [← hb3]; exact blk_lt X2.out)).trans X2.out
  have L2 : b2 < b3 := by rw [← hb3]; exact blk_lt X2.out
  rw [hW8]
  try simp only [hb3]
  have HS := am (And.intro hgw (And.intro hw2 (And.intro hw3 L2)))
  have X3 := am x3
  have X2' := am x2
  have ROW8 := am row8
  have HB8 := am hB8
  clear hcall hb5 hgw hw2 hw3 hB58 hB8 x3 row8 x2 L2 hW8 X2 HROW B5 G0 B1 B2 G1 G2
  go_loopg [11] l0_2.length (fun kq0 v11 w' => ∃ (kq j : Nat), kq = kq0 ∧ v11 = .int .i64 j ∧ j + kq = l0_2.length ∧ Aside0 (w'.heap[g]? = some (.cells ((wallsTo j l0_2).map (Value.int .u8) ++ ts).toArray 5 (0, 0))) ∧ Aside0 (w'.heap[b3]? = some (.cells #[.int .i64 a0_0, .int .i64 a0_1, .slice (some ⟨g, 0, none⟩) l0_2.length co] 93 (0, 0))) ∧ Aside0 (w'.heap[b2]? = some (.cells #[.int .i64 0, .int .i64 0, .slice none 0 0] 93 (0, 0))) ∧ Aside0 (Below w.heap.size w w'))
  case atStart => exact ⟨l0_2.length, 0, rfl, rfl, by omega, ⟨by rw [wallsTo_zero]; exact ROW8.out⟩, X3, X2', HB8⟩
  case round =>
    obtain ⟨kq, j, hkq, rfl, hj, ROW, Y3, Y2, HB⟩ := hrel
    have HKQ := am hkq
    clear hkq
    obtain ⟨hgw, hw2, hw3, L2⟩ := HS.out
    have hgb3 : g ≠ b3 := blk_ne ROW.out Y3.out (by decide)
    have hgb2 : g ≠ b2 := blk_ne ROW.out Y2.out (by decide)
    rcases kq with _ | kq
    · have hjl : j = l0_2.length := by omega
      have hlt : ¬ ((j : Int) < (l0_2.length : Int)) := by omega
      have ROW' := ROW.out
      rw [wallsTo_all (by omega)] at ROW'
      have y0 : wr.cell? ⟨b3, 0, none⟩ = some (.int .i64 a0_0) := (blk_cell Y3.out 0).trans rfl
      have y1 : wr.cell? ⟨b3, 1, none⟩ = some (.int .i64 a0_1) := (blk_cell Y3.out 1).trans rfl
      have y2 : wr.cell? ⟨b3, 2, none⟩ = some (.slice (some ⟨g, 0, none⟩) l0_2.length co) := (blk_cell Y3.out 2).trans rfl
      have c0 : wr.cell? ⟨b2, 0, none⟩ = some (.int .i64 0) := (blk_cell Y2.out 0).trans rfl
      have c1 : wr.cell? ⟨b2, 1, none⟩ = some (.int .i64 0) := (blk_cell Y2.out 1).trans rfl
      have c2 : wr.cell? ⟨b2, 2, none⟩ = some (.slice none 0 0) := (blk_cell Y2.out 2).trans rfl
      have f0 := blk_frozen Y2.out 0
      have f1 := blk_frozen Y2.out 1
      have f2 := blk_frozen Y2.out 2
      have RR := am ROW'
      have NN := am (And.intro hgb3 hgb2)
      clear ROW' hgb3 hgb2 hgw hw2 hw3 L2 hj hjl
      go_wp2
      obtain ⟨hgw, hw2, hw3, L2⟩ := HS.out
      obtain ⟨hgb3, hgb2⟩ := NN.out
      refine bodyPost_ret (results_cell_row rfl _ _ b2 93 #[.int .i64 a0_0, .int .i64 a0_1, .slice (some ⟨g, 0, none⟩) l0_2.length co] (0, 0) _ rfl (by exact blk_put (blk_put (blk_put Y2.out 0 (.int .i64 a0_0) rfl) 1 (.int .i64 a0_1) rfl) 2 (.slice (some ⟨g, 0, none⟩) l0_2.length co) rfl) Tryz.underlying93 rfl (by kernel_rfl)) rfl ?_
      refine ⟨.slice (some ⟨g, 0, none⟩) l0_2.length co, rfl, ?_, ((HB.out.setCell (p := ⟨b2, 0, none⟩) hw2 _).setCell (p := ⟨b2, 1, none⟩) hw2 _).setCell (p := ⟨b2, 2, none⟩) hw2 _⟩
      have hrl : (wallsL l0_2).length = l0_2.length := by simp [wallsL]
      rw [← hrl]
      refine Kd.R_of_own (enc := Value.int .u8) (h1 := fun _ => rfl) ?_ (fun _ _ => trivial)
      refine ⟨by simp [encs], .inr ⟨g, co, _, rfl, hgw, blk_far (blk_far (blk_far RR.out (p := ⟨b2, 0, none⟩) hgb2 _) (p := ⟨b2, 1, none⟩) hgb2 _) (p := ⟨b2, 2, none⟩) hgb2 _, by rw [hrl]; exact HCO.out, HCB.out, ?_, ?_⟩⟩
      · have := HTS.out
        simp [hrl]; omega
      · rw [Nat.mul_one, List.take_append_of_le_length (by simp), List.take_of_length_le (by simp)]; rfl
    · have hlt : (j : Int) < (l0_2.length : Int) := by omega
      have hjn : j < l0_2.length := by omega
      have hx : wr.cell? ⟨g, j, none⟩ = some (.int .u8 (l0_2[j]'hjn)) := (blk_cell ROW.out j).trans (wallsTo_cell hjn ts)
      have hw64 : IntKind.i64.wrap ((j : Int) + 1) = ((j + 1 : Nat) : Int) := by rw [IntKind.wrap_i64]; have := HL.out; omega
      have NN := am (And.intro hgb3 (And.intro hgb2 (And.intro hjn hj)))
      have hset := wallsTo_set hjn ts
      have hkeep := wallsTo_keep hjn
      have HSET := am hset
      have HKEEP := am hkeep
      generalize hxx : l0_2[j]'hjn = x at *
      clear hxx hgb3 hgb2 hgw hw2 hw3 L2 hset hkeep hj hjn
      cases hbb : isBallC x with
      | true =>
        go_wp2_with (first | (go_at_call 107; refine (hball x _).mono ?_; rw [hbb]; rintro e w6 ⟨rfl, hh, hb6⟩; have Y3' : w6.heap[b3]? = _ := (congrArg (fun h => h[b3]?) hh).trans Y3.out; have R6 : w6.heap[g]? = _ := (congrArg (fun h => h[g]?) hh).trans ROW.out; have Y2' : w6.heap[b2]? = _ := (congrArg (fun h => h[b2]?) hh).trans Y2.out; have y2 : w6.cell? ⟨b3, 2, none⟩ = some (.slice (some ⟨g, 0, none⟩) l0_2.length co) := (blk_cell Y3' 2).trans rfl; have hx6 : w6.cell? ⟨g, j, none⟩ = some (.int .u8 x) := (World.cell?_of_block (congrArg (fun h => h[g]?) hh)).trans hx; have hf6 := blk_frozen R6 j; have Q3 := am Y3'; have QR := am R6; have Q2 := am Y2'; have B6 := am hb6; clear Y3' R6 Y2' hh hb6 hx))
        obtain ⟨hgb3, hgb2, hjn, hj⟩ := NN.out
        obtain ⟨hgw, hw2, hw3, L2⟩ := HS.out
        go_roundg kq
        case measure => have := HKQ.out; omega
        case rel => exact ⟨kq, j + 1, rfl, by simp, by omega, ⟨blk_put QR.out j _ (HSET.out hbb)⟩, ⟨blk_far Q3.out (p := ⟨g, j, none⟩) (Ne.symm hgb3) _⟩, ⟨blk_far Q2.out (p := ⟨g, j, none⟩) (Ne.symm hgb2) _⟩, ⟨(below_step HB.out B6.out).setCell (p := ⟨g, j, none⟩) hgw _⟩⟩
      | false =>
        go_wp2_with (first | (go_at_call 107; refine (hball x _).mono ?_; rw [hbb]; rintro e w6 ⟨rfl, hh, hb6⟩; have Q3 := am (show w6.heap[b3]? = _ from (congrArg (fun h => h[b3]?) hh).trans Y3.out); have QR := am (show w6.heap[g]? = _ from (congrArg (fun h => h[g]?) hh).trans ROW.out); have Q2 := am (show w6.heap[b2]? = _ from (congrArg (fun h => h[b2]?) hh).trans Y2.out); have B6 := am hb6; clear hh hb6 hx))
        obtain ⟨hgb3, hgb2, hjn, hj⟩ := NN.out
        go_roundg kq
        case measure => have := HKQ.out; omega
        case rel => exact ⟨kq, j + 1, rfl, by simp, by omega, ⟨by rw [HKEEP.out hbb]; exact QR.out⟩, Q3, Q2, ⟨below_step HB.out B6.out⟩⟩
def spec_tyWalls.f (a0 a1 : Int) (l : List Int) : Option (Int × Int × List Int) := if 0 < l.length ∧ l.length < 65536 then some (a0, a1, wallsL l) else none
set_option maxRecDepth 100000 in
set_option maxHeartbeats 4000000 in
theorem spec_tyWalls.calls (a0_0 a0_1 : Int) (A0_2 : Option Addr) (c0_2 : Nat) (l0_2 : List Int) (r1 r2 : Int) (r3 : List Int) (w : World) (hr0_2 : Kd.C (Kd.int .u8) w A0_2 l0_2.length l0_2) (hc0_2 : l0_2.length ≤ c0_2) (h : spec_tyWalls.f a0_0 a0_1 l0_2 = some (r1, r2, r3)) :
    Calls Tryz.prog 124 #[.agg #[.int .i64 a0_0, .int .i64 a0_1, .slice A0_2 l0_2.length c0_2]] w fun e w' => ∃ v2_ : Value, e = .returned (.agg #[.int .i64 r1, .int .i64 r2, v2_]) ∧ Kd.R (Kd.int .u8) 5 w' w.heap.size (fun _ => True) v2_ r3 ∧ Below w.heap.size w w' := by
  unfold spec_tyWalls.f at h
  split at h
  case isFalse => cases h
  rename_i hc
  obtain ⟨hl0, hl1⟩ := hc
  injection h with h
  injection h with h1 h
  injection h with h2 h3
  subst h1 h2 h3
  have hown : spec_tyCopy.f a0_0 a0_1 l0_2 = some (a0_0, a0_1, l0_2) := by
    unfold spec_tyCopy.f
    rw [Option.bind_some, if_pos (by rw [List.length_nil]; omega), List.nil_append]
  have HOWN := am hown
  have HC := am hc0_2
  have HR := am hr0_2
  have HL := am hl1
  have HL0 := am hl0
  have hcall : ∀ W, Below w.heap.size w W → Calls Tryz.prog 114 #[.agg #[.int .i64 a0_0, .int .i64 a0_1, .slice A0_2 l0_2.length c0_2]] W fun e w' => ∃ g co ts, e = .returned (.agg #[.int .i64 a0_0, .int .i64 a0_1, .slice (some ⟨g, 0, none⟩) l0_2.length co]) ∧ W.heap.size ≤ g ∧ l0_2.length ≤ co ∧ w'.heap[g]? = some (.cells (l0_2.map (Value.int .u8) ++ ts).toArray 5 (0, 0)) ∧ ts.length + l0_2.length = co ∧ co ≤ maxLen ∧ Below W.heap.size W w' := fun W hW => by
    refine (spec_tyCopy.calls a0_0 a0_1 A0_2 c0_2 l0_2 a0_0 a0_1 l0_2 W (Kd.C_below HR.out hW) HC.out HOWN.out).mono ?_
    rintro e w' ⟨v2, rfl, ho, hb⟩
    obtain ⟨_, ⟨rfl, h0⟩ | ⟨g, cap, cur, rfl, hg, hrow, hcl, hcm, hsz, htk⟩⟩ := Kd.own_of_R (enc := Value.int .u8) (h1 := fun _ => rfl) ho
    · have := HL0.out; omega
    · refine ⟨g, cap, cur.toList.drop l0_2.length, rfl, hg, hcl, ?_, ?_, hcm, hb⟩
      · rw [hrow]
        congr 2
        have : l0_2.map (Value.int .u8) ++ cur.toList.drop l0_2.length = cur.toList := by
          rw [show l0_2.map (Value.int .u8) = cur.toList.take l0_2.length from by rw [← encs, ← htk, Nat.mul_one]]
          exact List.take_append_drop _ _
        rw [this]
      · rw [List.length_drop, Array.length_toList]; omega
  have hball : ∀ (c : Int) (W : World), Calls Tryz.prog 100 #[.int .u8 c] W fun e w' => e = .returned (.bool (isBallC c)) ∧ w'.heap = W.heap ∧ Below W.heap.size W w' := fun c W => by
    refine (spec_tyBall.calls c (isBallC c) W (spec_tyBall_is c)).mono ?_
    rintro e w' ⟨rfl, ⟨nd, rfl⟩⟩
    exact ⟨rfl, rfl, pw_below_drewN (Below.refl _ _) nd⟩
  clear hl1 hl0 hown hc0_2 hr0_2
  go_enter Tryz.func124, Tryz.ntmps124
  go_wp2_with (first
    | ((with_reducible refine gate_dst (N := 1) rfl ?_); refine box_event ?hg (N := 1) ?hd (cs := #[.int .i64 a0_0, .int .i64 a0_1, .slice A0_2 l0_2.length c0_2]) (t := 62) ?hr ?_; (case hd => rfl); (case hg => rfl); (case hr => first | (go_simp; done) | (go_simp; rfl)); intro b1 hg1 w3 hbox1 hb1; have G1 := am hg1; have X1 := am hbox1; have B1 := am hb1; clear hg1 hbox1 hb1)
    | ((with_reducible refine gate_dst (N := 2) rfl ?_); refine box_event ?hg (N := 2) ?hd (cs := #[.int .i64 0, .int .i64 0, .slice none 0 0]) (t := 62) ?hr ?_; (case hd => rfl); (case hg => rfl); (case hr => first | (go_simp; done) | (go_simp; rfl)); intro b2 hg2 w4 hbox2 hb2; have G2 := am hg2; have X2 := am hbox2; have B2 := am (below_step B1.out hb2); have n1 := am (blk_below X1.out hb2); clear X1; have X1 := n1; clear n1; have z10 : w4.cell? ⟨b1, 0, none⟩ = some (.int .i64 a0_0) := (blk_cell X1.out 0).trans rfl; have z11 : w4.cell? ⟨b1, 1, none⟩ = some (.int .i64 a0_1) := (blk_cell X1.out 1).trans rfl; have z12 : w4.cell? ⟨b1, 2, none⟩ = some (.slice A0_2 l0_2.length c0_2) := (blk_cell X1.out 2).trans rfl; clear hg2 hbox2 hb2)
    | (go_at_call 114; refine (hcall _ B2.out).mono ?_; rintro e w5 ⟨g, co, ts, rfl, hg0, hco, hrow, hts, hcb, hb⟩; have G0 := am hg0; have HCO := am hco; have HROW := am hrow; have HTS := am hts; have HCB := am hcb; have B5 := am (below_step B2.out hb); have n2 := am (blk_below X2.out hb); clear X1 X2; have X2 := n2; clear n2 hb hg0 hco hrow hts hcb z10 z11 z12))
  obtain ⟨b3, hb3⟩ : ∃ b3, w5.heap.size = b3 := ⟨_, rfl⟩
  have hb5 := B5.out
  have hgw : w.heap.size ≤ g := Nat.le_trans B2.out.size G0.out
  have hw2 : w.heap.size ≤ b2 := G2.out ▸ B1.out.size
  have hw3 : w.heap.size ≤ b3 := by rw [← hb3]; exact hb5.size
  obtain ⟨W8, hW8⟩ : ∃ W8, w5.alloc (.cells #[.int .i64 a0_0, .int .i64 a0_1, .slice (some ⟨g, 0, none⟩) l0_2.length co] 62) = W8 := ⟨_, rfl⟩
  have hB58 : Below b3 w5 W8 := by rw [← hW8, ← hb3]; exact (Below.refl _ w5).alloc (Nat.le_refl _) _
  have hB8 : Below w.heap.size w W8 := by rw [← hW8]; exact hb5.alloc hb5.size _
  have x3 : W8.heap[b3]? = some (.cells #[.int .i64 a0_0, .int .i64 a0_1, .slice (some ⟨g, 0, none⟩) l0_2.length co] 62 (0, 0)) := by
    rw [← hW8, ← hb3]; exact World.alloc_heap_new w5 _
  have row8 := (hB58.block g (by rw [← hb3]; exact blk_lt HROW.out)).trans HROW.out
  have x2 := (hB58.block b2 (by rw [← hb3]; exact blk_lt X2.out)).trans X2.out
  have L2 : b2 < b3 := by rw [← hb3]; exact blk_lt X2.out
  rw [hW8]
  try simp only [hb3]
  have HS := am (And.intro hgw (And.intro hw2 (And.intro hw3 L2)))
  have X3 := am x3
  have X2' := am x2
  have ROW8 := am row8
  have HB8 := am hB8
  clear hcall hb5 hgw hw2 hw3 hB58 hB8 x3 row8 x2 L2 hW8 X2 HROW B5 G0 B1 B2 G1 G2
  go_loopg [11] l0_2.length (fun kq0 v11 w' => ∃ (kq j : Nat), kq = kq0 ∧ v11 = .int .i64 j ∧ j + kq = l0_2.length ∧ Aside0 (w'.heap[g]? = some (.cells ((wallsTo j l0_2).map (Value.int .u8) ++ ts).toArray 5 (0, 0))) ∧ Aside0 (w'.heap[b3]? = some (.cells #[.int .i64 a0_0, .int .i64 a0_1, .slice (some ⟨g, 0, none⟩) l0_2.length co] 62 (0, 0))) ∧ Aside0 (w'.heap[b2]? = some (.cells #[.int .i64 0, .int .i64 0, .slice none 0 0] 62 (0, 0))) ∧ Aside0 (Below w.heap.size w w'))
  case atStart => exact ⟨l0_2.length, 0, rfl, rfl, by omega, ⟨by rw [wallsTo_zero]; exact ROW8.out⟩, X3, X2', HB8⟩
  case round =>
    obtain ⟨kq, j, hkq, rfl, hj, ROW, Y3, Y2, HB⟩ := hrel
    have HKQ := am hkq
    clear hkq
    obtain ⟨hgw, hw2, hw3, L2⟩ := HS.out
    have hgb3 : g ≠ b3 := blk_ne ROW.out Y3.out (by decide)
    have hgb2 : g ≠ b2 := blk_ne ROW.out Y2.out (by decide)
    rcases kq with _ | kq
    · have hjl : j = l0_2.length := by omega
      have hlt : ¬ ((j : Int) < (l0_2.length : Int)) := by omega
      have ROW' := ROW.out
      rw [wallsTo_all (by omega)] at ROW'
      have y0 : wr.cell? ⟨b3, 0, none⟩ = some (.int .i64 a0_0) := (blk_cell Y3.out 0).trans rfl
      have y1 : wr.cell? ⟨b3, 1, none⟩ = some (.int .i64 a0_1) := (blk_cell Y3.out 1).trans rfl
      have y2 : wr.cell? ⟨b3, 2, none⟩ = some (.slice (some ⟨g, 0, none⟩) l0_2.length co) := (blk_cell Y3.out 2).trans rfl
      have c0 : wr.cell? ⟨b2, 0, none⟩ = some (.int .i64 0) := (blk_cell Y2.out 0).trans rfl
      have c1 : wr.cell? ⟨b2, 1, none⟩ = some (.int .i64 0) := (blk_cell Y2.out 1).trans rfl
      have c2 : wr.cell? ⟨b2, 2, none⟩ = some (.slice none 0 0) := (blk_cell Y2.out 2).trans rfl
      have f0 := blk_frozen Y2.out 0
      have f1 := blk_frozen Y2.out 1
      have f2 := blk_frozen Y2.out 2
      have RR := am ROW'
      have NN := am (And.intro hgb3 hgb2)
      clear ROW' hgb3 hgb2 hgw hw2 hw3 L2 hj hjl
      go_wp2
      obtain ⟨hgw, hw2, hw3, L2⟩ := HS.out
      obtain ⟨hgb3, hgb2⟩ := NN.out
      refine bodyPost_ret (results_cell_row rfl _ _ b2 62 #[.int .i64 a0_0, .int .i64 a0_1, .slice (some ⟨g, 0, none⟩) l0_2.length co] (0, 0) _ rfl (by exact blk_put (blk_put (blk_put Y2.out 0 (.int .i64 a0_0) rfl) 1 (.int .i64 a0_1) rfl) 2 (.slice (some ⟨g, 0, none⟩) l0_2.length co) rfl) Tryz.underlying62 rfl (by kernel_rfl)) rfl ?_
      refine ⟨.slice (some ⟨g, 0, none⟩) l0_2.length co, rfl, ?_, ((HB.out.setCell (p := ⟨b2, 0, none⟩) hw2 _).setCell (p := ⟨b2, 1, none⟩) hw2 _).setCell (p := ⟨b2, 2, none⟩) hw2 _⟩
      have hrl : (wallsL l0_2).length = l0_2.length := by simp [wallsL]
      rw [← hrl]
      refine Kd.R_of_own (enc := Value.int .u8) (h1 := fun _ => rfl) ?_ (fun _ _ => trivial)
      refine ⟨by simp [encs], .inr ⟨g, co, _, rfl, hgw, blk_far (blk_far (blk_far RR.out (p := ⟨b2, 0, none⟩) hgb2 _) (p := ⟨b2, 1, none⟩) hgb2 _) (p := ⟨b2, 2, none⟩) hgb2 _, by rw [hrl]; exact HCO.out, HCB.out, ?_, ?_⟩⟩
      · have := HTS.out
        simp [hrl]; omega
      · rw [Nat.mul_one, List.take_append_of_le_length (by simp), List.take_of_length_le (by simp)]; rfl
    · have hlt : (j : Int) < (l0_2.length : Int) := by omega
      have hjn : j < l0_2.length := by omega
      have hx : wr.cell? ⟨g, j, none⟩ = some (.int .u8 (l0_2[j]'hjn)) := (blk_cell ROW.out j).trans (wallsTo_cell hjn ts)
      have hw64 : IntKind.i64.wrap ((j : Int) + 1) = ((j + 1 : Nat) : Int) := by rw [IntKind.wrap_i64]; have := HL.out; omega
      have NN := am (And.intro hgb3 (And.intro hgb2 (And.intro hjn hj)))
      have hset := wallsTo_set hjn ts
      have hkeep := wallsTo_keep hjn
      have HSET := am hset
      have HKEEP := am hkeep
      generalize hxx : l0_2[j]'hjn = x at *
      clear hxx hgb3 hgb2 hgw hw2 hw3 L2 hset hkeep hj hjn
      cases hbb : isBallC x with
      | true =>
        go_wp2_with (first | (go_at_call 100; refine (hball x _).mono ?_; rw [hbb]; rintro e w6 ⟨rfl, hh, hb6⟩; have Y3' : w6.heap[b3]? = _ := (congrArg (fun h => h[b3]?) hh).trans Y3.out; have R6 : w6.heap[g]? = _ := (congrArg (fun h => h[g]?) hh).trans ROW.out; have Y2' : w6.heap[b2]? = _ := (congrArg (fun h => h[b2]?) hh).trans Y2.out; have y2 : w6.cell? ⟨b3, 2, none⟩ = some (.slice (some ⟨g, 0, none⟩) l0_2.length co) := (blk_cell Y3' 2).trans rfl; have hx6 : w6.cell? ⟨g, j, none⟩ = some (.int .u8 x) := (World.cell?_of_block (congrArg (fun h => h[g]?) hh)).trans hx; have hf6 := blk_frozen R6 j; have Q3 := am Y3'; have QR := am R6; have Q2 := am Y2'; have B6 := am hb6; clear Y3' R6 Y2' hh hb6 hx))
        obtain ⟨hgb3, hgb2, hjn, hj⟩ := NN.out
        obtain ⟨hgw, hw2, hw3, L2⟩ := HS.out
        go_roundg kq
        case measure => have := HKQ.out; omega
        case rel => exact ⟨kq, j + 1, rfl, by simp, by omega, ⟨blk_put QR.out j _ (HSET.out hbb)⟩, ⟨blk_far Q3.out (p := ⟨g, j, none⟩) (Ne.symm hgb3) _⟩, ⟨blk_far Q2.out (p := ⟨g, j, none⟩) (Ne.symm hgb2) _⟩, ⟨(below_step HB.out B6.out).setCell (p := ⟨g, j, none⟩) hgw _⟩⟩
      | false =>
        go_wp2_with (first | (go_at_call 100; refine (hball x _).mono ?_; rw [hbb]; rintro e w6 ⟨rfl, hh, hb6⟩; have Q3 := am (show w6.heap[b3]? = _ from (congrArg (fun h => h[b3]?) hh).trans Y3.out); have QR := am (show w6.heap[g]? = _ from (congrArg (fun h => h[g]?) hh).trans ROW.out); have Q2 := am (show w6.heap[b2]? = _ from (congrArg (fun h => h[b2]?) hh).trans Y2.out); have B6 := am hb6; clear hh hb6 hx))
        obtain ⟨hgb3, hgb2, hjn, hj⟩ := NN.out
        go_roundg kq
        case measure => have := HKQ.out; omega
        case rel => exact ⟨kq, j + 1, rfl, by simp, by omega, ⟨by rw [HKEEP.out hbb]; exact QR.out⟩, Q3, Q2, ⟨below_step HB.out B6.out⟩⟩
end Go.Proofs.YtdffgeoegdkiaaaGreatDoor

namespace Go.Proofs.YtdffgeoegdkiaaaGreatDoor
open Go.RowKit Go.Maps
def litN (k : Nat) : Lit := .int .i64 (k : Int)
theorem litN_ne {a b : Nat} (h : a ≠ b) : litN a ≠ litN b := fun e => h (by unfold litN at e; injection e with _ e; omega)
theorem litN_key (a : Nat) : WideAt.IsKeyLit (litN a) := trivial
theorem litN_same (a b : Nat) : (litN a).sameKey (litN b) = (a == b) := by
  unfold litN Lit.sameKey
  by_cases h : a = b
  · subst h; simp
  · have : ¬ ((a : Int) = b) := by omega
    simp [h, this]
def mapOf (m : List (Nat × Nat)) : DataW Unit := m.foldl (fun D p => D.put (litN p.1) (.lit (litN p.2))) (.map [])
theorem mapOf_snoc (m : List (Nat × Nat)) (p : Nat × Nat) : mapOf (m ++ [p]) = (mapOf m).put (litN p.1) (.lit (litN p.2)) := by unfold mapOf; rw [List.foldl_append]; rfl
theorem snoc_ind {α : Type} {P : List α → Prop} (h0 : P []) (h1 : ∀ l a, P l → P (l ++ [a])) (l : List α) : P l := by
  have : ∀ n (l : List α), l.length = n → P l := fun n => by
    induction n with
    | zero => intro l hl; rw [List.eq_nil_of_length_eq_zero hl]; exact h0
    | succ n ih =>
      intro l hl
      rcases List.eq_nil_or_concat l with e | ⟨v, d, e⟩
      · rw [e] at hl; cases hl
      · rw [e, List.concat_eq_append] at hl ⊢
        exact h1 v d (ih v (by simpa using hl))
  exact this _ l rfl
theorem mapOf_isMap (m : List (Nat × Nat)) : IsMap (mapOf m) := by
  refine snoc_ind (P := fun m => IsMap (mapOf m)) isMap_empty (fun l a h => ?_) m
  show IsMap (mapOf (l ++ [a]))
  rw [mapOf_snoc]; exact h.put _ _
theorem has_mapOf (m : List (Nat × Nat)) (kl : Lit) : Maps.has (mapOf m) kl = m.any fun p => (litN p.1).sameKey kl := by
  refine snoc_ind (P := fun m => Maps.has (mapOf m) kl = m.any fun p => (litN p.1).sameKey kl) rfl (fun l a h => ?_) m
  show Maps.has (mapOf (l ++ [a])) kl = _
  rw [mapOf_snoc, List.any_append, ← h, List.any_cons, List.any_nil, Bool.or_false]
  by_cases e : kl = litN a.1
  · subst e
    rw [has_put_same (mapOf_isMap l) (litN_key _), WideAt.sameKey_self (litN_key _), Bool.or_true]
  · rw [has_put_other e, sameKey_ne (Ne.symm e), Bool.or_false]
theorem atKey_mapOf {m : List (Nat × Nat)} (hn : (m.map Prod.fst).Nodup) {p : Nat × Nat} (hp : p ∈ m) (z : DataW Unit) : (mapOf m).atKey (litN p.1) z = .lit (litN p.2) := by
  refine snoc_ind (P := fun m => (m.map Prod.fst).Nodup → p ∈ m → (mapOf m).atKey (litN p.1) z = .lit (litN p.2)) (fun _ h => by cases h) (fun l a ih hn hp => ?_) m hn hp
  show (mapOf (l ++ [a])).atKey (litN p.1) z = _
  rw [mapOf_snoc]
  rw [List.map_append, List.nodup_append] at hn
  by_cases e : p.1 = a.1
  · have : p = a := by
      rcases List.mem_append.1 hp with h | h
      · exact absurd e (hn.2.2 _ (List.mem_map.2 ⟨p, h, rfl⟩) _ (by simp))
      · exact List.mem_singleton.1 h
    subst this
    exact atKey_put_same (mapOf_isMap l) (litN_key _) _ _
  · rw [atKey_put_other (litN_ne e)]
    rcases List.mem_append.1 hp with h | h
    · exact ih hn.1 h
    · rw [List.mem_singleton.1 h] at e; exact absurd rfl e
def came (m : List (Nat × Nat)) (left : Lit → Bool) : List (Nat × Nat) := m.filter fun p => !left (litN p.1)
theorem came_start (m : List (Nat × Nat)) : came m (Maps.has (mapOf m)) = [] := by
  unfold came
  rw [List.filter_eq_nil_iff]
  intro p hp
  rw [has_mapOf]
  have : m.any (fun q => (litN q.1).sameKey (litN p.1)) = true := List.any_eq_true.2 ⟨p, hp, by rw [litN_same]; simp⟩
  simp [this]
theorem came_end {m : List (Nat × Nat)} {left : Lit → Bool} (h : ∀ kl, left kl = false) : came m left = m := by
  unfold came
  rw [List.filter_eq_self]
  intro p _
  rw [h]; rfl
theorem came_entry {m : List (Nat × Nat)} (hn : (m.map Prod.fst).Nodup) {left : Lit → Bool} (hsub : ∀ kl, left kl = true → Maps.has (mapOf m) kl = true) {x c : Int} (hl : left (.int .i64 x) = true) (hat : ∀ zd : DataW Unit, (mapOf m).atKey (.int .i64 x) zd = .lit (.int .i64 c)) :
    ∃ p ∈ m, x = (p.1 : Int) ∧ c = (p.2 : Int) := by
  have h := hsub _ hl
  rw [has_mapOf, List.any_eq_true] at h
  obtain ⟨p, hp, e⟩ := h
  have e' := WideAt.sameKey_eq e
  unfold litN at e'
  injection e' with _ e1
  subst e1
  have h1 := atKey_mapOf hn hp (.lit (litN 0))
  have h2 := hat (.lit (litN 0))
  rw [show (Lit.int IntKind.i64 (p.1 : Int)) = litN p.1 from rfl, h1] at h2
  injection h2 with h2
  unfold litN at h2
  injection h2 with _ h2
  exact ⟨p, hp, rfl, h2.symm⟩
theorem nodup_of_map {α β : Type} {f : α → β} : ∀ {l : List α}, (l.map f).Nodup → l.Nodup
  | [], _ => List.nodup_nil
  | a :: l, h => by
    rw [List.map_cons, List.nodup_cons] at h
    rw [List.nodup_cons]
    exact ⟨fun hm => h.1 (List.mem_map.2 ⟨a, hm, rfl⟩), nodup_of_map h.2⟩
theorem came_perm {m : List (Nat × Nat)} (hn : (m.map Prod.fst).Nodup) {left : Lit → Bool} {p : Nat × Nat} (hp : p ∈ m) (hl : left (litN p.1) = true) :
    (came m fun z => left z && !z.sameKey (litN p.1)).Perm (came m left ++ [p]) := by
  have hN : m.Nodup := nodup_of_map hn
  unfold came
  rw [List.perm_ext_iff_of_nodup (hN.filter _) (by
    rw [List.nodup_append]
    refine ⟨hN.filter _, by simp, fun a ha b hb => ?_⟩
    rw [List.mem_singleton] at hb
    subst hb
    rintro rfl
    have := (List.mem_filter.1 ha).2
    rw [hl] at this; cases this)]
  intro q
  rw [List.mem_append, List.mem_filter, List.mem_filter, List.mem_singleton]
  dsimp only
  rw [litN_same]
  constructor
  · rintro ⟨h1, h2⟩
    by_cases e : q.1 = p.1
    · exact .inr (fst_inj hn h1 hp e)
    · refine .inl ⟨h1, ?_⟩
      simpa [e] using h2
  · rintro (⟨h1, h2⟩ | rfl)
    · refine ⟨h1, ?_⟩
      have : left (litN q.1) = false := by simpa using h2
      rw [this]; rfl
    · exact ⟨hp, by simp⟩
theorem came_put {m : List (Nat × Nat)} (hn : (m.map Prod.fst).Nodup) (hs : (m.map Prod.snd).Nodup) {left : Lit → Bool} {p : Nat × Nat} (hp : p ∈ m) (hl : left (litN p.1) = true) (cs out : List Int) :
    putAll cs out (came m fun z => left z && !z.sameKey (litN p.1)) = (putAll cs out (came m left)).set p.2 (cs.getD p.1 0) := by
  have hperm := came_perm hn hp hl
  have hsub : ((came m fun z => left z && !z.sameKey (litN p.1)).map Prod.snd).Nodup := (List.Sublist.map Prod.snd List.filter_sublist).nodup hs
  rw [putAll_perm cs hperm hsub, putAll_app]; rfl
end Go.Proofs.YtdffgeoegdkiaaaGreatDoor

namespace Go.Proofs.YtdffgeoegdkiaaaGreatDoor
open Go.RowKit Go.Proofs.YtdffgeoegdkiaaaGreatDoorW.PrintWords Go.Proofs.YtdffgeoegdkiaaaGreatDoorW.PrintLast Go.Proofs.YtdffgeoegdkiaaaGreatDoorW.PrintMore Go.Lib Go.Shelf Go.Proofs.YtdffgeoegdkiaaaGreatDoor.F Go.Maps
attribute [local go_sem] max2_int min2_int
theorem int_keys : Keyed Tryz.prog 3 := int_keyed Tryz.underlying3
def MapAt (w : World) (b : Nat) (m : List (Nat × Nat)) : Prop := ∃ n, n ≤ m.length ∧ w.ownsMap Tryz.prog 3 (plainElem (H := Unit) Tryz.prog 3) b n (mapOf m)
theorem MapAt.kept {w w' : World} {b : Nat} {m : List (Nat × Nat)} {row : Option Nat} (h : MapAt w b m) (hg : w.grownBy w' row) (hne : some b ≠ row) : MapAt w' b m := by
  obtain ⟨n, hn, h⟩ := h; exact ⟨n, hn, h.kept hg hne⟩
theorem MapAt.lt {w : World} {b : Nat} {m : List (Nat × Nat)} (h : MapAt w b m) : b < w.heap.size := by obtain ⟨n, _, h⟩ := h; exact h.lt
theorem MapAt.block {w w' : World} {b : Nat} {m : List (Nat × Nat)} (h : MapAt w b m) (hb : w'.heap[b]? = w.heap[b]?) : MapAt w' b m := by
  obtain ⟨n, hn, es, clock, h1, h2⟩ := h
  exact ⟨n, hn, es, clock, hb.trans h1, h2⟩
theorem MapAt.below {w w' : World} {b : Nat} {m : List (Nat × Nat)} (h : MapAt w b m) (hb : Below w.heap.size w w') : MapAt w' b m := h.block (hb.block b h.lt)
theorem own_below {w w' : World} {b n : Nat} {D : DataW Unit} (h : w.ownsMap Tryz.prog 3 (plainElem (H := Unit) Tryz.prog 3) b n D) (hb : Below w.heap.size w w') : w'.ownsMap Tryz.prog 3 (plainElem (H := Unit) Tryz.prog 3) b n D := by
  have hlt := h.lt
  obtain ⟨es, clock, h1, h2⟩ := h
  exact ⟨es, clock, (hb.block b hlt).trans h1, h2⟩
theorem ranges_block {w w' : World} {b r n : Nat} {D : DataW Unit} {left : Lit → Bool} {cnt : Nat} (h : w.ranges Tryz.prog 3 (plainElem (H := Unit) Tryz.prog 3) b r n D left cnt) (hb : w'.heap[b]? = w.heap[b]?) (hr : w'.heap[r]? = w.heap[r]?) :
    w'.ranges Tryz.prog 3 (plainElem (H := Unit) Tryz.prog 3) b r n D left cnt := by
  obtain ⟨es, clock, since, seen, c0, h1, h2, h3, h4, h5, h6⟩ := h
  exact ⟨es, clock, since, seen, c0, hb.trans h1, h2, h3, h4, hr.trans h5, h6⟩
theorem blk_far_eq (w : World) {p : Addr} {k : Nat} (h : p.block ≠ k) (u : Value) : (w.setCell p u).heap[k]? = w.heap[k]? := Below.heap_setCell w p u k (Ne.symm h)
theorem cells_of {n : Nat} (cs : List Int) (ts : List Value) (j : Nat) (hj : j < cs.length) (v : Int) : ((cs.map (Value.int .u8) ++ ts).toArray.setIfInBounds j (.int .u8 v)) = ((cs.set j v).map (Value.int .u8) ++ ts).toArray := by
  rw [List.setIfInBounds_toArray, List.set_append_left _ _ (by rw [List.length_map]; exact hj), List.map_set]
theorem cells_get (cs : List Int) (ts : List Value) (j : Nat) (hj : j < cs.length) : ((cs.map (Value.int .u8) ++ ts).toArray)[j]? = some (.int .u8 (cs.getD j 0)) := by
  rw [List.getElem?_toArray, List.getElem?_append_left (by rw [List.length_map]; exact hj), List.getElem?_map, List.getElem?_eq_getElem hj, getD_at hj]; rfl
set_option maxRecDepth 100000 in
set_option maxHeartbeats 8000000 in
theorem impl_tray_carried.calls (a0 a1 : Int) (A2 : Option Addr) (c2 : Nat) (l2 : List Int) (b : Nat) (m : List (Nat × Nat)) (w : World) (hr2 : Kd.C (Kd.int .u8) w A2 l2.length l2) (hc2 : l2.length ≤ c2)
    (hl : 0 < l2.length ∧ l2.length < 65536) (hm : MapAt w b m) (hn : (m.map Prod.fst).Nodup) (hs : (m.map Prod.snd).Nodup) (hlt : ∀ p ∈ m, p.1 < l2.length ∧ p.2 < l2.length) :
    Calls Tryz.prog 152 #[.agg #[.int .i64 a0, .int .i64 a1, .slice A2 l2.length c2], .map (some b)] w fun e w' => ∃ v2_ : Value, e = .returned (.agg #[.int .i64 a0, .int .i64 a1, v2_]) ∧ Kd.R (Kd.int .u8) 5 w' w.heap.size (fun _ => True) v2_ (putAll l2 (wallsL l2) m) ∧ Below w.heap.size w w' := by
  obtain ⟨n, _, hown⟩ := hm
  have hemp : impl_tray_emptied.f a0 a1 l2 = some (a0, a1, wallsL l2) := if_pos hl
  have HOWN := am hown
  have HR := am hr2
  have HC := am hc2
  have HL := am hl
  have HN := am hn
  have HS := am hs
  have HLT := am hlt
  obtain ⟨sb, so, rfl, hsb, hscells⟩ := C_place hr2 hl.1
  have hcall : ∀ W, Below w.heap.size w W → Calls Tryz.prog 185 #[.agg #[.int .i64 a0, .int .i64 a1, .slice (some ⟨sb, so, none⟩) l2.length c2]] W fun e w' => ∃ g co ts, e = .returned (.agg #[.int .i64 a0, .int .i64 a1, .slice (some ⟨g, 0, none⟩) l2.length co]) ∧ W.heap.size ≤ g ∧ l2.length ≤ co ∧ w'.heap[g]? = some (.cells ((wallsL l2).map (Value.int .u8) ++ ts).toArray 5 (0, 0)) ∧ ts.length + l2.length = co ∧ co ≤ maxLen ∧ Below W.heap.size W w' := fun W hW => by
    refine (impl_tray_emptied.calls a0 a1 _ c2 l2 a0 a1 (wallsL l2) W (Kd.C_below HR.out hW) HC.out hemp).mono ?_
    rintro e w' ⟨v2, rfl, ho, hb⟩
    have hwl : (wallsL l2).length = l2.length := by simp [wallsL]
    obtain ⟨_, ⟨rfl, h0⟩ | ⟨g, cap, cur, rfl, hg, hrow, hcl, hcm, hsz, htk⟩⟩ := Kd.own_of_R (enc := Value.int .u8) (h1 := fun _ => rfl) ho
    · have := HL.out; omega
    · rw [hwl] at hcl htk
      refine ⟨g, cap, cur.toList.drop l2.length, by rw [hwl], hg, hcl, ?_, ?_, hcm, hb⟩
      · rw [hrow]
        congr 2
        have : (wallsL l2).map (Value.int .u8) ++ cur.toList.drop l2.length = cur.toList := by
          rw [show (wallsL l2).map (Value.int .u8) = cur.toList.take l2.length from by rw [← encs, ← htk, Nat.mul_one]]
          exact List.take_append_drop _ _
        rw [this]
      · rw [List.length_drop, Array.length_toList]; omega
  have HSC := am hscells
  have HSB := am hsb
  have HB := am (Below.refl w.heap.size w)
  clear hown hr2 hc2 hl hn hs hlt hemp hscells hsb
  go_enter Tryz.func152, Tryz.ntmps152
  go_wp2_with (first
    | ((with_reducible refine gate_dst (N := 2) rfl ?_); refine box_event ?hg (N := 2) ?hd (cs := #[.int .i64 a0, .int .i64 a1, .slice (some ⟨sb, so, none⟩) l2.length c2]) (t := 93) ?hr ?_; (case hd => rfl); (case hg => rfl); (case hr => first | (go_simp; done) | (go_simp; rfl)); intro b1 hg1 w3 hbox1 hb1; have G1 := am hg1; have X1 := am hbox1; have B1 := am hb1; clear hg1 hbox1 hb1)
    | ((with_reducible refine gate_dst (N := 4) rfl ?_); refine box_event ?hg (N := 4) ?hd (cs := #[.int .i64 0, .int .i64 0, .slice none 0 0]) (t := 93) ?hr ?_; (case hd => rfl); (case hg => rfl); (case hr => first | (go_simp; done) | (go_simp; rfl)); intro b2 hg2 w4 hbox2 hb2; have G2 := am hg2; have X2 := am hbox2; have B2 := am (below_step B1.out hb2); have n1 := am (blk_below X1.out hb2); clear X1; have X1 := n1; clear n1; have z10 : w4.cell? ⟨b1, 0, none⟩ = some (.int .i64 a0) := (blk_cell X1.out 0).trans rfl; have z11 : w4.cell? ⟨b1, 1, none⟩ = some (.int .i64 a1) := (blk_cell X1.out 1).trans rfl; have z12 : w4.cell? ⟨b1, 2, none⟩ = some (.slice (some ⟨sb, so, none⟩) l2.length c2) := (blk_cell X1.out 2).trans rfl; clear hg2 hbox2 hb2)
    | (go_at_call 185; refine (hcall _ B2.out).mono ?_; rintro e w5 ⟨g, co, ts, rfl, hg0, hco, hrow, hts, hcb, hb⟩; have G0 := am hg0; have HCO := am hco; have HROW := am hrow; have HTS := am hts; have HCB := am hcb; have B5 := am (below_step B2.out hb); have n2 := am (blk_below X2.out hb); have n1 := am (blk_below X1.out hb); clear X1 X2; have X2 := n2; have X1 := n1; clear n1 n2 hb hg0 hco hrow hts hcb z10 z11 z12)
    | (at_range; obtain ⟨b3, hb3⟩ : ∃ b3, w5.heap.size = b3 := ⟨_, rfl⟩; obtain ⟨W8, hW8⟩ : ∃ W8, w5.alloc (.cells #[.int .i64 a0, .int .i64 a1, .slice (some ⟨g, 0, none⟩) l2.length co] 93) = W8 := ⟨_, rfl⟩; have hB58 : Below b3 w5 W8 := (by rw [← hW8, ← hb3]; exact (Below.refl _ w5).alloc (Nat.le_refl _) _); have hB8 : Below w.heap.size w W8 := (by rw [← hW8]; exact B5.out.alloc B5.out.size _); have hsz : W8.heap.size = b3 + 1 := (by rw [← hW8, ← hb3]; simp); have x3 : W8.heap[b3]? = some (.cells #[.int .i64 a0, .int .i64 a1, .slice (some ⟨g, 0, none⟩) l2.length co] 93 (0, 0)) := (by rw [← hW8, ← hb3]; exact World.alloc_heap_new w5 _); rw [hW8]; (try simp only [hb3]); have HB58 := am hB58; have HB8 := am hB8; have HSZ := am hsz; have X3 := am x3; have HW8 := am hb3; clear hB58 hB8 hsz x3 hW8 hb3; refine wpList_range_own _ rfl (.tmp 10) 107 rfl 3 3 int_keys Tryz.underlying107 (plainElem (H := Unit) Tryz.prog 3) b n (mapOf m) rfl (own_below HOWN.out HB8.out) ?_; intro w0 hrg0 hg0 hs0; obtain ⟨b4, hb4⟩ : ∃ b4, W8.heap.size = b4 := ⟨_, rfl⟩; rw [hb4] at hrg0 ⊢; have HB4 := am hb4; clear hb4; have HRG0 := am hrg0; have HG0 := am hg0; clear hrg0 hg0 hs0))
  go_frame
  have hgw : w.heap.size ≤ g := Nat.le_trans B2.out.size G0.out
  have hg5 : g < b3 := by rw [← HW8.out]; exact blk_lt HROW.out
  have h1w : w.heap.size ≤ b1 := by rw [G1.out]; exact Nat.le_refl _
  have h2w : w.heap.size ≤ b2 := by rw [G2.out]; exact B1.out.size
  have h3w : w.heap.size ≤ b3 := by rw [← HW8.out]; exact B5.out.size
  have h15 : b1 < b3 := by rw [← HW8.out]; exact blk_lt X1.out
  have h25 : b2 < b3 := by rw [← HW8.out]; exact blk_lt X2.out
  have hbw : b < w.heap.size := HOWN.out.lt
  have HP := am (And.intro hgw (And.intro hg5 (And.intro h1w (And.intro h2w (And.intro h3w (And.intro h15 (And.intro h25 hbw)))))))
  have hg08 := HG0.out
  have hsz8 := HSZ.out
  have ROW := am (show w0.heap[g]? = some (.cells ((putAll l2 (wallsL l2) (came m (Maps.has (mapOf m)))).map (Value.int .u8) ++ ts).toArray 5 (0, 0)) from by
    rw [came_start, putAll_nil]
    exact (hg08.block g (by omega) (by simp)).trans ((HB58.out.block g hg5).trans HROW.out))
  have Y3 := am ((hg08.block b3 (by omega) (by simp)).trans X3.out)
  have Y1 := am ((hg08.block b1 (by omega) (by simp)).trans ((HB58.out.block b1 h15).trans X1.out))
  have Y2 := am ((hg08.block b2 (by omega) (by simp)).trans ((HB58.out.block b2 h25).trans X2.out))
  have HB0 := am (HB8.out.grown hg08 HB8.out.size (fun _ h => by cases h))
  have h34 : b4 = b3 + 1 := HB4.out.symm.trans hsz8
  have H34 := am h34
  clear h34 hgw hg5 h1w h2w h3w h15 h25 hbw hg08 hsz8 hcall X1 X2 X3 HROW B5 B1 B2 G0 G1 G2 HB58 HB8 HG0 HW8 HB4 HSZ
  go_loopw [6] (fun v6 wr => ∃ (left : Lit → Bool) (cnt : Nat), Aside0 (wr.ranges Tryz.prog 3 (plainElem (H := Unit) Tryz.prog 3) b b4 n (mapOf m) left cnt) ∧ Aside0 (∀ kl, left kl = true → Maps.has (mapOf m) kl = true) ∧ Aside0 (wr.heap[g]? = some (.cells ((putAll l2 (wallsL l2) (came m left)).map (Value.int .u8) ++ ts).toArray 5 (0, 0))) ∧ Aside0 (wr.heap[b3]? = some (.cells #[.int .i64 a0, .int .i64 a1, .slice (some ⟨g, 0, none⟩) l2.length co] 93 (0, 0))) ∧ Aside0 (wr.heap[b1]? = some (.cells #[.int .i64 a0, .int .i64 a1, .slice (some ⟨sb, so, none⟩) l2.length c2] 93 (0, 0))) ∧ Aside0 (wr.heap[b2]? = some (.cells #[.int .i64 0, .int .i64 0, .slice none 0 0] 93 (0, 0))) ∧ Aside0 (Below w.heap.size w wr)) (fun _ wr => wr.rangeLeft b b4)
  case atStart => exact ⟨_, _, HRG0, ⟨fun _ h => h⟩, ROW, Y3, Y1, Y2, HB0⟩
  case round =>
    obtain ⟨left, cnt, HRG, HSUB, ROWr, Z3, Z1, Z2, HBr⟩ := hrel
    clear ROW Y3 Y1 Y2 HB0 HRG0
    go_wp2_with (at_next; refine wpList_next_ranges_ii _ rfl (.tmp 11) rfl 3 3 .i64 .i64 int_keys Tryz.underlying3 Tryz.underlying3 b b4 n (mapOf m) left cnt rfl HRG.out ?_ ?_)
    · intro _ hl0
      obtain ⟨hgw, hg5, h1w, h2w, h3w, h15, h25, hbw⟩ := HP.out
      have ROW' := ROWr.out
      rw [came_end hl0] at ROW'
      have y0 : wr.cell? ⟨b3, 0, none⟩ = some (.int .i64 a0) := (blk_cell Z3.out 0).trans rfl
      have y1 : wr.cell? ⟨b3, 1, none⟩ = some (.int .i64 a1) := (blk_cell Z3.out 1).trans rfl
      have y2 : wr.cell? ⟨b3, 2, none⟩ = some (.slice (some ⟨g, 0, none⟩) l2.length co) := (blk_cell Z3.out 2).trans rfl
      have c0 : wr.cell? ⟨b2, 0, none⟩ = some (.int .i64 0) := (blk_cell Z2.out 0).trans rfl
      have c1 : wr.cell? ⟨b2, 1, none⟩ = some (.int .i64 0) := (blk_cell Z2.out 1).trans rfl
      have cc2 : wr.cell? ⟨b2, 2, none⟩ = some (.slice none 0 0) := (blk_cell Z2.out 2).trans rfl
      have f0 := blk_frozen Z2.out 0
      have f1 := blk_frozen Z2.out 1
      have f2 := blk_frozen Z2.out 2
      have hgb2 : g ≠ b2 := blk_ne ROW' Z2.out (by decide)
      have RR := am ROW'
      have NN := am hgb2
      have H2W := am h2w
      have HGW := am hgw
      clear ROW' hgb2 hgw hg5 h1w h2w h3w h15 h25 hbw hl0 HRG HSUB ROWr
      go_wp2
      refine bodyPost_ret (results_cell_row rfl _ _ b2 93 #[.int .i64 a0, .int .i64 a1, .slice (some ⟨g, 0, none⟩) l2.length co] (0, 0) _ rfl (by exact blk_put (blk_put (blk_put Z2.out 0 (.int .i64 a0) rfl) 1 (.int .i64 a1) rfl) 2 (.slice (some ⟨g, 0, none⟩) l2.length co) rfl) Tryz.underlying93 rfl (by kernel_rfl)) rfl ?_
      refine ⟨.slice (some ⟨g, 0, none⟩) l2.length co, rfl, ?_, ((HBr.out.setCell (p := ⟨b2, 0, none⟩) H2W.out _).setCell (p := ⟨b2, 1, none⟩) H2W.out _).setCell (p := ⟨b2, 2, none⟩) H2W.out _⟩
      have hrl : (putAll l2 (wallsL l2) m).length = l2.length := by rw [putAll_length]; simp [wallsL]
      rw [← hrl]
      refine Kd.R_of_own (enc := Value.int .u8) (h1 := fun _ => rfl) ?_ (fun _ _ => trivial)
      refine ⟨by simp [encs], .inr ⟨g, co, _, rfl, HGW.out, blk_far (blk_far (blk_far RR.out (p := ⟨b2, 0, none⟩) NN.out _) (p := ⟨b2, 1, none⟩) NN.out _) (p := ⟨b2, 2, none⟩) NN.out _, by rw [hrl]; exact HCO.out, HCB.out, ?_, ?_⟩⟩
      · have := HTS.out
        simp [hrl]; omega
      · rw [Nat.mul_one, List.take_append_of_le_length (by simp), List.take_of_length_le (by simp)]; rfl
    · intro x c w1 cnt1 hwx hwc hlx hat hrg1 hlt1 hg1 hs1 hen
      obtain ⟨p, hp, rfl, rfl⟩ := came_entry HN.out HSUB.out hlx hat
      obtain ⟨hgw, hg5, h1w, h2w, h3w, h15, h25, hbw⟩ := HP.out
      have h34 := H34.out
      obtain ⟨q1, q2⟩ := HLT.out p hp
      have ROW1 := (hg1.block g (blk_lt ROWr.out) (by simp; omega)).trans ROWr.out
      have W3 := (hg1.block b3 (blk_lt Z3.out) (by simp; omega)).trans Z3.out
      have W1 := (hg1.block b1 (blk_lt Z1.out) (by simp; omega)).trans Z1.out
      have W2 := (hg1.block b2 (blk_lt Z2.out) (by simp; omega)).trans Z2.out
      have HB1 : Below w.heap.size w w1 := HBr.out.grown hg1 HBr.out.size (fun k hk => by cases hk; omega)
      have y2 : w1.cell? ⟨b3, 2, none⟩ = some (.slice (some ⟨g, 0, none⟩) l2.length co) := (blk_cell W3 2).trans rfl
      have z2 : w1.cell? ⟨b1, 2, none⟩ = some (.slice (some ⟨sb, so, none⟩) l2.length c2) := (blk_cell W1 2).trans rfl
      have src : w1.cell? ⟨sb, so + p.1, none⟩ = some (.int .u8 (l2.getD p.1 0)) := (HB1.cell (p := ⟨sb, so + p.1, none⟩) HSB.out).trans (HSC.out p.1 _ (by rw [getD_at q1]; exact List.getElem?_eq_getElem q1))
      have hpl : (putAll l2 (wallsL l2) (came m left)).length = l2.length := by rw [putAll_length]; simp [wallsL]
      have dst : w1.cell? ⟨g, p.2, none⟩ = some (.int .u8 ((putAll l2 (wallsL l2) (came m left)).getD p.2 0)) := (blk_cell ROW1 p.2).trans (cells_get _ ts p.2 (by rw [hpl]; exact q2))
      have hf := blk_frozen ROW1 p.2
      have hgb3 : g ≠ b3 := by omega
      have hgb1 : g ≠ b1 := blk_ne ROW1 W1 (by decide)
      have hgb2 : g ≠ b2 := blk_ne ROW1 W2 (by decide)
      have hput := came_put HN.out HS.out hp hlx l2 (wallsL l2)
      have hset := cells_of (n := 0) (putAll l2 (wallsL l2) (came m left)) ts p.2 (by rw [hpl]; exact q2) (l2.getD p.1 0)
      have k1 : ((p.1 : Nat) : Int) < (l2.length : Int) := by omega
      have k2 : ((p.2 : Nat) : Int) < (l2.length : Int) := by omega
      generalize l2.getD p.1 0 = v at src hput hset
      have HPUT := am hput
      have HSET := am hset
      have HHB1 := am HB1
      have HROW1 := am ROW1
      have HW3 := am W3
      have HW1 := am W1
      have HW2 := am W2
      have HRG1 := am hrg1
      have HLT1 := am hlt1
      have HNE := am (And.intro hgb3 (And.intro hgb1 (And.intro hgb2 (And.intro hgw (show g ≠ b by omega) ))))
      have HNB4 := am (show g ≠ b4 by omega)
      clear hgw hg5 h1w h2w h3w h15 h25 hbw h34 q1 q2 ROW1 W3 W1 W2 HB1 hpl hgb3 hgb1 hgb2 hput hset hrg1 hlt1 hg1 hs1 hwx hwc hlx hat
      go_wp2
      go_still_tail 9, (by kernel_rfl)
      change wpList _ _ _ _ _ w1.drew
      have dst' : w1.drew.cell? ⟨g, p.2, none⟩ = some (.int .u8 ((putAll l2 (wallsL l2) (came m left)).getD p.2 0)) := dst
      have hf' : w1.drew.frozen? ⟨g, p.2, none⟩ = false := hf
      have DROW : Aside0 (w1.drew.heap[g]? = _) := HROW1
      have D3 : Aside0 (w1.drew.heap[b3]? = _) := HW3
      have D1 : Aside0 (w1.drew.heap[b1]? = _) := HW1
      have D2 : Aside0 (w1.drew.heap[b2]? = _) := HW2
      have DB : Aside0 (Below w.heap.size w w1.drew) := ⟨below_drew1 HHB1.out⟩
      have DRG : Aside0 (w1.drew.ranges _ _ _ _ _ _ _ _ _) := ⟨ranges_block HRG1.out rfl rfl⟩
      clear dst hf HROW1 HW3 HW1 HW2 HHB1 HRG1 y2 z2 src hen
      generalize w1.drew = w2 at dst' hf' DROW D3 D1 D2 DB DRG ⊢
      go_wp2
      obtain ⟨n1, n2, n3, n4, n5⟩ := HNE.out
      have n6 := HNB4.out
      go_roundw
      case measure => have e1 := HRG.out.left_eq; have e2 := (ranges_block (w' := w2.setCell ⟨g, p.2, none⟩ (.int .u8 v)) DRG.out (blk_far_eq w2 (p := ⟨g, p.2, none⟩) n5 _) (blk_far_eq w2 (p := ⟨g, p.2, none⟩) n6 _)).left_eq; have := HLT1.out; rw [e1, e2]; exact this
      case rel => exact ⟨_, _, ⟨ranges_block DRG.out (blk_far_eq w2 (p := ⟨g, p.2, none⟩) n5 _) (blk_far_eq w2 (p := ⟨g, p.2, none⟩) n6 _)⟩, ⟨fun kl hkl => HSUB.out kl (by rw [Bool.and_eq_true] at hkl; exact hkl.1)⟩, ⟨by rw [show (Lit.int IntKind.i64 ((p.1 : Nat) : Int)) = litN p.1 from rfl, HPUT.out, ← HSET.out]; exact blk_put DROW.out p.2 _ rfl⟩, ⟨blk_far D3.out (p := ⟨g, p.2, none⟩) (Ne.symm n1) _⟩, ⟨blk_far D1.out (p := ⟨g, p.2, none⟩) (Ne.symm n2) _⟩, ⟨blk_far D2.out (p := ⟨g, p.2, none⟩) (Ne.symm n3) _⟩, ⟨DB.out.setCell (p := ⟨g, p.2, none⟩) n4 _⟩⟩
def castsI (l : List Nat) : List Int := l.map Int.ofNat
theorem castsI_length (l : List Nat) : (castsI l).length = l.length := by simp [castsI]
theorem castsI_getD (l : List Nat) (j : Nat) (h : j < l.length) : (castsI l)[j]? = some ((l[j]'h : Nat) : Int) := by
  unfold castsI; rw [List.getElem?_map, List.getElem?_eq_getElem h]; rfl
theorem row_at {w : World} {A : Option Addr} {n : Nat} {xs : List (List Int)} (h : Kd.C (Kd.slice 3 (Kd.int .i64)) w A n xs) (j : Nat) (hj : j < n) :
    ∃ bk o A0 c0, A = some ⟨bk, o, none⟩ ∧ w.cell? ⟨bk, o + j, none⟩ = some (.slice A0 (xs.getD j []).length c0) ∧ (xs.getD j []).length ≤ c0 ∧ Kd.C (Kd.int .i64) w A0 (xs.getD j []).length (xs.getD j []) := by
  obtain ⟨ad, c, e, hcl, hK, hc0⟩ := Kd.C_get h ([] : List Int) (j : Int) (by omega) (by omega)
  rw [Int.toNat_natCast] at hK hc0
  have hc : ∀ i u, c[i]? = some u → w.cell? (ad.add (j * 1 + i)) = some u := hc0
  obtain ⟨A0, c0, rfl, l0, g0⟩ := hK
  have hq := hc 0 _ rfl
  rw [Nat.mul_one, Nat.add_zero] at hq
  obtain ⟨ad2, c2, e2', _, hK2, hc2⟩ := Kd.C_get h ([] : List Int) 0 (by omega) (by omega)
  obtain rfl : ad = ad2 := Option.some.inj (e.symm.trans e2')
  obtain ⟨A2, cc2, rfl, _, _⟩ := hK2
  have hq0 : w.cell? (ad.add (0 * 1 + 0)) = _ := hc2 0 _ rfl
  obtain ⟨bk, o, sp⟩ := ad
  have e' : sp = none := spot_of_cell hq0
  subst e'
  have e2 : (⟨bk, o, none⟩ : Addr).add j = ⟨bk, o + j, none⟩ := by unfold Addr.add; split <;> simp_all
  rw [e2] at hq
  exact ⟨bk, o, A0, c0, e, hq, l0, g0⟩
def partM (b : Nat → Bool) (st : List Nat) (i : Nat) : List (Nat × Nat) := ((st.take i).filter b).zip st
theorem partM_all (b : Nat → Bool) (st : List Nat) : partM b st st.length = (st.filter b).zip st := by unfold partM; rw [List.take_length]
theorem zip_snoc : ∀ (a c : List Nat) (x : Nat), a.length < c.length → (a ++ [x]).zip c = a.zip c ++ [(x, c.getD a.length 0)]
  | [], y :: c, x, _ => rfl
  | z :: a, y :: c, x, h => by
    rw [List.cons_append, List.zip_cons_cons, zip_snoc a c x (by simpa using h)]; rfl
theorem cnt_le (b : Nat → Bool) (st : List Nat) (i : Nat) : ((st.take i).filter b).length ≤ i := Nat.le_trans (List.length_filter_le _ _) (by rw [List.length_take]; exact Nat.min_le_left _ _)
theorem take_filter {b : Nat → Bool} {st : List Nat} {i : Nat} (h : i < st.length) : (st.take (i + 1)).filter b = if b (st[i]'h) = true then (st.take i).filter b ++ [st[i]'h] else (st.take i).filter b := by
  rw [List.take_succ_eq_append_getElem h, List.filter_append]
  cases hb : b st[i] <;> simp [hb]
theorem partM_yes {b : Nat → Bool} {st : List Nat} {i : Nat} (h : i < st.length) (hb : b (st[i]'h) = true) : partM b st (i + 1) = partM b st i ++ [(st[i]'h, st.getD ((st.take i).filter b).length 0)] := by
  unfold partM
  rw [take_filter h, if_pos hb, zip_snoc _ _ _ (by have := cnt_le b st i; omega)]
theorem partM_no {b : Nat → Bool} {st : List Nat} {i : Nat} (h : i < st.length) (hb : b (st[i]'h) = false) : partM b st (i + 1) = partM b st i := by
  unfold partM
  rw [take_filter h, if_neg (by rw [hb]; exact Bool.false_ne_true)]
theorem mvs_take {b : Nat → Bool} {S : List (List Nat)} {j : Nat} (h : j < S.length) : mvs b (S.take (j + 1)) = mvs b (S.take j) ++ partM b (S[j]'h) (S[j]'h).length := by
  unfold mvs
  rw [List.take_succ_eq_append_getElem h, List.flatMap_append, partM_all]; simp
theorem own_heap {w w' : World} {b n : Nat} {D : DataW Unit} (h : w.ownsMap Tryz.prog 3 (plainElem (H := Unit) Tryz.prog 3) b n D) (hb : w'.heap[b]? = w.heap[b]?) : w'.ownsMap Tryz.prog 3 (plainElem (H := Unit) Tryz.prog 3) b n D := by
  obtain ⟨es, clock, h1, h2⟩ := h
  exact ⟨es, clock, hb.trans h1, h2⟩
theorem mvs_len (b : Nat → Bool) (S : List (List Nat)) (j : Nat) : (mvs b (S.take j)).length ≤ S.flatten.length := by
  have h1 : (mvs b (S.take j)).length = ((S.take j).flatten.filter b).length := by rw [← mvs_fst, List.length_map]
  have h2 : S.flatten = (S.take j).flatten ++ (S.drop j).flatten := by rw [← List.flatten_append, List.take_append_drop]
  have h3 := List.length_filter_le b (S.take j).flatten
  rw [h1, h2, List.length_append]
  omega
theorem partM_len (b : Nat → Bool) (st : List Nat) (i : Nat) : (partM b st i).length ≤ i := by
  unfold partM
  rw [List.length_zip]
  exact Nat.le_trans (Nat.min_le_left _ _) (cnt_le b st i)
set_option maxRecDepth 100000 in
set_option maxHeartbeats 8000000 in
theorem impl_tray_slide.calls (a0 a1 dir : Int) (A2 : Option Addr) (c2 : Nat) (l2 : List Int) (SN : List (List Nat)) (w : World) (hr2 : Kd.C (Kd.int .u8) w A2 l2.length l2) (hc2 : l2.length ≤ c2)
    (hl : 0 < l2.length ∧ l2.length < 65536) (hS : ∀ st ∈ SN, ∀ i ∈ st, i < l2.length) (hlen : SN.flatten.length < 65536) (hlen1 : SN.length < 65536) (hlen2 : ∀ st ∈ SN, st.length < 65536)
    (hcall : ∀ W, Below w.heap.size w W → Calls Tryz.prog 151 #[.agg #[.int .i64 a0, .int .i64 a1, .slice A2 l2.length c2], .int .u8 dir] W fun e w' => ∃ v, e = .returned v ∧ Kd.R (Kd.slice 3 (Kd.int .i64)) 28 w' W.heap.size (fun _ => True) v (SN.map castsI) ∧ Below W.heap.size W w') :
    Calls Tryz.prog 108 #[.agg #[.int .i64 a0, .int .i64 a1, .slice A2 l2.length c2], .int .u8 dir] w fun e w' => ∃ b, e = .returned (.map (some b)) ∧ w.heap.size ≤ b ∧ MapAt w' b (mvs (ballAt l2) SN) ∧ Below w.heap.size w w' := by
  have hball : ∀ (c : Int) (W : World), Calls Tryz.prog 107 #[.int .u8 c] W fun e w' => e = .returned (.bool (isBallC c)) ∧ w'.heap = W.heap ∧ Below W.heap.size W w' := fun c W => by
    refine (impl_isBall.calls c (isBallC c) W (impl_isBall_is c)).mono ?_
    rintro e w' ⟨rfl, ⟨nd, rfl⟩⟩
    exact ⟨rfl, rfl, pw_below_drewN (Below.refl _ _) nd⟩
  obtain ⟨sb, so, rfl, hsb, hscells⟩ := C_place hr2 hl.1
  have HC := am hc2
  have HL := am hl
  have HSS := am hS
  have HLEN := am (And.intro hlen (And.intro hlen1 hlen2))
  have HSC := am hscells
  have HSB := am hsb
  have HB := am (Below.refl w.heap.size w)
  have hmm := @run_makeMap Tryz.prog
  clear hr2 hc2 hl hS hlen hlen1 hlen2 hscells hsb
  go_enter Tryz.func108, Tryz.ntmps108
  go_wp2_with (first
    | ((with_reducible refine gate_dst (N := 2) rfl ?_); refine box_event ?hg (N := 2) ?hd (cs := #[.int .i64 a0, .int .i64 a1, .slice (some ⟨sb, so, none⟩) l2.length c2]) (t := 93) ?hr ?_; (case hd => rfl); (case hg => rfl); (case hr => first | (go_simp; done) | (go_simp; rfl)); intro b1 hg1 w3 hbox1 hb1; have hbl : (w3.alloc (.map #[] 0)).heap[b1]? = _ := (((Below.refl _ w3).alloc (Nat.le_refl _) _).block b1 (blk_lt hbox1)).trans hbox1; have z10 : (w3.alloc (.map #[] 0)).cell? ⟨b1, 0, none⟩ = some (.int .i64 a0) := (blk_cell hbl 0).trans rfl; have z11 : (w3.alloc (.map #[] 0)).cell? ⟨b1, 1, none⟩ = some (.int .i64 a1) := (blk_cell hbl 1).trans rfl; have z12 : (w3.alloc (.map #[] 0)).cell? ⟨b1, 2, none⟩ = some (.slice (some ⟨sb, so, none⟩) l2.length c2) := (blk_cell hbl 2).trans rfl; have G1 := am hg1; have X1 := am hbl; have B1 := am hb1; clear hg1 hbox1 hbl hb1)
    | (go_at_call 151; obtain ⟨b2, hb2⟩ : ∃ b2, w3.heap.size = b2 := ⟨_, rfl⟩; have hm0 : MapAt (w3.alloc (.map #[] 0)) b2 [] := (by rw [← hb2]; exact ⟨0, Nat.le_refl _, World.ownsMap_made _ _ _ _⟩); have hsz4 : (w3.alloc (.map #[] 0)).heap.size = b2 + 1 := (by rw [← hb2]; simp); have hB4 : Below w.heap.size w (w3.alloc (.map #[] 0)) := B1.out.alloc B1.out.size _; obtain ⟨W4, hW4⟩ : ∃ W4, w3.alloc (.map #[] 0) = W4 := ⟨_, rfl⟩; rw [hW4] at hm0 hsz4 hB4 X1 z10 z11 z12 ⊢; (try simp only [hb2]); have h2w : w.heap.size ≤ b2 := (by rw [← hb2]; exact B1.out.size); refine (hcall _ hB4).mono ?_; rintro e w5 ⟨v, rfl, ho, hb⟩; obtain ⟨Av, cv, hv⟩ := Kd.R_slice ho; rw [List.length_map] at hv; subst hv; have ho' := Kd.R_mono (Kd.R_bound ho) (ok' := fun k => b2 < k) (fun k hk => by have := hk.2.1; omega); have HO := am ho'; clear ho'; have B5 := am (below_step hB4 hb); have X5 := am (blk_below X1.out hb); have M5 := am (hm0.below hb); have H2W := am h2w; have HSZ4 := am hsz4; clear ho hb hB4 hm0 hsz4 h2w hW4 hb2 z10 z11 z12 X1 B1))
  have hb12 : b1 ≠ b2 := by
    obtain ⟨n, _, es, clock, h1, _⟩ := M5.out
    intro e
    have := X5.out
    rw [e, h1] at this
    cases this
  have rows : ∀ j, (hj : j < SN.length) → ∃ bk o A0 c0, Av = some ⟨bk, o, none⟩ ∧ SN[j].length ≤ c0 ∧ ∀ W, KeepBut w5 W b2 none → W.cell? ⟨bk, o + j, none⟩ = some (.slice A0 SN[j].length c0) ∧ Kd.C (Kd.int .i64) W A0 SN[j].length (castsI SN[j]) := fun j hj => by
    have hgd : (SN.map castsI).getD j [] = castsI SN[j] := by
      rw [List.getD_eq_getElem?_getD, List.getElem?_map, List.getElem?_eq_getElem hj]; rfl
    have get : ∀ W, KeepBut w5 W b2 none → ∃ bk o A0 c0, Av = some ⟨bk, o, none⟩ ∧ W.cell? ⟨bk, o + j, none⟩ = some (.slice A0 SN[j].length c0) ∧ SN[j].length ≤ c0 ∧ Kd.C (Kd.int .i64) W A0 SN[j].length (castsI SN[j]) := fun W hk => by
      obtain ⟨A, c, e, _, hC⟩ := Kd.R_reads (Kd.R_keep HO.out hk (fun k h => by omega))
      injection e with e1 e2 e3
      subst e1
      obtain ⟨bk, o, A0, c0, q1, q2, q3, q4⟩ := row_at hC j (by rw [List.length_map]; exact hj)
      rw [hgd, castsI_length] at q2 q3 q4
      exact ⟨bk, o, A0, c0, q1, q2, q3, q4⟩
    have k5 : KeepBut w5 w5 b2 none := ⟨Nat.le_refl _, fun _ _ _ _ => rfl⟩
    obtain ⟨bk, o, A0, c0, q1, q2, q3, q4⟩ := get w5 k5
    refine ⟨bk, o, A0, c0, q1, q3, fun W hk => ?_⟩
    obtain ⟨bk', o', A0', c0', r1, r2, r3, r4⟩ := get W hk
    rw [q1] at r1
    injection r1 with r1
    injection r1 with r1 r1'
    subst r1 r1'
    have hne : bk ≠ b2 := by
      have := HO.out.1 bk (by rw [q1]; rfl)
      omega
    have he : W.cell? ⟨bk, o + j, none⟩ = w5.cell? ⟨bk, o + j, none⟩ := World.cell?_of_block (hk.2 bk (World.block_lt_of_cell? w5 _ q2) hne (by simp))
    rw [he, q2] at r2
    injection r2 with r2
    injection r2 with r2 _ r2'
    subst r2 r2'
    exact ⟨by rw [he]; exact q2, r4⟩
  have ROWS := am rows
  have B12 := am hb12
  have K5 := am (show KeepBut w5 w5 b2 none from ⟨Nat.le_refl _, fun _ _ _ _ => rfl⟩)
  clear rows hb12 HO hcall HSZ4 G1
  go_wp2
  go_loopw [16] (fun v16 wr => ∃ j : Nat, j ≤ SN.length ∧ v16 = .int .i64 j ∧ Aside0 (MapAt wr b2 (mvs (ballAt l2) (SN.take j))) ∧ Aside0 (KeepBut w5 wr b2 none) ∧ Aside0 (Below w.heap.size w wr)) (fun v16 _ => SN.length - (intOf v16).toNat)
  case atStart => exact ⟨0, Nat.zero_le _, rfl, M5, K5, B5⟩
  case round =>
    obtain ⟨j, hj, rfl, Mr, Kr, Br⟩ := hrel
    by_cases hlt : j < SN.length
    · obtain ⟨bk, o, A0, c0, rfl, hc0, hat⟩ := ROWS.out j hlt
      have hcell := (hat wr Kr.out).1
      have hltI : (j : Int) < (SN.length : Int) := by omega
      have hstl := HLEN.out.2.2 SN[j] (List.getElem_mem hlt)
      have hmv := mvs_take (b := ballAt l2) hlt
      have hin := HSS.out SN[j] (List.getElem_mem hlt)
      generalize hst : SN[j] = st at *
      have HMV := am hmv
      have HAT := am hat
      have HIN := am hin
      have HSTL := am hstl
      have HJ := am hlt
      clear hmv hat hin hstl hst hj hlt
      go_wp2
      go_loopw [8, 22] (fun v8 v22 wq => ∃ i : Nat, i ≤ st.length ∧ v22 = .int .i64 i ∧ v8 = .int .i64 ((((st.take i).filter (ballAt l2)).length : Nat) : Int) ∧ Aside0 (MapAt wq b2 (mvs (ballAt l2) (SN.take j) ++ partM (ballAt l2) st i)) ∧ Aside0 (KeepBut w5 wq b2 none) ∧ Aside0 (Below w.heap.size w wq)) (fun _ v22 _ => st.length - (intOf v22).toNat)
      case atStart => exact ⟨0, Nat.zero_le _, rfl, rfl, ⟨by unfold partM; simp; exact Mr.out⟩, Kr, Br⟩
      case round =>
        obtain ⟨i, hi, rfl, rfl, Mq, Kq, Bq⟩ := hrel
        by_cases hlt2 : i < st.length
        · obtain ⟨_, hCq⟩ := HAT.out wr Kq.out
          obtain ⟨bo, oo, hA0, hbo, hcs⟩ := C_place (by rw [← castsI_length st] at hCq; exact hCq) (by rw [castsI_length]; omega)
          have x1 : wr.cell? ⟨bo, oo + i, none⟩ = some (.int .i64 ((st[i]'hlt2 : Nat) : Int)) := hcs i _ (castsI_getD st i hlt2)
          have hcnt := cnt_le (ballAt l2) st i
          have x2 : wr.cell? ⟨bo, oo + ((st.take i).filter (ballAt l2)).length, none⟩ = some (.int .i64 ((st.getD ((st.take i).filter (ballAt l2)).length 0 : Nat) : Int)) := hcs _ _ (by rw [castsI_getD st _ (by omega)]; rw [List.getD_eq_getElem?_getD, List.getElem?_eq_getElem (by omega)]; rfl)
          have hk := HIN.out _ (List.getElem_mem hlt2)
          have hYES := partM_yes (b := ballAt l2) hlt2
          have hNO := partM_no (b := ballAt l2) hlt2
          have htf := take_filter (b := ballAt l2) hlt2
          have Xr : wr.heap[b1]? = _ := (Kq.out.2 b1 (blk_lt X5.out) B12.out (by simp)).trans X5.out
          have z2 : wr.cell? ⟨b1, 2, none⟩ = some (.slice (some ⟨sb, so, none⟩) l2.length c2) := (blk_cell Xr 2).trans rfl
          have hmlen : (mvs (ballAt l2) (SN.take j) ++ partM (ballAt l2) st i).length < 200000 := by
            have h1 := mvs_len (ballAt l2) SN j
            have h2 := partM_len (ballAt l2) st i
            have h3 := HLEN.out.1
            have h4 := HSTL.out
            rw [List.length_append]
            omega
          generalize hcn : ((st.take i).filter (ballAt l2)).length = cnt at *
          generalize hki : st[i]'hlt2 = k at *
          generalize hto : st.getD cnt 0 = tq at *
          have src : wr.cell? ⟨sb, so + k, none⟩ = some (.int .u8 (l2.getD k 0)) := (Bq.out.cell (p := ⟨sb, so + k, none⟩) HSB.out).trans (HSC.out k _ (by rw [getD_at hk]; exact List.getElem?_eq_getElem hk))
          have hbb : isBallC (l2.getD k 0) = ballAt l2 k := rfl
          generalize l2.getD k 0 = c at *
          have hltI2 : (i : Int) < (st.length : Int) := by omega
          have hkI : (k : Int) < (l2.length : Int) := by omega
          have hcI : (cnt : Int) < (st.length : Int) := by omega
          subst hA0
          have hw1 : IntKind.i64.wrap ((i : Int) + 1) = ((i + 1 : Nat) : Int) := by rw [IntKind.wrap_i64]; have := HSTL.out; omega
          have hw2 : IntKind.i64.wrap ((cnt : Int) + 1) = ((cnt + 1 : Nat) : Int) := by rw [IntKind.wrap_i64]; have := HSTL.out; omega
          have wfk : (Lit.int .i64 ((k : Nat) : Int)).wf = true := WalkArith.wf_i64 (by have := HL.out; omega)
          have wft : (Lit.int .i64 ((tq : Nat) : Int)).wf = true := by
            have h1 : tq ∈ st := by
              rw [← hto, List.getD_eq_getElem?_getD, List.getElem?_eq_getElem (by omega)]; exact List.getElem_mem _
            have := HIN.out tq h1
            have := HL.out
            exact WalkArith.wf_i64 (by omega)
          obtain ⟨n, hnm, hown⟩ := Mq.out
          have hnx : n < maxLen := by unfold maxLen; omega
          have HOWN := am hown
          have HNM := am (And.intro hnm hnx)
          have WF := am (And.intro wfk wft)
          have HII := am (And.intro hi hlt2)
          have HTF := am htf
          have HYES := am hYES
          have HNO := am hNO
          have HBB := am hbb
          have HBO := am hbo
          have HCN := am hcn
          clear hi hlt2 hnm hnx hown wfk wft htf hYES hNO hcs hCq hcnt hk hmlen hcn hki hto Xr hbo
          cases hbt : ballAt l2 k with
          | true =>
            rw [hbt] at hbb
            go_wp2_with (first
              | (go_at_call 107; refine (hball c _).mono ?_; rw [hbb]; rintro e w6 ⟨rfl, hh, hb6⟩; have y2 : w6.cell? ⟨bo, oo + cnt, none⟩ = some (.int .i64 ((tq : Nat) : Int)) := (World.cell?_of_block (congrArg (fun h => h[bo]?) hh)).trans x2; have HH := am hh; have B6 := am (below_step Bq.out hb6); clear hh hb6 x1 x2 z2 src)
              | (at_mapUpdate; refine wpList_mapUpdate_own _ rfl _ _ _ 107 rfl 3 3 int_keys Tryz.underlying107 _ b2 n _ rfl (own_heap HOWN.out (congrArg (fun h => h[b2]?) HH.out)) HNM.out.2 _ _ _ rfl rfl (keyOf_int_mk Tryz.underlying3 WF.out.1) _ [] (plainElem_int Tryz.underlying3 WF.out.2) ?_; intro w7 hown7 hgrow7; have HO7 := am hown7; have HG7 := am hgrow7; clear hown7 hgrow7))
            go_roundw
            case rel => exact ⟨i + 1, by have := HII.out; omega, by first | rfl | simp, by rw [HTF.out, if_pos hbt, List.length_append, HCN.out]; first | rfl | simp, ⟨by rw [HYES.out hbt, ← List.append_assoc]; exact ⟨n + 1, by have := HNM.out.1; rw [List.length_append, List.length_singleton]; omega, by rw [mapOf_snoc]; exact HO7.out⟩⟩, ⟨Nat.le_trans Kq.out.1 (by rw [← HH.out]; exact HG7.out.size), fun q h1 h2 h3 => (HG7.out.block q (by rw [HH.out]; exact Nat.lt_of_lt_of_le h1 Kq.out.1) (by simpa using h2)).trans ((congrArg (fun h => h[q]?) HH.out).trans (Kq.out.2 q h1 h2 h3))⟩, ⟨B6.out.grown HG7.out B6.out.size (fun k hk => by cases hk; exact H2W.out)⟩⟩
            case measure => have := HII.out; simp [intOf]; omega
          | false =>
            rw [hbt] at hbb
            go_wp2_with (first
              | (go_at_call 107; refine (hball c _).mono ?_; rw [hbb]; rintro e w6 ⟨rfl, hh, hb6⟩; have HH := am hh; have B6 := am (below_step Bq.out hb6); clear hh hb6 x1 x2 z2 src))
            go_roundw
            case rel => exact ⟨i + 1, by have := HII.out; omega, by first | rfl | simp, by rw [HTF.out, if_neg (by rw [hbt]; exact Bool.false_ne_true), HCN.out], ⟨by rw [HNO.out hbt]; exact Mq.out.block (congrArg (fun h => h[b2]?) HH.out)⟩, ⟨by rw [HH.out]; exact Kq.out.1, fun q h1 h2 h3 => (congrArg (fun h => h[q]?) HH.out).trans (Kq.out.2 q h1 h2 h3)⟩, B6⟩
            case measure => have := HII.out; simp [intOf]; omega
        · have hge : ¬ (i : Int) < (st.length : Int) := by omega
          obtain rfl : i = st.length := by omega
          have M2 : Aside0 (MapAt wr b2 (mvs (ballAt l2) (SN.take (j + 1)))) := ⟨by rw [HMV.out]; exact Mq.out⟩
          have hw : IntKind.i64.wrap ((j : Int) + 1) = ((j + 1 : Nat) : Int) := by rw [IntKind.wrap_i64]; have := HLEN.out.2.1; have := HJ.out; omega
          go_wp2
          go_roundw
          case rel => exact ⟨j + 1, by have := HJ.out; omega, by first | rfl | simp, M2, Kq, Bq⟩
          case measure => have := HJ.out; simp [intOf]; omega
    · have hge : ¬ (j : Int) < (SN.length : Int) := by omega
      have M' := Mr.out
      rw [List.take_of_length_le (by omega)] at M'
      go_wp2
      go_ret
      exact ⟨b2, rfl, H2W.out, M', Br.out⟩
end Go.Proofs.YtdffgeoegdkiaaaGreatDoor

namespace Go.Proofs.YtdffgeoegdkiaaaGreatDoor
open Go.RowKit Go.Proofs.YtdffgeoegdkiaaaGreatDoorW.PrintWords Go.Proofs.YtdffgeoegdkiaaaGreatDoorW.PrintLast Go.Proofs.YtdffgeoegdkiaaaGreatDoorW.PrintMore Go.Lib Go.Shelf Go.Sort Go.Proofs.YtdffgeoegdkiaaaGreatDoor.F
attribute [local go_sem] max2_int min2_int
theorem putRow_heapE {α : Type} [Inhabited α] (enc : α → Value) (W : World) (n g off k : Nat) (d : Array α) : (putRow enc (Sort.ahead W n) g off d).heap[k]? = if g = k then (W.heap[k]?).map (onCells (putCells enc off d)) else W.heap[k]? := by
  unfold putRow mapBlock
  simp only [Array.getElem?_modify, heap_ahead]
theorem sortWorld_heap {α : Type} [Inhabited α] (enc : α → Value) (W : World) (g m k : Nat) (d : Array α) (os : Array Obj) (hk : k < W.heap.size) : (sortWorld enc W g 0 m d os).heap[k]? = if g = k then (W.heap[k]?).map (onCells (putCells enc 0 d)) else W.heap[k]? := by
  unfold sortWorld
  rw [heap_grow_old _ _ (by simpa [putRow, mapBlock] using hk), putRow_heapE]
theorem sortWorld_size {α : Type} [Inhabited α] (enc : α → Value) (W : World) (g m : Nat) (d : Array α) (os : Array Obj) : W.heap.size ≤ (sortWorld enc W g 0 m d os).heap.size := by
  unfold sortWorld Sort.grow putRow mapBlock
  simp
theorem sortWorld_below {α : Type} [Inhabited α] (enc : α → Value) {w W : World} (g m : Nat) (d : Array α) (os : Array Obj) (hW : Go.RowKit.Below w.heap.size w W) (hg : w.heap.size ≤ g) : Go.RowKit.Below w.heap.size w (sortWorld enc W g 0 m d os) := by
  have h : Go.RowKit.Below w.heap.size W (sortWorld enc W g 0 m d os) := ⟨rfl, rfl, rfl, sortWorld_size enc W g m d os, fun k hk => by
    rw [sortWorld_heap enc W g m k d os (Nat.lt_of_lt_of_le hk hW.size), if_neg (by omega)]⟩
  exact hW.trans h
theorem min_calls {A : Option Addr} {c : Nat} {l : List Int} {w : World} (h : Kd.C (Kd.int .i64) w A l.length l) (hne : l ≠ []) :
    Calls Tryz.prog 184 #[.slice A l.length c] w fun e w' => e = .returned (.int .i64 (Lib.minOf l)) ∧ w' = w := by
  have hpos : 0 < l.length := List.length_pos_iff.2 hne
  obtain ⟨b, o, rfl, hb, hc⟩ := C_place h hpos
  have := Tryz.slices_Min_int b o l.length c l w hpos (Nat.le_refl _) h.2.1 (fun j hj => by rw [hc j _ (List.getElem?_eq_getElem hj), getD_at hj])
  rwa [List.take_length] at this
theorem cmp_calls {A B : Option Addr} {c d : Nat} {l m : List Int} {w : World} (hl : Kd.C (Kd.int .i64) w A l.length l) (hm : Kd.C (Kd.int .i64) w B m.length m) (hle : l ≠ []) (hme : m ≠ []) (h1 : 0 ≤ Lib.minOf l ∧ Lib.minOf l < 65536) (h2 : 0 ≤ Lib.minOf m ∧ Lib.minOf m < 65536) :
    Calls Tryz.prog 183 #[.slice A l.length c, .slice B m.length d] w fun e w' => e = .returned (.int .i64 (Lib.minOf l - Lib.minOf m)) ∧ w' = w := by
  have c1 := min_calls (c := c) hl hle
  have c2 := min_calls (c := d) hm hme
  generalize Lib.minOf l = a at *
  generalize Lib.minOf m = b at *
  have hw : IntKind.i64.wrap (a - b) = a - b := by rw [IntKind.wrap_i64]; omega
  go_enter Tryz.func183, Tryz.ntmps183
  go_wp2_with (first
    | (go_at_call 184; refine c1.mono ?_; rintro e w' ⟨rfl, rfl⟩; clear c1)
    | (go_at_call 184; refine c2.mono ?_; rintro e w' ⟨rfl, rfl⟩))
  go_ret
  exact ⟨by first | rfl | rw [hw] | simp [hw], rfl⟩
theorem ext_all {α : Type} (a : Array α) {n : Nat} (h : a.size = n) : a.extract 0 n = a := by subst h; simp
theorem swo_key {n : Nat} (key : Fin n → Int) : SWO (ltOf fun i j : Fin n => key i - key j) :=
  ⟨fun x => by unfold ltOf; simp, fun x y z h1 h2 => by unfold ltOf at *; simp at *; omega, fun x y z h1 h2 => by unfold ltOf at *; simp at *; omega⟩
set_option maxHeartbeats 1000000 in
theorem sortfunc_calls {W : World} {base : Nat} {v : Value} {xs : List (List Int)} (h : Kd.R (Kd.slice 3 (Kd.int .i64)) 28 W base (fun _ => True) v xs) (hne : ∀ x ∈ xs, x ≠ []) (hlen : xs.length < 65536) (hv : ∀ x ∈ xs, 0 ≤ Lib.minOf x ∧ Lib.minOf x < 65536) :
    Calls Tryz.prog 182 #[v, .func (.func 183) #[] #[]] W fun e w' => e = .returned (.tuple #[]) ∧ ∃ ys, ys.Perm xs ∧ ys.Pairwise (fun a b => Lib.minOf a ≤ Lib.minOf b) ∧ Kd.R (Kd.slice 3 (Kd.int .i64)) 28 w' base (fun _ => True) v ys ∧ (∀ w : World, Go.RowKit.Below w.heap.size w W → w.heap.size ≤ base → Go.RowKit.Below w.heap.size w w') ∧ ∀ k, k < W.heap.size → some k ≠ v.ownBlock → w'.heap[k]? = W.heap[k]? := by
  rcases Nat.eq_zero_or_pos xs.length with hz | hpos
  · obtain rfl : xs = [] := List.eq_nil_of_length_eq_zero hz
    obtain ⟨A, c, hs⟩ := Kd.R_slice h
    subst hs
    refine (Tryz.slices_SortFunc_none (α := Nat) A c _ W).mono ?_
    rintro e w' ⟨rfl, rfl⟩
    exact ⟨rfl, [], List.Perm.refl _, List.Pairwise.nil, h, fun w hw _ => hw, fun k _ _ => rfl⟩
  · obtain ⟨h0, inner, ho, hr⟩ := h
    have hil : inner.length = xs.length := by have := hr.1; rw [show (Kd.slice 3 (Kd.int .i64)).sz = 1 from rfl, Nat.mul_one] at this; exact this
    obtain ⟨_, ⟨rfl, hx⟩ | ⟨g, cap, cur, rfl, hg, hrow, hcl, hcm, hsz, htk⟩⟩ := ho
    · rw [hx] at hil; simp at hil; omega
    · haveI : Inhabited (Fin xs.length) := ⟨⟨0, hpos⟩⟩
      obtain ⟨enc, henc⟩ : ∃ enc : Fin xs.length → Value, ∀ i, enc i = inner[i.1]'(by have := i.2; omega) := ⟨fun i => inner[i.1]'(by have := i.2; omega), fun _ => rfl⟩
      obtain ⟨key, hkey⟩ : ∃ key : Fin xs.length → Int, ∀ i, key i = Lib.minOf xs[i.1] := ⟨fun i => Lib.minOf xs[i.1], fun _ => rfl⟩
      obtain ⟨d0, hd0⟩ : ∃ d0 : Array (Fin xs.length), d0 = Array.ofFn id := ⟨_, rfl⟩
      have hds : d0.size = xs.length := by rw [hd0]; simp
      have hel : ∀ i : Fin xs.length, Kd.R (Kd.int .i64) 3 W base (fun k => True ∧ some k ≠ some g) (enc i) xs[i.1] := fun i => by
        obtain ⟨u, hu, hR⟩ := hr.2 i.1 _ (List.getElem?_eq_getElem i.2)
        have : enc i = u := by
          rw [henc]
          have e : (inner.drop (i.1 * 1)).take 1 = [inner[i.1]'(by have := i.2; omega)] := by
            rw [Nat.mul_one, List.drop_eq_getElem_cons (by have := i.2; omega), List.take_succ_cons]; rfl
          have hu' : (inner.drop (i.1 * 1)).take 1 = [u] := hu
          rw [e] at hu'
          injection hu'
        rw [this]; exact hR
      have hH : Holds enc W g 0 d0 := by
        intro j hj
        have hj' : j < xs.length := by omega
        have e1 : d0[j]! = ⟨j, hj'⟩ := by rw [getElem!_pos d0 j hj]; simp [hd0]
        rw [e1, henc]
        refine ⟨(blk_cell hrow (0 + j)).trans ?_, blk_frozen hrow _⟩
        rw [Nat.zero_add, ← Array.getElem?_toList]
        have : inner[j]? = cur.toList[j]? := by
          rw [← htk, show (Kd.slice 3 (Kd.int .i64)).sz = 1 from rfl, Nat.mul_one, List.getElem?_take, if_pos hj']
        rw [← this]
        exact List.getElem?_eq_getElem _
      have hcmp : CmpLays1 Tryz.prog 183 #[] enc (fun i j => key i - key j) g 0 d0.size W := by
        intro m os dk hs x y
        have at_ : ∀ i : Fin xs.length, ∃ A c, enc i = .slice A xs[i.1].length c ∧ Kd.C (Kd.int .i64) (sortWorld enc W g 0 m dk os) A xs[i.1].length xs[i.1] := fun i => by
          obtain ⟨A, c, e, _, hC⟩ := Kd.R_reads (Kd.R_step (hel i) (w1 := sortWorld enc W g 0 m dk os) (fun k hk hlt => by rw [sortWorld_heap enc W g m k dk os hlt, if_neg (fun e => hk.2 (by rw [e]))]))
          exact ⟨A, c, e, hC⟩
        obtain ⟨A, c, e1, C1⟩ := at_ x
        obtain ⟨B, d, e2, C2⟩ := at_ y
        have m1 := List.getElem_mem x.2
        have m2 := List.getElem_mem y.2
        show Calls _ _ (#[enc x, enc y] ++ #[]) _ _
        rw [e1, e2]
        refine (cmp_calls C1 C2 (hne _ m1) (hne _ m2) (hv _ m1) (hv _ m2)).mono ?_
        rintro e w' ⟨rfl, rfl⟩
        exact ⟨by show _ = Ending.returned (Value.int .i64 (key x - key y)); rw [hkey, hkey], 0, #[], by rw [grow_empty]; rfl⟩
      have eg : ∀ args w, (callFunc 183 args).run Tryz.prog w = .ok (.enter 183 args) w := enters_of Tryz.func183 (by kernel_rfl) rfl
      have h1 : OneCell enc := fun i => by
        obtain ⟨A, c, e⟩ := Kd.R_slice (hel i)
        rw [e]; rfl
      have main := Tryz.slices_SortFunc enc h1 (fun i j => key i - key j) (swo_key key) 183 #[] g 0 cap d0 W eg hcmp hH (blk_lt hrow) (by omega)
      rw [hds] at main
      refine main.mono ?_
      rintro e w' ⟨he, d', n', os, hp, hs, rfl⟩
      have hd' : d'.size = xs.length := by rw [hp.1, hds]
      refine ⟨he, d'.toList.map fun i => xs[i.1], ?_, ?_, ?_, fun w hw hb => sortWorld_below enc g n' d' os hw (Nat.le_trans hb hg), fun k hk hne => by rw [sortWorld_heap enc W g n' k d' os hk, if_neg (fun e => hne (by rw [e]; rfl))]⟩
      · have h2 := hp.2.2
        rw [ext_all d' hd', ext_all d0 hds] at h2
        refine (h2.map _).trans (List.Perm.of_eq ?_)
        subst hd0
        apply List.ext_getElem
        · simp
        · intro i h1 h2; simp
      · rw [List.pairwise_map, List.pairwise_iff_getElem]
        intro i j hi hj hij
        have := hs i j (Nat.zero_le _) hij (by simpa [hd'] using hj)
        rw [getElem!_pos d' i (by simpa using hi), getElem!_pos d' j (by simpa using hj)] at this
        unfold ltOf at this
        simp only [decide_eq_false_iff_not, hkey] at this
        simp only [Array.getElem_toList]
        omega
      · have hyl : (d'.toList.map fun i : Fin xs.length => xs[i.1]).length = xs.length := by rw [List.length_map, Array.length_toList, hd']
        refine ⟨fun _ _ => trivial, d'.toList.map enc, ?_, ?_, ?_⟩
        · rw [hyl]
          refine ⟨by rw [List.length_map, Array.length_toList, hd', show (Kd.slice 3 (Kd.int .i64)).sz = 1 from rfl, Nat.mul_one], .inr ⟨g, cap, putCells enc 0 d' cur, rfl, hg, ?_, hcl, hcm, ?_, ?_⟩⟩
          · rw [sortWorld_heap enc W g n' g d' os (blk_lt hrow), if_pos rfl, hrow]; rfl
          · rw [← hsz]; unfold putCells; simp
          · rw [show (Kd.slice 3 (Kd.int .i64)).sz = 1 from rfl, Nat.mul_one] at hsz ⊢
            unfold putCells
            apply List.ext_getElem
            · simp [hd']; omega
            · intro i h1 h2
              have hi : i < d'.size := by simpa using h2
              simp [hi]
        · rw [List.length_map, List.length_map, show (Kd.slice 3 (Kd.int .i64)).sz = 1 from rfl, Nat.mul_one]
        · intro j p hj
          rw [List.getElem?_map, Option.map_eq_some_iff] at hj
          obtain ⟨i, hi, rfl⟩ := hj
          obtain ⟨hjl, hji⟩ := List.getElem?_eq_some_iff.1 hi
          refine ⟨enc i, ?_, Kd.R_step (hel i) (fun k hk hlt => by rw [sortWorld_heap enc W g n' k d' os hlt, if_neg (fun e => hk.2 (by rw [← e]; rfl))])⟩
          rw [show (Kd.slice 3 (Kd.int .i64)).sz = 1 from rfl, Nat.mul_one, List.drop_eq_getElem_cons (by simpa using hjl), List.take_succ_cons, List.take_zero, List.getElem_map, hji]
end Go.Proofs.YtdffgeoegdkiaaaGreatDoor

namespace Go.Proofs.YtdffgeoegdkiaaaGreatDoor.F
open Go.Proofs.YtdffgeoegdkiaaaGreatDoor
open Go.RowKit Go.Proofs.YtdffgeoegdkiaaaGreatDoorW.PrintWords Go.Proofs.YtdffgeoegdkiaaaGreatDoorW.PrintLast Go.Proofs.YtdffgeoegdkiaaaGreatDoorW.PrintMore
attribute [local go_sem] max2_int min2_int max_two min_two max_three min_three max_four min_four
mutual
def impl_tray_strI.l0 : Nat → List (List Int) → List (List Int) → Int → Int → Int → Int → List Int → Option ((List (List Int)))
 | 0, _, _, _, _, _, _, _ => none
 | k + 1, x5, x14, x15, x16, x102000, x102001, x102002 => if x16 < x15 then (if 0 ≤ x16 then (if x16 < (x14.length : Int) then (impl_tray_strI.l1 k x5 (([] : List Int)) x14 x15 x16 (rd_L3 x14 x16) ((rd_L3 x14 x16).length : Int) 0 x102000 x102001 x102002) else (none)) else (none)) else (some x5)
def impl_tray_strI.l1 : Nat → List (List Int) → List Int → List (List Int) → Int → Int → List Int → Int → Int → Int → Int → List Int → Option ((List (List Int)))
 | 0, _, _, _, _, _, _, _, _, _, _, _ => none
 | k + 1, x5, x8, x14, x15, x16, x21, x22, x23, x102000, x102001, x102002 => if x23 < x22 then (if 0 ≤ x23 then (if x23 < (x21.length : Int) then (if 0 ≤ (rd x21 x23) then (if (rd x21 x23) < (x102002.length : Int) then (if (rd x102002 (rd x21 x23)) = 35 then (if (x8.length : Int) > 0 then (if x5.length < 5864062014805 then (impl_tray_strI.l1 k (x5 ++ [x8]) ([] : List Int) x14 x15 x16 x21 x22 (wrap64 (x23 + 1)) x102000 x102001 x102002) else (none)) else (impl_tray_strI.l1 k x5 x8 x14 x15 x16 x21 x22 (wrap64 (x23 + 1)) x102000 x102001 x102002)) else (if x8.length < 17592186044416 then (impl_tray_strI.l1 k x5 (x8 ++ [rd x21 x23]) x14 x15 x16 x21 x22 (wrap64 (x23 + 1)) x102000 x102001 x102002) else (none))) else (none)) else (none)) else (none)) else (none)) else (if (x8.length : Int) > 0 then (if x5.length < 5864062014805 then (impl_tray_strI.l0 k (x5 ++ [x8]) x14 x15 (wrap64 (x16 + 1)) x102000 x102001 x102002) else (none)) else (impl_tray_strI.l0 k x5 x14 x15 (wrap64 (x16 + 1)) x102000 x102001 x102002))
end
def impl_tray_strI.f (k : Nat) (a0_0 : Int) (a0_1 : Int) (l0_2 : List Int) (a1 : Int) : Option ((List (List Int))) := (impl_tray_lines.f k a0_0 a0_1 l0_2 a1).bind fun t105 => (impl_tray_strI.l0 k (([] : List (List Int))) t105 (t105.length : Int) 0 a0_0 a0_1 l0_2)
theorem impl_tray_strI.mono_l : ∀ k, (∀ y0 y1 y2 y3 y4 y5 y6, LeO (impl_tray_strI.l0 k y0 y1 y2 y3 y4 y5 y6) (impl_tray_strI.l0 (k + 1) y0 y1 y2 y3 y4 y5 y6)) ∧ (∀ y0 y1 y2 y3 y4 y5 y6 y7 y8 y9 y10, LeO (impl_tray_strI.l1 k y0 y1 y2 y3 y4 y5 y6 y7 y8 y9 y10) (impl_tray_strI.l1 (k + 1) y0 y1 y2 y3 y4 y5 y6 y7 y8 y9 y10))
 | 0 => ⟨fun _ _ _ _ _ _ _ r h => by simp [impl_tray_strI.l0] at h, fun _ _ _ _ _ _ _ _ _ _ _ r h => by simp [impl_tray_strI.l1] at h⟩
 | k + 1 => by
  obtain ⟨ih0, ih1⟩ := impl_tray_strI.mono_l k
  refine ⟨?_, ?_⟩
  ·intro y0 y1 y2 y3 y4 y5 y6
   unfold impl_tray_strI.l0
   have im0 := @impl_tray_lines.mono; exact mo
  ·intro y0 y1 y2 y3 y4 y5 y6 y7 y8 y9 y10
   unfold impl_tray_strI.l1
   have im0 := @impl_tray_lines.mono; exact mo
set_option maxHeartbeats 8000000 in
set_option maxRecDepth 100000 in
theorem impl_tray_strI.calls (k : Nat) (a0_0 : Int) (a0_1 : Int) (A0_2 : Option Addr) (c0_2 : Nat) (l0_2 : List Int) (a1 : Int) (r : List (List Int)) (w : World) (hr0_2 : Kd.C (Kd.int .u8) w A0_2 l0_2.length l0_2) (hc0_2 : l0_2.length ≤ c0_2) (hne_ : ∀ x ∈ r, x ≠ []) (hlen_ : r.length < 65536) (hv_ : ∀ x ∈ r, 0 ≤ Go.Lib.minOf x ∧ Go.Lib.minOf x < 65536) (h : impl_tray_strI.f k a0_0 a0_1 l0_2 a1 = some r) :
  Calls Tryz.prog 151 #[.agg #[.int .i64 a0_0, .int .i64 a0_1, .slice A0_2 l0_2.length c0_2], .int .u8 a1] w fun e w' => ∃ v0_ : Value, e = .returned (v0_) ∧ (∃ ys, ys.Perm r ∧ ys.Pairwise (fun a b => Go.Lib.minOf a ≤ Go.Lib.minOf b) ∧ Kd.R (Kd.slice 3 (Kd.int .i64)) 28 w' w.heap.size (fun _ => True) v0_ ys) ∧ Below w.heap.size w w' := by
 have HP_ := am (And.intro hne_ (And.intro hlen_ hv_))
 clear hne_ hlen_ hv_
 have hu93 := Tryz.underlying93
 have HR0_2 := am hr0_2
 have HC0_2 := am hc0_2
 clear hr0_2 hc0_2
 have HB := am (Below.refl w.heap.size w)
 have H : ((impl_tray_lines.f k a0_0 a0_1 l0_2 a1).bind fun t105 => (impl_tray_strI.l0 k (([] : List (List Int))) t105 (t105.length : Int) 0 a0_0 a0_1 l0_2)) = some r := h
 clear h
 obtain ⟨y102, hy_⟩ : ∃ y_ : List (List Int), y_ = (([] : List (List Int))) := ⟨_, rfl⟩
 replace H : ((impl_tray_lines.f k a0_0 a0_1 l0_2 a1).bind fun t105 => (impl_tray_strI.l0 k y102 t105 (t105.length : Int) 0 a0_0 a0_1 l0_2)) = some r := aq3
 have Ny102 := am hy_
 clear hy_
 obtain ⟨t105, A30, H⟩ := Option.bind_eq_some_iff.mp H
 have A3 := am A30
 clear A30
 have H' := am H
 clear H
 go_enter Tryz.func151, Tryz.ntmps151
 go_wp2_with (first | ((with_reducible refine gate_dst (N := 2) rfl ?_); refine box_event ?hg (N := 2) ?hd (cs := #[.int .i64 a0_0, .int .i64 a0_1, .slice A0_2 l0_2.length c0_2]) (t := 93) ?hr ?_; (case hd => rfl); (case hg => rfl); (case hr => exact aq16); intro gb101 hg w4 hbox hb; have n0_ := am (below_step aq1 hb); have n1_ := am (hbox); have n2_ := am ((by rw [hg]; exact (below_size aq1) : w.heap.size ≤ gb101)); have n3_ := am ((by rw [hg]; exact (below_size aq1) : w.heap.size ≤ gb101)); clear HB; have HB := n0_; have BK101 := n1_; have GW101 := n2_; have GE101 := n3_; clear n0_ n1_ n2_ n3_; clear hb hbox hg) | ((with_reducible refine gate_dst (N := 11) rfl ?_); refine Kd.S_lit (Kd.slice 3 (Kd.int .i64)) _ 28 ?hg (N := 11) ?hd (xs := ([] : List (List Int))) (inner := []) (ok := fun _ => True) (okp := fun _ => True) ?hr ?hp (fun _ hk => hk) trivial (Below.refl _ _) (Nat.le_refl _) (by simp) ?_; (case hd => rfl); (case hg => rfl); (case hr => exact aq16); (case hp => exact (Reps.none _ _)); intro v103 w5 ho6 hb hg_ hnew_; clear hg_ hnew_; (first | rw [← Ny102.out] at ho6 | (simp only [Int.reduceToNat] at ho6; rw [← Ny102.out] at ho6)); have n0_ := am (Kd.S_lower ho6 (below_size aq0)); have n1_ := am (blk_below (g := gb101) (o := .cells #[.int .i64 a0_0, .int .i64 a0_1, .slice A0_2 l0_2.length c0_2] 93 (0, 0)) aq2 hb); have n2_ := am (below_step aq0 hb); clear BK101; clear HB; have HO104 := n0_; have BK101 := n1_; have HB := n2_; clear n0_ n1_ n2_; clear hb ho6; obtain ⟨hcz7_0, hcz7_1, hcz7_2, hfz7_0, hfz7_1, hfz7_2⟩ := blk3_ BK101.out) | ((with_reducible refine gate_callee (f := 181) rfl ?_); refine goesL_ (some 14) rfl rfl Tryz.func181 (by kernel_rfl) rfl #[.agg #[.int .i64 a0_0, .int .i64 a0_1, .slice A0_2 l0_2.length c0_2], .int .u8 a1] rfl aq5 ?_; (with_reducible refine (impl_tray_lines.calls k a0_0 a0_1 _ _ l0_2 a1 t105 _ ?side1 ?side2 A3.out).mono ?_); (case side1 => exact aq9); (case side2 => exact HC0_2.out); rintro e w8 ⟨v106, rfl, ho0, hb⟩; refine ⟨_, rfl, ?_⟩; have n0_ := am (Kd.S_elder' aq71 (Kd.S_base ho0) hb); have n1_ := am (Kd.S_lower (Kd.S_new' ho0 (Kd.S_lt aq71)) (below_size aq0)); have n2_ := am (blk_below (g := gb101) (o := .cells #[.int .i64 a0_0, .int .i64 a0_1, .slice A0_2 l0_2.length c0_2] 93 (0, 0)) aq2 hb); have n3_ := am (below_step aq0 hb); clear HO104; clear BK101; clear HB; have HO104 := n0_; have HO107 := n1_; have BK101 := n2_; have HB := n3_; clear n0_ n1_ n2_ n3_; (try clear hb); (try clear hb2); (try clear hk); (try clear hi); (try clear ho0); obtain ⟨Ao9, co9, eo9⟩ := Kd.S_slice HO107.out; subst eo9))
 go_loopg [5, 16] k (fun kq v5 v16 w' => ∃ (x5_1 : List (List Int)) (x16_1 : Int), v16 = .int .i64 x16_1 ∧ Aside0 (impl_tray_strI.l0 kq x5_1 t105 (t105.length : Int) x16_1 a0_0 a0_1 l0_2 = some r) ∧ Aside0 (kq ≤ k) ∧ Aside0 (Kd.S (Kd.slice 3 (Kd.int .i64)) 28 w' w.heap.size (fun k_ => some k_ ≠ ((.slice Ao9 t105.length co9) : Value).ownBlock) v5 x5_1) ∧ Aside0 (Kd.S (Kd.slice 3 (Kd.int .i64)) 28 w' w.heap.size (fun k_ => some k_ ≠ (v5 : Value).ownBlock) (.slice Ao9 t105.length co9) t105) ∧ Aside0 (w'.heap[gb101]? = some (.cells #[.int .i64 a0_0, .int .i64 a0_1, (.slice A0_2 l0_2.length c0_2)] 93 (0, 0))) ∧ Aside0 (Below w.heap.size w w'))
 case atStart => exact ⟨(y102), (0), aq7, H', ⟨Nat.le_refl _⟩, ⟨by (with_reducible repeat (first | apply Kd.S_alloc | apply Kd.S_drewN | apply Kd.S_drew)); exact Kd.S_mono HO104.out (fun _ hk => hk.2)⟩, ⟨by (with_reducible repeat (first | apply Kd.S_alloc | apply Kd.S_drewN | apply Kd.S_drew)); exact Kd.S_mono HO107.out (fun _ hk => hk.2)⟩, ⟨aq2⟩, ⟨aq0⟩⟩
 case round =>
  clear H'
  try clear c1
  try clear p2
  try clear hcz7_0
  try clear hcz7_1
  try clear hcz7_2
  try clear hfz7_0
  try clear hfz7_1
  try clear hfz7_2
  obtain ⟨x5_1, x16_1, rfl, HA, HK1, HO_5, HO_14, BK101, HB⟩ := hrel
  cases gk with
  | zero => exact absurd HA.out (by simp [impl_tray_strI.l0])
  | succ k1 =>
   have H := HA.out
   clear HA
   simp only [impl_tray_strI.l0] at H
   by_cases c10 : x16_1 < (t105.length : Int)
   ·rw [if_pos c10] at H
    have c10b0 := decide_eq_true c10
    clear c10
    by_cases c11 : 0 ≤ x16_1
    ·rw [if_pos c11] at H
     have c11b0 := decide_eq_true c11
     clear c11
     by_cases c12 : x16_1 < (t105.length : Int)
     ·rw [if_pos c12] at H
      have c12b0 := decide_eq_true c12
      clear c12
      obtain ⟨y109, hy_⟩ : ∃ y_ : List Int, y_ = (([] : List Int)) := ⟨_, rfl⟩
      replace H : (impl_tray_strI.l1 k1 x5_1 y109 t105 (t105.length : Int) x16_1 (rd_L3 t105 x16_1) ((rd_L3 t105 x16_1).length : Int) 0 a0_0 a0_1 l0_2) = some r := aq3
      have Ny109 := am hy_
      clear hy_
      have H' := am H
      clear H
      have p108 : 0 ≤ (x16_1 : Int) := of_decide_eq_true aq4
      have q108 : x16_1 < (t105.length : Int) := of_decide_eq_true aq4
      obtain ⟨ad108, A108_0, c108_0, e108, hx108_0, hl108_0, hi108_0⟩ := at_L3 (Kd.S_reads' HO_14.out).2.2 x16_1 p108 q108
      cases e108
      obtain ⟨ce108, hce108, hMe108, hcc108⟩ := Kd.S_get HO_14.out [] x16_1 p108 (by first | exact q108 | exact of_decide_eq_true aq4 | (have e_ := (Kd.S_reads' HO_14.out).1; omega))
      obtain ⟨ve108_0, rfl, ge108_0⟩ := hMe108
      have hv108_0 := hcc108 0 _ rfl
      rw [Nat.add_zero, show ((Kd.slice 3 (Kd.int .i64))).sz = 1 from rfl, Nat.mul_one] at hv108_0
      replace hv108_0 := Option.some.inj (hv108_0.symm.trans hx108_0)
      rw [hv108_0] at ge108_0
      have HL108_0 := am (show Kd.R (Kd.int .i64) 3 _ _ _ _ (rd_L3 t105 x16_1) from ge108_0)
      clear hv108_0 ge108_0
      clear hcc108 hce108
      have HR108_0 := am hi108_0
      have HC108_0 := am hl108_0
      clear hi108_0 hl108_0
      replace p108 := eq_true p108
      replace q108 := eq_true q108
      go_wp2_with (first | ((with_reducible refine gate_dst (N := 20) rfl ?_); refine Kd.R_lit (Kd.int .i64) _ 3 ?hg (N := 20) ?hd (xs := ([] : List Int)) (inner := []) (ok := fun _ => True) (okp := fun _ => True) ?hr ?hp (fun _ hk => hk) trivial (Below.refl _ _) (Nat.le_refl _) (by simp) ?_; (case hd => rfl); (case hg => rfl); (case hr => exact aq16); (case hp => exact (Reps.none _ _)); intro v110 w13 ho14 hb hg_ hnew_; clear hg_ hnew_; (first | rw [← Ny109.out] at ho14 | (simp only [Int.reduceToNat] at ho14; rw [← Ny109.out] at ho14)); have n0_ := am (Kd.S_elder' aq24 (Kd.R_base ho14) hb); have n1_ := am (Kd.S_elder' aq44 (Kd.R_base ho14) hb); have n2_ := am (Kd.R_elder' (by (with_reducible repeat (first | apply Kd.R_alloc | apply Kd.R_drewN | apply Kd.R_drew)); exact HL108_0.out) (Kd.R_base ho14) hb); have n3_ := am (Kd.R_lower (Kd.R_new' ho14 (Kd.R_lt (by (with_reducible repeat (first | apply Kd.R_alloc | apply Kd.R_drewN | apply Kd.R_drew)); exact HL108_0.out))) (below_size aq0)); have n4_ := am (blk_below (g := gb101) (o := .cells #[.int .i64 a0_0, .int .i64 a0_1, .slice A0_2 l0_2.length c0_2] 93 (0, 0)) aq2 hb); have n5_ := am (Kd.C_below (by repeat (first | (with_reducible exact HR108_0.out) | (with_reducible refine Kd.C_alloc ?_ _) | (with_reducible refine Kd.C_drewN ?_ _) | (with_reducible refine Kd.C_drew ?_) | exact HR108_0.out)) hb); have n6_ := am (below_step aq0 hb); clear HO_5; clear HO_14; clear HL108_0; clear BK101; clear HR108_0; clear HB; have HO_5 := n0_; have HO_14 := n1_; have HL108_0 := n2_; have HO111 := n3_; have BK101 := n4_; have HR108_0 := n5_; have HB := n6_; clear n0_ n1_ n2_ n3_ n4_ n5_ n6_; clear hb ho14))
      go_loopg [5, 8, 23] k1 (fun kq v5 v8 v23 w' => ∃ (x5_2 : List (List Int)) (x8_2 : List Int) (x23_2 : Int), v23 = .int .i64 x23_2 ∧ Aside0 (impl_tray_strI.l1 kq x5_2 x8_2 t105 (t105.length : Int) x16_1 (rd_L3 t105 x16_1) ((rd_L3 t105 x16_1).length : Int) x23_2 a0_0 a0_1 l0_2 = some r) ∧ Aside0 (kq ≤ k1) ∧ Aside0 (Kd.S (Kd.slice 3 (Kd.int .i64)) 28 w' w.heap.size (fun k_ => some k_ ≠ (v8 : Value).ownBlock ∧ some k_ ≠ ((.slice (some ad108) t105.length co9) : Value).ownBlock) v5 x5_2) ∧ Aside0 (Kd.R (Kd.int .i64) 3 w' w.heap.size (fun _ => True) v8 x8_2) ∧ Aside0 (Kd.S (Kd.slice 3 (Kd.int .i64)) 28 w' w.heap.size (fun k_ => some k_ ≠ (v5 : Value).ownBlock ∧ some k_ ≠ (v8 : Value).ownBlock) (.slice (some ad108) t105.length co9) t105) ∧ Aside0 (w'.heap[gb101]? = some (.cells #[.int .i64 a0_0, .int .i64 a0_1, (.slice A0_2 l0_2.length c0_2)] 93 (0, 0))) ∧ Aside0 (Below w.heap.size w w') ∧ Aside0 (Kd.R (Kd.int .i64) 3 w' w.heap.size (fun k_ => some k_ ≠ (v5 : Value).ownBlock ∧ some k_ ≠ (v8 : Value).ownBlock) (.slice A108_0 (rd_L3 t105 x16_1).length c108_0) (rd_L3 t105 x16_1)))
      case atStart => exact ⟨(x5_1), (y109), (0), aq7, H', ⟨Nat.le_refl _⟩, ⟨aq75⟩, ⟨by (with_reducible repeat (first | apply Kd.R_alloc | apply Kd.R_drewN | apply Kd.R_drew)); exact Kd.R_mono HO111.out (fun _ hk => trivial)⟩, ⟨aq44⟩, ⟨aq2⟩, ⟨aq0⟩, ⟨by first | exact Kd.R_mono HL108_0.out (fun _ hk => ⟨hk.1.1, hk.2⟩) | exact Kd.R_mono HL108_0.out (fun _ hk => ⟨hk.1.1.1, hk.2⟩)⟩⟩
      case round =>
       clear H'
       try clear c1
       try clear p1
       try clear q1
       try clear hx1
       try clear p2
       try clear c10
       try clear c10b0
       try clear p10
       try clear q10
       try clear hx10
       try clear c11
       try clear c11b0
       try clear c12
       try clear c12b0
       try clear hcz7_0
       try clear hcz7_1
       try clear hcz7_2
       try clear hfz7_0
       try clear hfz7_1
       try clear hfz7_2
       try clear hx108_0
       try clear p108
       try clear p2
       try clear q108
       obtain ⟨x5_2, x8_2, x23_2, rfl, HA, HK2, HO_5, HO_8, HO_14, BK101, HB, HLq⟩ := hrel
       cases gk with
       | zero => exact absurd HA.out (by simp [impl_tray_strI.l1])
       | succ k2 =>
        have H := HA.out
        clear HA
        simp only [impl_tray_strI.l1] at H
        by_cases c15 : x23_2 < ((rd_L3 t105 x16_1).length : Int)
        ·rw [if_pos c15] at H
         have c15b0 := decide_eq_true c15
         clear c15
         by_cases c16 : 0 ≤ x23_2
         ·rw [if_pos c16] at H
          have c16b0 := decide_eq_true c16
          clear c16
          by_cases c17 : x23_2 < ((rd_L3 t105 x16_1).length : Int)
          ·rw [if_pos c17] at H
           have c17b0 := decide_eq_true c17
           clear c17
           by_cases c18 : 0 ≤ (rd (rd_L3 t105 x16_1) x23_2)
           ·rw [if_pos c18] at H
            have c18b0 := decide_eq_true c18
            clear c18
            by_cases c19 : (rd (rd_L3 t105 x16_1) x23_2) < (l0_2.length : Int)
            ·rw [if_pos c19] at H
             have c19b0 := decide_eq_true c19
             clear c19
             by_cases c20 : (rd l0_2 (rd (rd_L3 t105 x16_1) x23_2)) = 35
             ·rw [if_pos c20] at H
              have c20b0 := beq_iff_eq.mpr c20
              have c20b1 := bne_eq_false_iff_eq.mpr c20
              clear c20
              by_cases c21 : (x8_2.length : Int) > 0
              ·rw [if_pos c21] at H
               have c21b0 := decide_eq_true c21
               have c21b1 : decide (0 < x8_2.length) = true := decide_eq_true (by omega)
               clear c21
               by_cases c22 : x5_2.length < 5864062014805
               ·rw [if_pos c22] at H
                have LMc22 := am c22
                clear c22
                obtain ⟨y117, hy_⟩ : ∃ y_ : List (List Int), y_ = (x5_2 ++ [x8_2]) := ⟨_, rfl⟩
                replace H : (impl_tray_strI.l1 k2 y117 ([] : List Int) t105 (t105.length : Int) x16_1 (rd_L3 t105 x16_1) ((rd_L3 t105 x16_1).length : Int) (wrap64 (x23_2 + 1)) a0_0 a0_1 l0_2) = some r := aq3
                have Ny117 := am hy_
                clear hy_
                have H' := am H
                clear H
                have p115 : 0 ≤ (x23_2 : Int) := of_decide_eq_true aq4
                have q115 : x23_2 < ((rd_L3 t105 x16_1).length : Int) := of_decide_eq_true aq4
                obtain ⟨ad115, e115, hx115_0⟩ := Kd.at_int (Kd.R_reads' HLq.out).2.2 x23_2 p115 q115
                cases e115
                try replace hx115_0 := (HB.out.cell (World.block_lt_of_cell? w _ hx115_0)).trans hx115_0
                replace p115 := eq_true p115
                replace q115 := eq_true q115
                obtain ⟨hcz23_0, hcz23_1, hcz23_2, hfz23_0, hfz23_1, hfz23_2⟩ := blk3_ BK101.out
                have p116 : 0 ≤ ((rd (rd_L3 t105 x16_1) x23_2) : Int) := of_decide_eq_true aq4
                have q116 : (rd (rd_L3 t105 x16_1) x23_2) < (l0_2.length : Int) := of_decide_eq_true aq4
                obtain ⟨ad116, e116, hx116_0⟩ := Kd.at_int HR0_2.out (rd (rd_L3 t105 x16_1) x23_2) p116 q116
                cases e116
                try replace hx116_0 := (HB.out.cell (World.block_lt_of_cell? w _ hx116_0)).trans hx116_0
                replace p116 := eq_true p116
                replace q116 := eq_true q116
                obtain ⟨Ao24, co24, eo24⟩ := Kd.R_slice HO_8.out
                subst eo24
                go_wp2_with (first | ((with_reducible refine gate_builtin (b := .append) (xs := #[.tmp 40, .tmp 42]) rfl ?_); at_builtin; refine Kd.S_append (Kd.slice 3 (Kd.int .i64)) (w0 := w) w.heap.size rfl (.tmp 40) (.tmp 42) 40 28 (.slice none 0 0) 24 rfl Tryz.underlying40 info28 rfl (by decide) (by omega) u5 x5_2 x8_2 [.slice Ao24 x8_2.length co24] (fun k_ => some k_ ≠ (.slice (some ad108) t105.length co9 : Value).ownBlock) (fun k_ => some k_ = (.slice Ao24 x8_2.length co24 : Value).ownBlock) rfl rfl ?aP (fun k_ hk_ => ((Kd.R_mono (ok' := fun k_ => ((fun k_ => some k_ ≠ (.slice (some ad108) t105.length co9 : Value).ownBlock)) k_ ∧ some k_ ≠ (u5 : Value).ownBlock) (Kd.R_apart' (Kd.R_apart' (HO_8.out) (Kd.S_typed HO_14.out) (by decide)) (Kd.S_typed HO_5.out) (by decide)) (fun k_ hk => ⟨hk.1.2, hk.2⟩))).1 k_ hk_.symm) ?aF ?aO ?aB ?aS ?aL ?_; (case aP => exact aq69); (case aB => exact aq0); (case aF => exact (fun k_ hk => Kd.fresh' (Kd.S_lt aq44) k_ hk)); (case aO => exact aq94); (case aS => exact aq78); (case aL => have := LMc22.out; omega); intro v118 w25 ho hb hg hat; rw [← Ny117.out] at ho; have n0_ := am (Kd.S_after (ok := (fun k_ => some k_ ≠ (.slice Ao24 x8_2.length co24 : Value).ownBlock)) aq102 hg hat); have n1_ := am (blk_grown (g := gb101) (o := .cells #[.int .i64 a0_0, .int .i64 a0_1, .slice (some ad116) l0_2.length c0_2] 93 (0, 0)) aq2 hg (Kd.S_ne HO_5.out BK101.out (by decide))); have n2_ := am (hb); have n3_ := am (ho); have nq_ := am (Kd.R_after (ok := (fun k_ => some k_ ≠ (.slice Ao24 x8_2.length co24 : Value).ownBlock)) (Kd.R_mono HLq.out (fun _ hk => ⟨hk.2, hk.1⟩)) hg hat); clear HLq; have HLq := nq_; clear nq_; clear HO_14; clear BK101; clear HB; clear HO_5; clear HO_8; have HO_14 := n0_; have BK101 := n1_; have HB := n2_; have HO119 := n3_; clear n0_ n1_ n2_ n3_; clear ho hb hg hat))
                go_roundg k2
                case measure => have := HK1.out; have := HK2.out; omega
                case rel => exact ⟨(y117), (([] : List Int)), (wrap64 (x23_2 + 1)), aq7, H', ⟨aq64⟩, ⟨by (with_reducible repeat (first | apply Kd.S_alloc | apply Kd.S_drewN | apply Kd.S_drew)); exact Kd.S_mono HO119.out (fun _ hk => ⟨(by simp [Value.ownBlock]), hk⟩)⟩, ⟨aq23⟩, ⟨by (with_reducible repeat (first | apply Kd.S_alloc | apply Kd.S_drewN | apply Kd.S_drew)); exact Kd.S_mono HO_14.out (fun _ hk => ⟨hk.2, (by simp [Value.ownBlock])⟩)⟩, ⟨aq2⟩, ⟨aq0⟩, ⟨aq74⟩⟩
               ·rw [if_neg c22] at H
                exact absurd H (by simp)
              ·rw [if_neg c21] at H
               have c21b0 := decide_eq_false c21
               have c21b1 : decide (0 < x8_2.length) = false := decide_eq_false (by omega)
               clear c21
               have H' := am H
               clear H
               have p115 : 0 ≤ (x23_2 : Int) := of_decide_eq_true aq4
               have q115 : x23_2 < ((rd_L3 t105 x16_1).length : Int) := of_decide_eq_true aq4
               obtain ⟨ad115, e115, hx115_0⟩ := Kd.at_int (Kd.R_reads' HLq.out).2.2 x23_2 p115 q115
               cases e115
               try replace hx115_0 := (HB.out.cell (World.block_lt_of_cell? w _ hx115_0)).trans hx115_0
               replace p115 := eq_true p115
               replace q115 := eq_true q115
               obtain ⟨hcz26_0, hcz26_1, hcz26_2, hfz26_0, hfz26_1, hfz26_2⟩ := blk3_ BK101.out
               have p116 : 0 ≤ ((rd (rd_L3 t105 x16_1) x23_2) : Int) := of_decide_eq_true aq4
               have q116 : (rd (rd_L3 t105 x16_1) x23_2) < (l0_2.length : Int) := of_decide_eq_true aq4
               obtain ⟨ad116, e116, hx116_0⟩ := Kd.at_int HR0_2.out (rd (rd_L3 t105 x16_1) x23_2) p116 q116
               cases e116
               try replace hx116_0 := (HB.out.cell (World.block_lt_of_cell? w _ hx116_0)).trans hx116_0
               replace p116 := eq_true p116
               replace q116 := eq_true q116
               obtain ⟨Ao27, co27, eo27⟩ := Kd.R_slice HO_8.out
               subst eo27
               go_wp2
               go_roundg k2
               case measure => have := HK1.out; have := HK2.out; omega
               case rel => exact ⟨(x5_2), (x8_2), (wrap64 (x23_2 + 1)), aq7, H', ⟨aq64⟩, ⟨aq24⟩, ⟨aq25⟩, ⟨aq44⟩, ⟨aq2⟩, ⟨aq0⟩, ⟨aq74⟩⟩
             ·rw [if_neg c20] at H
              have c20b0 := beq_eq_false_iff_ne.mpr c20
              have c20b1 := bne_iff_ne.mpr c20
              by_cases c28 : x8_2.length < 17592186044416
              ·rw [if_pos c28] at H
               have LMc28 := am c28
               clear c28
               obtain ⟨y120, hy_⟩ : ∃ y_ : List Int, y_ = (x8_2 ++ [rd (rd_L3 t105 x16_1) x23_2]) := ⟨_, rfl⟩
               replace H : (impl_tray_strI.l1 k2 x5_2 y120 t105 (t105.length : Int) x16_1 (rd_L3 t105 x16_1) ((rd_L3 t105 x16_1).length : Int) (wrap64 (x23_2 + 1)) a0_0 a0_1 l0_2) = some r := aq3
               have Ny120 := am hy_
               clear hy_
               have H' := am H
               clear H
               have p115 : 0 ≤ (x23_2 : Int) := of_decide_eq_true aq4
               have q115 : x23_2 < ((rd_L3 t105 x16_1).length : Int) := of_decide_eq_true aq4
               obtain ⟨ad115, e115, hx115_0⟩ := Kd.at_int (Kd.R_reads' HLq.out).2.2 x23_2 p115 q115
               cases e115
               try replace hx115_0 := (HB.out.cell (World.block_lt_of_cell? w _ hx115_0)).trans hx115_0
               replace p115 := eq_true p115
               replace q115 := eq_true q115
               obtain ⟨hcz29_0, hcz29_1, hcz29_2, hfz29_0, hfz29_1, hfz29_2⟩ := blk3_ BK101.out
               have p116 : 0 ≤ ((rd (rd_L3 t105 x16_1) x23_2) : Int) := of_decide_eq_true aq4
               have q116 : (rd (rd_L3 t105 x16_1) x23_2) < (l0_2.length : Int) := of_decide_eq_true aq4
               obtain ⟨ad116, e116, hx116_0⟩ := Kd.at_int HR0_2.out (rd (rd_L3 t105 x16_1) x23_2) p116 q116
               cases e116
               try replace hx116_0 := (HB.out.cell (World.block_lt_of_cell? w _ hx116_0)).trans hx116_0
               replace p116 := eq_true p116
               replace q116 := eq_true q116
               go_wp2_with (first | ((with_reducible refine gate_builtin (b := .append) (xs := #[.tmp 33, .tmp 35]) rfl ?_); at_builtin; refine Kd.R_append (Kd.int .i64) (w0 := w) w.heap.size rfl (.tmp 33) (.tmp 35) 28 3 (.int .i64 0) 8 rfl Tryz.underlying28 info3 rfl (by decide) (by omega) u8 x8_2 (rd (rd_L3 t105 x16_1) x23_2) [.int .i64 (rd (rd_L3 t105 x16_1) x23_2)] (fun _ => True) (fun _ => False) rfl rfl ?aP (fun _ hk => hk.elim) ?aF ?aO ?aB ?aS ?aL ?_; (case aP => exact rfl); (case aB => exact aq0); (case aF => exact aq80); (case aO => exact aq25); (case aS => exact aq78); (case aL => have := LMc28.out; omega); intro v121 w30 ho hb hg hat; rw [← Ny120.out] at ho; have n0_ := am (Kd.S_after (ok := (fun k_ => some k_ ≠ (.slice (some ad108) t105.length co9 : Value).ownBlock)) aq75 hg hat); have n1_ := am (Kd.S_after (ok := (fun k_ => some k_ ≠ (u5 : Value).ownBlock)) aq44 hg hat); have n2_ := am (blk_grown (g := gb101) (o := .cells #[.int .i64 a0_0, .int .i64 a0_1, .slice (some ad116) l0_2.length c0_2] 93 (0, 0)) aq2 hg (Kd.R_ne HO_8.out BK101.out (by decide))); have n3_ := am (hb); have n4_ := am (ho); clear HO_5; have nq_ := am (Kd.R_after (ok := (fun k_ => some k_ ≠ (u5 : Value).ownBlock)) HLq.out hg hat); clear HLq; have HLq := nq_; clear nq_; clear HO_14; clear BK101; clear HB; clear HO_8; have HO_5 := n0_; have HO_14 := n1_; have BK101 := n2_; have HB := n3_; have HO122 := n4_; clear n0_ n1_ n2_ n3_ n4_; clear ho hb hg hat))
               go_roundg k2
               case measure => have := HK1.out; have := HK2.out; omega
               case rel => exact ⟨(x5_2), (y120), (wrap64 (x23_2 + 1)), aq7, H', ⟨aq64⟩, ⟨aq75⟩, ⟨by (with_reducible repeat (first | apply Kd.R_alloc | apply Kd.R_drewN | apply Kd.R_drew)); exact HO122.out⟩, ⟨aq44⟩, ⟨aq2⟩, ⟨aq0⟩, ⟨aq74⟩⟩
              ·rw [if_neg c28] at H
               exact absurd H (by simp)
            ·rw [if_neg c19] at H
             exact absurd H (by simp)
           ·rw [if_neg c18] at H
            exact absurd H (by simp)
          ·rw [if_neg c17] at H
           exact absurd H (by simp)
         ·rw [if_neg c16] at H
          exact absurd H (by simp)
        ·rw [if_neg c15] at H
         have c15b0 := decide_eq_false c15
         clear c15
         by_cases c31 : (x8_2.length : Int) > 0
         ·rw [if_pos c31] at H
          have c31b0 := decide_eq_true c31
          have c31b1 : decide (0 < x8_2.length) = true := decide_eq_true (by omega)
          clear c31
          by_cases c32 : x5_2.length < 5864062014805
          ·rw [if_pos c32] at H
           have LMc32 := am c32
           clear c32
           obtain ⟨y112, hy_⟩ : ∃ y_ : List (List Int), y_ = (x5_2 ++ [x8_2]) := ⟨_, rfl⟩
           replace H : (impl_tray_strI.l0 k2 y112 t105 (t105.length : Int) (wrap64 (x16_1 + 1)) a0_0 a0_1 l0_2) = some r := aq3
           have Ny112 := am hy_
           clear hy_
           have H' := am H
           clear H
           obtain ⟨Ao33, co33, eo33⟩ := Kd.R_slice HO_8.out
           subst eo33
           go_wp2_with (first | ((with_reducible refine gate_builtin (b := .append) (xs := #[.tmp 48, .tmp 50]) rfl ?_); at_builtin; refine Kd.S_append (Kd.slice 3 (Kd.int .i64)) (w0 := w) w.heap.size rfl (.tmp 48) (.tmp 50) 40 28 (.slice none 0 0) 24 rfl Tryz.underlying40 info28 rfl (by decide) (by omega) u5 x5_2 x8_2 [.slice Ao33 x8_2.length co33] (fun k_ => some k_ ≠ (.slice (some ad108) t105.length co9 : Value).ownBlock) (fun k_ => some k_ = (.slice Ao33 x8_2.length co33 : Value).ownBlock) rfl rfl ?aP (fun k_ hk_ => ((Kd.R_mono (ok' := fun k_ => ((fun k_ => some k_ ≠ (.slice (some ad108) t105.length co9 : Value).ownBlock)) k_ ∧ some k_ ≠ (u5 : Value).ownBlock) (Kd.R_apart' (Kd.R_apart' (HO_8.out) (Kd.S_typed HO_14.out) (by decide)) (Kd.S_typed HO_5.out) (by decide)) (fun k_ hk => ⟨hk.1.2, hk.2⟩))).1 k_ hk_.symm) ?aF ?aO ?aB ?aS ?aL ?_; (case aP => exact aq69); (case aB => exact aq0); (case aF => exact (fun k_ hk => Kd.fresh' (Kd.S_lt aq44) k_ hk)); (case aO => exact aq94); (case aS => exact aq78); (case aL => have := LMc32.out; omega); intro v113 w34 ho hb hg hat; rw [← Ny112.out] at ho; have n0_ := am (Kd.S_after (ok := (fun k_ => some k_ ≠ (.slice Ao33 x8_2.length co33 : Value).ownBlock)) aq102 hg hat); have n1_ := am (blk_grown (g := gb101) (o := .cells #[.int .i64 a0_0, .int .i64 a0_1, .slice A0_2 l0_2.length c0_2] 93 (0, 0)) aq2 hg (Kd.S_ne HO_5.out BK101.out (by decide))); have n2_ := am (hb); have n3_ := am (ho); clear HO_14; clear BK101; clear HB; clear HO_5; clear HO_8; have HO_14 := n0_; have BK101 := n1_; have HB := n2_; have HO114 := n3_; clear n0_ n1_ n2_ n3_; clear ho hb hg hat))
           go_roundg k2
           case measure => have := HK1.out; have := HK2.out; omega
           case rel => exact ⟨(y112), (wrap64 (x16_1 + 1)), aq7, H', ⟨aq64⟩, ⟨by (with_reducible repeat (first | apply Kd.S_alloc | apply Kd.S_drewN | apply Kd.S_drew)); exact HO114.out⟩, ⟨by (with_reducible repeat (first | apply Kd.S_alloc | apply Kd.S_drewN | apply Kd.S_drew)); exact Kd.S_mono HO_14.out (fun _ hk => hk.2)⟩, ⟨aq2⟩, ⟨aq0⟩⟩
          ·rw [if_neg c32] at H
           exact absurd H (by simp)
         ·rw [if_neg c31] at H
          have c31b0 := decide_eq_false c31
          have c31b1 : decide (0 < x8_2.length) = false := decide_eq_false (by omega)
          clear c31
          have H' := am H
          clear H
          obtain ⟨Ao35, co35, eo35⟩ := Kd.R_slice HO_8.out
          subst eo35
          go_wp2
          go_roundg k2
          case measure => have := HK1.out; have := HK2.out; omega
          case rel => exact ⟨(x5_2), (wrap64 (x16_1 + 1)), aq7, H', ⟨aq64⟩, ⟨aq60⟩, ⟨by (with_reducible repeat (first | apply Kd.S_alloc | apply Kd.S_drewN | apply Kd.S_drew)); exact Kd.S_mono HO_14.out (fun _ hk => hk.1)⟩, ⟨aq2⟩, ⟨aq0⟩⟩
     ·rw [if_neg c12] at H
      exact absurd H (by simp)
    ·rw [if_neg c11] at H
     exact absurd H (by simp)
   ·rw [if_neg c10] at H
    have c10b0 := decide_eq_false c10
    clear c10
    obtain rfl := Option.some.inj H
    go_wp2_with (first | (go_at_call 182; refine (sortfunc_calls (Kd.S_R (Kd.S_mono HO_5.out (fun _ _ => trivial))) HP_.out.1 HP_.out.2.1 HP_.out.2.2).mono ?_; rintro e_ w9_ ⟨rfl, ys_, hp_, hs_, hR_, hB_, _⟩))
    go_ret
    exact ⟨_, rfl, ⟨ys_, hp_, hs_, hR_⟩, hB_ _ HB.out (Nat.le_refl _)⟩
end Go.Proofs.YtdffgeoegdkiaaaGreatDoor.F

namespace Go.Proofs.YtdffgeoegdkiaaaGreatDoor
open Go.RowKit Go.Proofs.YtdffgeoegdkiaaaGreatDoorW.PrintWords Go.Proofs.YtdffgeoegdkiaaaGreatDoorW.PrintLast Go.Proofs.YtdffgeoegdkiaaaGreatDoorW.PrintMore Go.Lib Go.Shelf Go.Proofs.YtdffgeoegdkiaaaGreatDoor.F Go.Maps
attribute [local go_sem] max2_int min2_int
theorem putAll_put (cs out : List Int) (m : List (Nat × Nat)) (k t : Nat) : putAll cs out (m ++ [(k, t)]) = (putAll cs out m).set t (cs.getD k 0) := by rw [putAll_app]; rfl
set_option maxRecDepth 100000 in
set_option maxHeartbeats 8000000 in
theorem tiTilt_calls (a0 a1 dir : Int) (A2 : Option Addr) (c2 : Nat) (l2 : List Int) (SN : List (List Nat)) (w : World) (hr2 : Kd.C (Kd.int .u8) w A2 l2.length l2) (hc2 : l2.length ≤ c2)
  (hl : 0 < l2.length ∧ l2.length < 65536) (hS : ∀ st ∈ SN, ∀ i ∈ st, i < l2.length) (hlen1 : SN.length < 65536) (hlen2 : ∀ st ∈ SN, st.length < 65536)
  (hcall : ∀ W, Below w.heap.size w W → Calls Tryz.prog 125 #[.agg #[.int .i64 a0, .int .i64 a1, .slice A2 l2.length c2], .int .i64 dir] W fun e w' => ∃ v, e = .returned v ∧ Kd.N (Kd.slice 3 (Kd.int .i64)) 28 w' W.heap.size (fun k_ => W.heap.size ≤ k_) v (SN.map castsI) ∧ Below W.heap.size W w') :
  Calls Tryz.prog 85 #[.agg #[.int .i64 a0, .int .i64 a1, .slice A2 l2.length c2], .int .i64 dir] w fun e w' => ∃ v2_ : Value, e = .returned (.agg #[.int .i64 a0, .int .i64 a1, v2_]) ∧ Kd.R (Kd.int .u8) 5 w' w.heap.size (fun _ => True) v2_ (putAll l2 (wallsL l2) (mvs (ballAt l2) SN)) ∧ Below w.heap.size w w' := by
 have hball : ∀ (c : Int) (W : World), Calls Tryz.prog 100 #[.int .u8 c] W fun e w' => e = .returned (.bool (isBallC c)) ∧ w'.heap = W.heap ∧ Below W.heap.size W w' := fun c W => by
  refine (spec_tyBall.calls c (isBallC c) W (spec_tyBall_is c)).mono ?_
  rintro e w' ⟨rfl, ⟨nd, rfl⟩⟩
  exact ⟨rfl, rfl, pw_below_drewN (Below.refl _ _) nd⟩
 have hemp : spec_tyWalls.f a0 a1 l2 = some (a0, a1, wallsL l2) := if_pos hl
 have HR := am hr2
 have HC := am hc2
 have HL := am hl
 have HSS := am hS
 have HLEN := am (And.intro hlen1 hlen2)
 have HCALL := am hcall
 obtain ⟨sb, so, rfl, hsb, hscells⟩ := C_place hr2 hl.1
 have hwalls : ∀ W, Below w.heap.size w W → Calls Tryz.prog 124 #[.agg #[.int .i64 a0, .int .i64 a1, .slice (some ⟨sb, so, none⟩) l2.length c2]] W fun e w' => ∃ g co ts, e = .returned (.agg #[.int .i64 a0, .int .i64 a1, .slice (some ⟨g, 0, none⟩) l2.length co]) ∧ W.heap.size ≤ g ∧ l2.length ≤ co ∧ w'.heap[g]? = some (.cells ((wallsL l2).map (Value.int .u8) ++ ts).toArray 5 (0, 0)) ∧ ts.length + l2.length = co ∧ co ≤ maxLen ∧ Below W.heap.size W w' := fun W hW => by
  refine (spec_tyWalls.calls a0 a1 _ c2 l2 a0 a1 (wallsL l2) W (Kd.C_below HR.out hW) HC.out hemp).mono ?_
  rintro e w' ⟨v2, rfl, ho, hb⟩
  have hwl : (wallsL l2).length = l2.length := by simp [wallsL]
  obtain ⟨_, ⟨rfl, h0⟩ | ⟨g, cap, cur, rfl, hg, hrow, hcl, hcm, hsz, htk⟩⟩ := Kd.own_of_R (enc := Value.int .u8) (h1 := fun _ => rfl) ho
  ·have := HL.out; omega
  ·rw [hwl] at hcl htk
   refine ⟨g, cap, cur.toList.drop l2.length, by rw [hwl], hg, hcl, ?_, ?_, hcm, hb⟩
   ·rw [hrow]
    congr 2
    have : (wallsL l2).map (Value.int .u8) ++ cur.toList.drop l2.length = cur.toList := by
     rw [show (wallsL l2).map (Value.int .u8) = cur.toList.take l2.length from by rw [← encs, ← htk, Nat.mul_one]]
     exact List.take_append_drop _ _
    rw [this]
   ·rw [List.length_drop, Array.length_toList]; omega
 have HSC := am hscells
 have HSB := am hsb
 have HB := am (Below.refl w.heap.size w)
 clear hr2 hc2 hl hS hlen1 hlen2 hscells hsb hcall hemp
 go_enter Tryz.func85, Tryz.ntmps85
 go_wp2_with (first
  | ((with_reducible refine gate_dst (N := 2) rfl ?_); refine box_event ?hg (N := 2) ?hd (cs := #[.int .i64 a0, .int .i64 a1, .slice (some ⟨sb, so, none⟩) l2.length c2]) (t := 62) ?hr ?_; (case hd => rfl); (case hg => rfl); (case hr => exact aq16); intro b1 hg1 w3 hbox1 hb1; have G1 := am hg1; have X1 := am hbox1; have B1 := am hb1; clear hg1 hbox1 hb1)
  | ((with_reducible refine gate_dst (N := 4) rfl ?_); refine box_event ?hg (N := 4) ?hd (cs := #[.int .i64 0, .int .i64 0, .slice none 0 0]) (t := 62) ?hr ?_; (case hd => rfl); (case hg => rfl); (case hr => exact aq16); intro b2 hg2 w4 hbox2 hb2; have G2 := am hg2; have X2 := am hbox2; have B2 := am (below_step B1.out hb2); have n1 := am (blk_below X1.out hb2); clear X1; have X1 := n1; clear n1; have z10 : w4.cell? ⟨b1, 0, none⟩ = some (.int .i64 a0) := (blk_cell X1.out 0).trans rfl; have z11 : w4.cell? ⟨b1, 1, none⟩ = some (.int .i64 a1) := (blk_cell X1.out 1).trans rfl; have z12 : w4.cell? ⟨b1, 2, none⟩ = some (.slice (some ⟨sb, so, none⟩) l2.length c2) := (blk_cell X1.out 2).trans rfl; clear hg2 hbox2 hb2)
  | (go_at_call 124; refine (hwalls _ B2.out).mono ?_; rintro e w5 ⟨g, co, ts, rfl, hg0, hco, hrow, hts, hcb, hb⟩; have G0 := am hg0; have HCO := am hco; have HROW := am hrow; have HTS := am hts; have HCB := am hcb; have B5 := am (below_step B2.out hb); have n2 := am (blk_below X2.out hb); have n1 := am (blk_below X1.out hb); clear X1 X2; have X2 := n2; have X1 := n1; clear n1 n2; clear z10 z11 z12; have hbl : (w5.alloc (.cells #[.int .i64 a0, .int .i64 a1, .slice (some ⟨g, 0, none⟩) l2.length co] 62)).heap[b1]? = _ := (((Below.refl _ w5).alloc (Nat.le_refl _) _).block b1 (blk_lt X1.out)).trans X1.out; have z10 : (w5.alloc (.cells #[.int .i64 a0, .int .i64 a1, .slice (some ⟨g, 0, none⟩) l2.length co] 62)).cell? ⟨b1, 0, none⟩ = some (.int .i64 a0) := (blk_cell hbl 0).trans rfl; have z11 : (w5.alloc (.cells #[.int .i64 a0, .int .i64 a1, .slice (some ⟨g, 0, none⟩) l2.length co] 62)).cell? ⟨b1, 1, none⟩ = some (.int .i64 a1) := (blk_cell hbl 1).trans rfl; have z12 : (w5.alloc (.cells #[.int .i64 a0, .int .i64 a1, .slice (some ⟨g, 0, none⟩) l2.length co] 62)).cell? ⟨b1, 2, none⟩ = some (.slice (some ⟨sb, so, none⟩) l2.length c2) := (blk_cell hbl 2).trans rfl; clear hbl; clear hb hg0 hco hrow hts hcb)
  | (go_at_call 125; obtain ⟨b3, hb3⟩ : ∃ b3, w5.heap.size = b3 := ⟨_, rfl⟩; obtain ⟨W8, hW8⟩ : ∃ W8, w5.alloc (.cells #[.int .i64 a0, .int .i64 a1, .slice (some ⟨g, 0, none⟩) l2.length co] 62) = W8 := ⟨_, rfl⟩; have hB58 : Below b3 w5 W8 := (by rw [← hW8, ← hb3]; exact (Below.refl _ w5).alloc (Nat.le_refl _) _); have hB8 : Below w.heap.size w W8 := (by rw [← hW8]; exact B5.out.alloc B5.out.size _); have hsz : W8.heap.size = b3 + 1 := (by rw [← hW8, ← hb3]; simp); have x3 : W8.heap[b3]? = some (.cells #[.int .i64 a0, .int .i64 a1, .slice (some ⟨g, 0, none⟩) l2.length co] 62 (0, 0)) := (by rw [← hW8, ← hb3]; exact World.alloc_heap_new w5 _); rw [hW8]; (try simp only [hb3]); have HB58 := am hB58; have HB8 := am hB8; have HSZ := am hsz; have X3 := am x3; have HW8 := am hb3; clear hB58 hB8 hsz x3 hW8 hb3 z10 z11 z12; refine (HCALL.out W8 HB8.out).mono ?_; rintro e w6 ⟨v, rfl, ho, hb⟩; obtain ⟨Av, cv, hv⟩ := Kd.N_slice ho; rw [List.length_map] at hv; subst hv; have ho' := Kd.N_mono ho (ok' := fun k => b3 < k) (fun k hk => by have := HSZ.out; omega); have HO := am ho'; have B6 := am hb; clear ho ho' hb))
 have hgw : w.heap.size ≤ g := Nat.le_trans B2.out.size G0.out
 have hg5 : g < b3 := by rw [← HW8.out]; exact blk_lt HROW.out
 have h1w : w.heap.size ≤ b1 := by rw [G1.out]; exact Nat.le_refl _
 have h2w : w.heap.size ≤ b2 := by rw [G2.out]; exact B1.out.size
 have h15 : b1 < b3 := by rw [← HW8.out]; exact blk_lt X1.out
 have h25 : b2 < b3 := by rw [← HW8.out]; exact blk_lt X2.out
 have h3s : b3 < W8.heap.size := blk_lt X3.out
 have ROW6 := am ((B6.out.block g (by omega)).trans ((HB58.out.block g hg5).trans HROW.out))
 have Y3 := am ((B6.out.block b3 h3s).trans X3.out)
 have Y1 := am ((B6.out.block b1 (by omega)).trans ((HB58.out.block b1 h15).trans X1.out))
 have Y2 := am ((B6.out.block b2 (by omega)).trans ((HB58.out.block b2 h25).trans X2.out))
 have BW := am (below_step HB8.out B6.out)
 have gb1 : b1 ≠ g := Ne.symm (blk_ne ROW6.out Y1.out (by decide))
 have gb2 : b2 ≠ g := Ne.symm (blk_ne ROW6.out Y2.out (by decide))
 have gb3 : b3 ≠ g := by omega
 have GB := am (And.intro gb1 (And.intro gb2 (And.intro gb3 (And.intro hgw h2w))))
 have rows : ∀ j, (hj : j < SN.length) → ∃ bk o A0 c0, Av = some ⟨bk, o, none⟩ ∧ SN[j].length ≤ c0 ∧ ∀ W, KeepBut w6 W g none → W.cell? ⟨bk, o + j, none⟩ = some (.slice A0 SN[j].length c0) ∧ Kd.C (Kd.int .i64) W A0 SN[j].length (castsI SN[j]) := fun j hj => by
  have hgd : (SN.map castsI).getD j [] = castsI SN[j] := by
   rw [List.getD_eq_getElem?_getD, List.getElem?_map, List.getElem?_eq_getElem hj]; rfl
  have get : ∀ W, KeepBut w6 W g none → ∃ bk o A0 c0, Av = some ⟨bk, o, none⟩ ∧ W.cell? ⟨bk, o + j, none⟩ = some (.slice A0 SN[j].length c0) ∧ SN[j].length ≤ c0 ∧ Kd.C (Kd.int .i64) W A0 SN[j].length (castsI SN[j]) := fun W hk => by
   obtain ⟨A, c, e, _, hC⟩ := Kd.N_reads (Kd.N_keep HO.out hk (fun k h => by omega))
   injection e with e1 e2 e3
   subst e1
   obtain ⟨bk, o, A0, c0, q1, q2, q3, q4⟩ := row_at hC j (by rw [List.length_map]; exact hj)
   rw [hgd, castsI_length] at q2 q3 q4
   exact ⟨bk, o, A0, c0, q1, q2, q3, q4⟩
  have k5 : KeepBut w6 w6 g none := ⟨Nat.le_refl _, fun _ _ _ _ => rfl⟩
  obtain ⟨bk, o, A0, c0, q1, q2, q3, q4⟩ := get w6 k5
  refine ⟨bk, o, A0, c0, q1, q3, fun W hk => ?_⟩
  obtain ⟨bk', o', A0', c0', r1, r2, r3, r4⟩ := get W hk
  rw [q1] at r1
  injection r1 with r1
  injection r1 with r1 r1'
  subst r1 r1'
  have hne : bk ≠ g := by
   have := HO.out.1 bk (by rw [q1]; rfl)
   omega
  have he : W.cell? ⟨bk, o + j, none⟩ = w6.cell? ⟨bk, o + j, none⟩ := World.cell?_of_block (hk.2 bk (World.block_lt_of_cell? w6 _ q2) hne (by simp))
  rw [he, q2] at r2
  injection r2 with r2
  injection r2 with r2 _ r2'
  subst r2 r2'
  exact ⟨by rw [he]; exact q2, r4⟩
 have ROWS := am rows
 have K6 := am (show KeepBut w6 w6 g none from ⟨Nat.le_refl _, fun _ _ _ _ => rfl⟩)
 clear rows gb1 gb2 gb3 hgw hg5 h1w h2w h15 h25 h3s HO HCALL hwalls X1 X2 X3 HROW HB58 HB8 B6 HSZ HW8 G0 G1 G2 B1 B2 B5
 go_wp2
 go_loopw [17] (fun v17 wr => ∃ j : Nat, j ≤ SN.length ∧ v17 = .int .i64 j ∧ Aside0 (wr.heap[g]? = some (.cells ((putAll l2 (wallsL l2) (mvs (ballAt l2) (SN.take j))).map (Value.int .u8) ++ ts).toArray 5 (0, 0))) ∧ Aside0 (KeepBut w6 wr g none) ∧ Aside0 (Below w.heap.size w wr)) (fun v17 _ => SN.length - (intOf v17).toNat)
 case atStart => exact ⟨0, Nat.zero_le _, rfl, ROW6, K6, BW⟩
 case round =>
  obtain ⟨j, hj, rfl, Mr, Kr, Br⟩ := hrel
  by_cases hlt : j < SN.length
  ·obtain ⟨bk, o, A0, c0, rfl, hc0, hat⟩ := ROWS.out j hlt
   have hcell := (hat wr Kr.out).1
   have hltI : (j : Int) < (SN.length : Int) := by omega
   have hstl := HLEN.out.2 SN[j] (List.getElem_mem hlt)
   have hmv := mvs_take (b := ballAt l2) hlt
   have hin := HSS.out SN[j] (List.getElem_mem hlt)
   generalize hst : SN[j] = st at *
   have HMV := am hmv
   have HAT := am hat
   have HIN := am hin
   have HSTL := am hstl
   have HJ := am hlt
   clear hmv hat hin hstl hst hj hlt
   go_wp2
   go_loopw [8, 23] (fun v8 v23 wq => ∃ i : Nat, i ≤ st.length ∧ v23 = .int .i64 i ∧ v8 = .int .i64 ((((st.take i).filter (ballAt l2)).length : Nat) : Int) ∧ Aside0 (wq.heap[g]? = some (.cells ((putAll l2 (wallsL l2) (mvs (ballAt l2) (SN.take j) ++ partM (ballAt l2) st i)).map (Value.int .u8) ++ ts).toArray 5 (0, 0))) ∧ Aside0 (KeepBut w6 wq g none) ∧ Aside0 (Below w.heap.size w wq)) (fun _ v23 _ => st.length - (intOf v23).toNat)
   case atStart => exact ⟨0, Nat.zero_le _, rfl, rfl, ⟨by unfold partM; simp; exact Mr.out⟩, Kr, Br⟩
   case round =>
    obtain ⟨i, hi, rfl, rfl, Mq, Kq, Bq⟩ := hrel
    by_cases hlt2 : i < st.length
    ·obtain ⟨_, hCq⟩ := HAT.out wr Kq.out
     obtain ⟨bo, oo, hA0, hbo, hcs⟩ := C_place (by rw [← castsI_length st] at hCq; exact hCq) (by rw [castsI_length]; omega)
     have x1 : wr.cell? ⟨bo, oo + i, none⟩ = some (.int .i64 ((st[i]'hlt2 : Nat) : Int)) := hcs i _ (castsI_getD st i hlt2)
     have hcnt := cnt_le (ballAt l2) st i
     have x2 : wr.cell? ⟨bo, oo + ((st.take i).filter (ballAt l2)).length, none⟩ = some (.int .i64 ((st.getD ((st.take i).filter (ballAt l2)).length 0 : Nat) : Int)) := hcs _ _ (by rw [castsI_getD st _ (by omega)]; rw [List.getD_eq_getElem?_getD, List.getElem?_eq_getElem (by omega)]; rfl)
     have hk := HIN.out _ (List.getElem_mem hlt2)
     have hYES := partM_yes (b := ballAt l2) hlt2
     have hNO := partM_no (b := ballAt l2) hlt2
     have htf := take_filter (b := ballAt l2) hlt2
     have Xr : wr.heap[b1]? = _ := (Kq.out.2 b1 (blk_lt Y1.out) GB.out.1 (by simp)).trans Y1.out
     have Xr3 : wr.heap[b3]? = _ := (Kq.out.2 b3 (blk_lt Y3.out) GB.out.2.2.1 (by simp)).trans Y3.out
     have z2 : wr.cell? ⟨b1, 2, none⟩ = some (.slice (some ⟨sb, so, none⟩) l2.length c2) := (blk_cell Xr 2).trans rfl
     have htq : st.getD ((st.take i).filter (ballAt l2)).length 0 < l2.length := by
      rw [List.getD_eq_getElem?_getD, List.getElem?_eq_getElem (by omega)]; exact HIN.out _ (List.getElem_mem _)
     generalize hcn : ((st.take i).filter (ballAt l2)).length = cnt at *
     generalize hki : st[i]'hlt2 = k at *
     generalize hto : st.getD cnt 0 = tq at *
     have src : wr.cell? ⟨sb, so + k, none⟩ = some (.int .u8 (l2.getD k 0)) := (Bq.out.cell (p := ⟨sb, so + k, none⟩) HSB.out).trans (HSC.out k _ (by rw [getD_at hk]; exact List.getElem?_eq_getElem hk))
     have hbb : isBallC (l2.getD k 0) = ballAt l2 k := rfl
     have hput := putAll_put l2 (wallsL l2) (mvs (ballAt l2) (SN.take j) ++ partM (ballAt l2) st i) k tq
     have hpl : (putAll l2 (wallsL l2) (mvs (ballAt l2) (SN.take j) ++ partM (ballAt l2) st i)).length = l2.length := by rw [putAll_length]; simp [wallsL]
     have dst : wr.cell? ⟨g, tq, none⟩ = some (.int .u8 ((putAll l2 (wallsL l2) (mvs (ballAt l2) (SN.take j) ++ partM (ballAt l2) st i)).getD tq 0)) := (blk_cell Mq.out tq).trans (cells_get _ ts tq (by rw [hpl]; exact htq))
     have hset := cells_of (n := 0) (putAll l2 (wallsL l2) (mvs (ballAt l2) (SN.take j) ++ partM (ballAt l2) st i)) ts tq (by rw [hpl]; exact htq) (l2.getD k 0)
     generalize l2.getD k 0 = c at *
     have hltI2 : (i : Int) < (st.length : Int) := by omega
     have hkI : (k : Int) < (l2.length : Int) := by omega
     have hcI : (cnt : Int) < (st.length : Int) := by omega
     have htI : (tq : Int) < (l2.length : Int) := by omega
     subst hA0
     have hw1 : IntKind.i64.wrap ((i : Int) + 1) = ((i + 1 : Nat) : Int) := by rw [IntKind.wrap_i64]; have := HSTL.out; omega
     have hw2 : IntKind.i64.wrap ((cnt : Int) + 1) = ((cnt + 1 : Nat) : Int) := by rw [IntKind.wrap_i64]; have := HSTL.out; omega
     have HII := am (And.intro hi hlt2)
     have HTF := am htf
     have HYES := am hYES
     have HNO := am hNO
     have HBB := am hbb
     have HBO := am hbo
     have HCN := am hcn
     have HPUT := am hput
     have HSET := am hset
     have DST := am dst
     have XR3 := am Xr3
     have XR1 := am Xr
     have ZS := am (And.intro x2 src)
     clear hi hlt2 htf hYES hNO hcs hCq hcnt hk hcn hki hto Xr Xr3 hbo hput hset dst hpl htq
     cases hbt : ballAt l2 k with
     | true =>
      rw [hbt] at hbb
      go_wp2_with (first
       | (go_at_call 100; refine (hball c _).mono ?_; rw [hbb]; rintro e w9 ⟨rfl, hh, hb9⟩; have HH := am hh; have B9 := am (below_step Bq.out hb9); clear hh hb9 x1 x2 z2 src))
      have cellH : ∀ p : Addr, w9.cell? p = wr.cell? p := fun p => World.cell?_of_block (congrArg (fun h => h[p.block]?) HH.out)
      have y2 : w9.cell? ⟨bo, oo + cnt, none⟩ = some (.int .i64 ((tq : Nat) : Int)) := (cellH _).trans ZS.out.1
      have src : w9.cell? ⟨sb, so + k, none⟩ = some (.int .u8 c) := (cellH _).trans ZS.out.2
      have z2 : w9.cell? ⟨b1, 2, none⟩ = some (.slice (some ⟨sb, so, none⟩) l2.length c2) := (cellH _).trans ((blk_cell XR1.out 2).trans rfl)
      have z3 : w9.cell? ⟨b3, 2, none⟩ = some (.slice (some ⟨g, 0, none⟩) l2.length co) := (cellH _).trans ((blk_cell XR3.out 2).trans rfl)
      have dst : w9.cell? ⟨g, tq, none⟩ = some _ := (cellH _).trans DST.out
      have ROW9 : w9.heap[g]? = _ := (congrArg (fun h => h[g]?) HH.out).trans Mq.out
      have hf := blk_frozen ROW9 tq
      have HROW9 := am ROW9
      have HK9 := am (show KeepBut w6 w9 g none from ⟨by rw [HH.out]; exact Kq.out.1, fun q h1 h2 h3 => (congrArg (fun h => h[q]?) HH.out).trans (Kq.out.2 q h1 h2 h3)⟩)
      clear cellH ROW9
      go_wp2
      go_still_tail 12, (by kernel_rfl)
      change wpList _ _ _ _ _ w9.drew
      have dst' : w9.drew.cell? ⟨g, tq, none⟩ = some _ := dst
      have hf' : w9.drew.frozen? ⟨g, tq, none⟩ = false := hf
      have DROW : Aside0 (w9.drew.heap[g]? = _) := HROW9
      have DK : Aside0 (KeepBut w6 w9.drew g none) := ⟨⟨HK9.out.1, fun q h1 h2 h3 => HK9.out.2 q h1 h2 h3⟩⟩
      have DB : Aside0 (Below w.heap.size w w9.drew) := ⟨below_drew1 B9.out⟩
      clear dst hf HROW9 HK9 B9 y2 z2 z3 src HH
      generalize w9.drew = w2 at dst' hf' DROW DK DB ⊢
      go_wp2
      go_roundw
      case rel => exact ⟨i + 1, by have := HII.out; omega, by first | rfl | simp, by rw [HTF.out, if_pos hbt, List.length_append, HCN.out]; first | rfl | simp, ⟨by rw [HYES.out hbt, ← List.append_assoc, HPUT.out, ← HSET.out]; exact blk_put DROW.out tq _ rfl⟩, ⟨KeepBut.set_ DK.out tq _⟩, ⟨DB.out.setCell (p := ⟨g, tq, none⟩) GB.out.2.2.2.1 _⟩⟩
      case measure => have := HII.out; simp [intOf]; omega
     | false =>
      rw [hbt] at hbb
      go_wp2_with (first
       | (go_at_call 100; refine (hball c _).mono ?_; rw [hbb]; rintro e w9 ⟨rfl, hh, hb9⟩; have HH := am hh; have B9 := am (below_step Bq.out hb9); clear hh hb9 x1 x2 z2 src))
      go_roundw
      case rel => exact ⟨i + 1, by have := HII.out; omega, by first | rfl | simp, by rw [HTF.out, if_neg (by rw [hbt]; exact Bool.false_ne_true), HCN.out], ⟨by rw [HNO.out hbt]; exact (congrArg (fun h => h[g]?) HH.out).trans Mq.out⟩, ⟨by rw [HH.out]; exact Kq.out.1, fun q h1 h2 h3 => (congrArg (fun h => h[q]?) HH.out).trans (Kq.out.2 q h1 h2 h3)⟩, B9⟩
      case measure => have := HII.out; simp [intOf]; omega
    ·have hge : ¬ (i : Int) < (st.length : Int) := by omega
     obtain rfl : i = st.length := by omega
     have M2 : Aside0 (wr.heap[g]? = some (.cells ((putAll l2 (wallsL l2) (mvs (ballAt l2) (SN.take (j + 1)))).map (Value.int .u8) ++ ts).toArray 5 (0, 0))) := ⟨by rw [HMV.out]; exact Mq.out⟩
     have hw : IntKind.i64.wrap ((j : Int) + 1) = ((j + 1 : Nat) : Int) := by rw [IntKind.wrap_i64]; have := HLEN.out.1; have := HJ.out; omega
     go_wp2
     go_roundw
     case rel => exact ⟨j + 1, by have := HJ.out; omega, by first | rfl | simp, M2, Kq, Bq⟩
     case measure => have := HJ.out; simp [intOf]; omega
  ·have hge : ¬ (j : Int) < (SN.length : Int) := by omega
   have M' := Mr.out
   rw [List.take_of_length_le (by omega)] at M'
   have Z3 : wr.heap[b3]? = _ := (Kr.out.2 b3 (blk_lt Y3.out) GB.out.2.2.1 (by simp)).trans Y3.out
   have Z2 : wr.heap[b2]? = _ := (Kr.out.2 b2 (blk_lt Y2.out) GB.out.2.1 (by simp)).trans Y2.out
   have y0 : wr.cell? ⟨b3, 0, none⟩ = some (.int .i64 a0) := (blk_cell Z3 0).trans rfl
   have y1 : wr.cell? ⟨b3, 1, none⟩ = some (.int .i64 a1) := (blk_cell Z3 1).trans rfl
   have y2 : wr.cell? ⟨b3, 2, none⟩ = some (.slice (some ⟨g, 0, none⟩) l2.length co) := (blk_cell Z3 2).trans rfl
   have e0 : wr.cell? ⟨b2, 0, none⟩ = some (.int .i64 0) := (blk_cell Z2 0).trans rfl
   have e1 : wr.cell? ⟨b2, 1, none⟩ = some (.int .i64 0) := (blk_cell Z2 1).trans rfl
   have e2 : wr.cell? ⟨b2, 2, none⟩ = some (.slice none 0 0) := (blk_cell Z2 2).trans rfl
   have f0 := blk_frozen Z2 0
   have f1 := blk_frozen Z2 1
   have f2 := blk_frozen Z2 2
   have RR := am M'
   have ZZ2 := am Z2
   clear M' Z2 Z3
   go_wp2
   refine bodyPost_ret (results_cell_row rfl _ _ b2 62 #[.int .i64 a0, .int .i64 a1, .slice (some ⟨g, 0, none⟩) l2.length co] (0, 0) _ rfl (by exact blk_put (blk_put (blk_put ZZ2.out 0 (.int .i64 a0) rfl) 1 (.int .i64 a1) rfl) 2 (.slice (some ⟨g, 0, none⟩) l2.length co) rfl) Tryz.underlying62 rfl (by kernel_rfl)) rfl ?_
   obtain ⟨n1, n2, n3, hgw, h2w⟩ := GB.out
   refine ⟨.slice (some ⟨g, 0, none⟩) l2.length co, rfl, ?_, ((Br.out.setCell (p := ⟨b2, 0, none⟩) h2w _).setCell (p := ⟨b2, 1, none⟩) h2w _).setCell (p := ⟨b2, 2, none⟩) h2w _⟩
   have hrl : (putAll l2 (wallsL l2) (mvs (ballAt l2) SN)).length = l2.length := by rw [putAll_length]; simp [wallsL]
   rw [← hrl]
   refine Kd.R_of_own (enc := Value.int .u8) (h1 := fun _ => rfl) ?_ (fun _ _ => trivial)
   have n2' : g ≠ b2 := Ne.symm n2
   refine ⟨by simp [encs], .inr ⟨g, co, _, rfl, hgw, blk_far (blk_far (blk_far RR.out (p := ⟨b2, 0, none⟩) n2' _) (p := ⟨b2, 1, none⟩) n2' _) (p := ⟨b2, 2, none⟩) n2' _, by rw [hrl]; exact HCO.out, HCB.out, ?_, ?_⟩⟩
   ·have := HTS.out
    simp [hrl]; omega
   ·rw [Nat.mul_one, List.take_append_of_le_length (by simp), List.take_of_length_le (by simp)]; rfl
end Go.Proofs.YtdffgeoegdkiaaaGreatDoor

namespace Go.Proofs.YtdffgeoegdkiaaaGreatDoor.F
open Go.Proofs.YtdffgeoegdkiaaaGreatDoor
open Go.RowKit Go.Proofs.YtdffgeoegdkiaaaGreatDoorW.PrintWords Go.Proofs.YtdffgeoegdkiaaaGreatDoorW.PrintLast Go.Proofs.YtdffgeoegdkiaaaGreatDoorW.PrintMore
attribute [local go_sem] max2_int min2_int max_two min_two max_three min_three max_four min_four
def spec_tyCell.f (a0_0 : Int) (a0_1 : Int) (l0_2 : List Int) (a1 : Int) (a2 : Int) : Option (Bool) := (spec_l1In.f a1 0 (wrap64 (a0_0 - 1))).bind fun t102 => (if t102 = true then ((spec_l1In.f a2 0 (wrap64 (a0_1 - 1))).bind fun t103 => (some t103)) else (some false))
set_option maxHeartbeats 8000000 in
set_option maxRecDepth 100000 in
theorem spec_tyCell.calls (a0_0 : Int) (a0_1 : Int) (A0_2 : Option Addr) (c0_2 : Nat) (l0_2 : List Int) (a1 : Int) (a2 : Int) (r : Bool) (w : World) (hr0_2 : Kd.C (Kd.int .u8) w A0_2 l0_2.length l0_2) (hc0_2 : l0_2.length ≤ c0_2) (h : spec_tyCell.f a0_0 a0_1 l0_2 a1 a2 = some r) :
  Calls Tryz.prog 192 #[.agg #[.int .i64 a0_0, .int .i64 a0_1, .slice A0_2 l0_2.length c0_2], .int .i64 a1, .int .i64 a2] w fun e w' => e = .returned (.bool r) ∧ Below w.heap.size w w' := by
 have hu62 := Tryz.underlying62
 have HR0_2 := am hr0_2
 have HC0_2 := am hc0_2
 clear hr0_2 hc0_2
 have HB := am (Below.refl w.heap.size w)
 have H : ((spec_l1In.f a1 0 (wrap64 (a0_0 - 1))).bind fun t102 => (if t102 = true then ((spec_l1In.f a2 0 (wrap64 (a0_1 - 1))).bind fun t103 => (some t103)) else (some false))) = some r := h
 clear h
 obtain ⟨t102, A40, H⟩ := Option.bind_eq_some_iff.mp H
 have A4 := am A40
 clear A40
 by_cases c5 : t102 = true
 ·subst c5
  rw [if_pos rfl] at H
  obtain ⟨t103, A60, H⟩ := Option.bind_eq_some_iff.mp H
  have A6 := am A60
  clear A60
  obtain rfl := Option.some.inj H
  go_enter Tryz.func192, Tryz.ntmps192
  go_wp2_with (first | ((with_reducible refine gate_dst (N := 3) rfl ?_); refine box_event ?hg (N := 3) ?hd (cs := #[.int .i64 a0_0, .int .i64 a0_1, .slice A0_2 l0_2.length c0_2]) (t := 62) ?hr ?_; (case hd => rfl); (case hg => rfl); (case hr => exact aq16); intro gb101 hg w7 hbox hb; have n0_ := am (below_step aq1 hb); have n1_ := am (hbox); have n2_ := am ((by rw [hg]; exact (below_size aq1) : w.heap.size ≤ gb101)); have n3_ := am ((by rw [hg]; exact (below_size aq1) : w.heap.size ≤ gb101)); clear HB; have HB := n0_; have BK101 := n1_; have GW101 := n2_; have GE101 := n3_; clear n0_ n1_ n2_ n3_; clear hb hbox hg; obtain ⟨hcz8_0, hcz8_1, hcz8_2, hfz8_0, hfz8_1, hfz8_2⟩ := blk3_ BK101.out) | ((with_reducible refine gate_callee (f := 52) rfl ?_); refine goesL_ (some 11) rfl rfl Tryz.func52 (by kernel_rfl) rfl #[.int .i64 a1, .int .i64 0, .int .i64 (wrap64 (a0_0 - 1))] rfl aq5 ?_; (with_reducible refine (spec_l1In.calls a1 0 (wrap64 (a0_0 - 1)) true _ A4.out).mono ?_); rintro e w' ⟨rfl, ⟨nd, rfl⟩⟩; refine ⟨_, rfl, ?_⟩) | (go_at_call 52; (with_reducible refine (spec_l1In.calls a2 0 (wrap64 (a0_1 - 1)) t103 _ A6.out).mono ?_); rintro e w' ⟨rfl, ⟨nd, rfl⟩⟩))
  go_ret
  exact ⟨aq8, aq0⟩
 ·replace c5 := Bool.eq_false_iff.mpr c5
  subst c5
  rw [if_neg Bool.false_ne_true] at H
  obtain rfl := Option.some.inj H
  go_enter Tryz.func192, Tryz.ntmps192
  go_wp2_with (first | ((with_reducible refine gate_dst (N := 3) rfl ?_); refine box_event ?hg (N := 3) ?hd (cs := #[.int .i64 a0_0, .int .i64 a0_1, .slice A0_2 l0_2.length c0_2]) (t := 62) ?hr ?_; (case hd => rfl); (case hg => rfl); (case hr => exact aq16); intro gb101 hg w9 hbox hb; have n0_ := am (below_step aq1 hb); have n1_ := am (hbox); have n2_ := am ((by rw [hg]; exact (below_size aq1) : w.heap.size ≤ gb101)); have n3_ := am ((by rw [hg]; exact (below_size aq1) : w.heap.size ≤ gb101)); clear HB; have HB := n0_; have BK101 := n1_; have GW101 := n2_; have GE101 := n3_; clear n0_ n1_ n2_ n3_; clear hb hbox hg; obtain ⟨hcz10_0, hcz10_1, hcz10_2, hfz10_0, hfz10_1, hfz10_2⟩ := blk3_ BK101.out) | ((with_reducible refine gate_callee (f := 52) rfl ?_); refine goesL_ (some 11) rfl rfl Tryz.func52 (by kernel_rfl) rfl #[.int .i64 a1, .int .i64 0, .int .i64 (wrap64 (a0_0 - 1))] rfl aq5 ?_; (with_reducible refine (spec_l1In.calls a1 0 (wrap64 (a0_0 - 1)) false _ A4.out).mono ?_); rintro e w' ⟨rfl, ⟨nd, rfl⟩⟩; refine ⟨_, rfl, ?_⟩))
  go_ret
  exact ⟨aq8, aq0⟩
end Go.Proofs.YtdffgeoegdkiaaaGreatDoor.F
