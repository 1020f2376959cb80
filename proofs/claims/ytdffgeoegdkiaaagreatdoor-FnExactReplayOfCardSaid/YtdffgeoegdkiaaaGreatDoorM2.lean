/- The proof that the law's row holds, part 2: the kit's words, the printed walks and the plain law. No conditions beyond the card's own. -/
import Derived.Shelf.SlicesE.IndexFunc
import Derived.Test.YtdffgeoegdkiaaaGreatDoorM0
import Derived.Test.YtdffgeoegdkiaaaGreatDoorM1
namespace Go.Proofs.YtdffgeoegdkiaaaGreatDoor.F
open Go.RowKit Go.Proofs.YtdffgeoegdkiaaaGreatDoor Go.Proofs.YtdffgeoegdkiaaaGreatDoorW.PrintWords
set_option linter.unusedVariables false
set_option linter.unusedSimpArgs false
theorem w64t {n : Nat} (h : n ≤ 9223372036854775807) : wrap64 (n : Int) = n := w64 (by omega) (by omega)
theorem flatten_snoc {α : Type} (f : Nat → List α) (n : Nat) : ((List.range (n + 1)).map f).flatten = ((List.range n).map f).flatten ++ f n := by
  rw [List.range_succ, List.map_append, List.flatten_append]; simp
theorem map_snoc {α : Type} (f : Nat → α) (n : Nat) : (List.range (n + 1)).map f = (List.range n).map f ++ [f n] := by
  rw [List.range_succ, List.map_append]; rfl
def textB (g : (Nat × Nat × List Int)) : ByteArray := strOfNums (textG g)
theorem strOfNums_app (a b : List Int) : strOfNums (a ++ b) = strOfNums a ++ strOfNums b := by
  apply ByteArray.ext
  rw [ByteArray.data_append]
  unfold strOfNums
  simp
theorem strOfNums_len (l : List Int) : (strOfNums l).size = l.length := by
  show ((l.map fun n => UInt8.ofNat n.toNat).toArray).size = _
  simp
theorem bytesOf_str {l : List Int} (h : ∀ c ∈ l, 0 ≤ c ∧ c < 256) : bytesOf (strOfNums l) = l := by
  unfold bytesOf strOfNums
  simp only [List.map_map]
  apply List.ext_getElem
  · simp
  · intro i a b
    have := h _ (List.getElem_mem b)
    simp only [List.getElem_map, Function.comp, UInt8.toNat_ofNat']
    omega
theorem joinI_snoc : ∀ (rs : List (List Int)) (r : List Int), rs ≠ [] → joinI (rs ++ [r]) = joinI rs ++ 47 :: r
  | [], r, h => absurd rfl h
  | [a], r, _ => rfl
  | a :: b :: rs, r, _ => by
    have ih := joinI_snoc (b :: rs) r (by simp)
    show a ++ 47 :: joinI ((b :: rs) ++ [r]) = (a ++ 47 :: joinI (b :: rs)) ++ 47 :: r
    rw [ih]; simp
theorem joinI_mem : ∀ (rs : List (List Int)) {c : Int}, c ∈ joinI rs → c = 47 ∨ ∃ r ∈ rs, c ∈ r
  | [], c, h => by cases h
  | [a], c, h => .inr ⟨a, by simp, h⟩
  | a :: b :: rs, c, h => by
    rw [joinI] at h
    rcases List.mem_append.1 h with h | h
    · exact .inr ⟨a, by simp, h⟩
    · rcases List.mem_cons.1 h with h | h
      · exact .inl h
      · rcases joinI_mem (b :: rs) h with h | ⟨r, hr, hc⟩
        · exact .inl h
        · exact .inr ⟨r, List.mem_cons_of_mem _ hr, hc⟩
theorem cell_byte {c : Int} (h : isCellC c = true) : 0 ≤ c ∧ c < 256 := by
  unfold isCellC isBallC isNameC at h
  simp at h
  omega
theorem textG_byte {g : (Nat × Nat × List Int)} (v : Vg g) : ∀ c ∈ textG g, 0 ≤ c ∧ c < 256 := by
  intro c hc
  rcases joinI_mem _ hc with h | ⟨r, hr, hcr⟩
  · omega
  · exact cell_byte (v.cell c ((rowsOf_mem v.len hr).2 c hcr))
theorem bytesOf_textB {g : (Nat × Nat × List Int)} (v : Vg g) : bytesOf (textB g) = textG g := bytesOf_str (textG_byte v)
theorem textB_grid {s : ByteArray} {g : (Nat × Nat × List Int)} (h : tyGrid (bytesOf s) = some g) : Vg g ∧ textB g = s := by
  obtain ⟨w, hh, cs⟩ := g
  obtain ⟨v, e⟩ := tyGrid_VG h
  exact ⟨v, bytesOf_inj (by rw [bytesOf_textB (g := (w, hh, cs)) v]; exact e)⟩
theorem textG_small {g : (Nat × Nat × List Int)} (v : Vg g) : (textG g).length ≤ 42 := by
  have h1 := joinI_length (rowsOf g.1 g.2.1 g.2.2) (rowsOf_ne v.h1)
  rw [rowsOf_flatten _ _ _ v.len, rowsOf_length, v.len] at h1
  have := v.small
  have := v.h7
  show (joinI (rowsOf g.1 g.2.1 g.2.2)).length ≤ 42
  omega
theorem flat_len (w : Nat) (cs : List Int) : ∀ i, (rowsOf w i cs).flatten.length ≤ i * w
  | 0 => by simp [rowsOf]
  | i + 1 => by
    have ih := flat_len w cs i
    unfold rowsOf at ih ⊢
    rw [flatten_snoc, List.length_append, List.length_take, Nat.succ_mul]
    omega
theorem text_ev_l0 {w h : Nat} {cs : List Int} (hw : w ≤ 20) (hh : h ≤ 20) (hl : cs.length = w * h) : ∀ (d i : Nat), i + d = h →
    Ev (fun k => spec_tyText.l0 k (strOfNums (joinI (rowsOf w i cs))) i w h cs) (strOfNums (joinI (rowsOf w h cs)))
  | 0, i, hi => by
    obtain rfl : i = h := by omega
    refine Ev.step (f := fun _ => some _) (fun k => ?_) (Ev.now _)
    rw [spec_tyText.l0, if_neg (by omega)]
  | d + 1, i, hi => by
    have ih := text_ev_l0 hw hh hl d (i + 1) (by omega)
    have hwh : w * h ≤ 400 := Nat.mul_le_mul hw hh
    have hi2 : (i + 1) * w ≤ w * h := by rw [Nat.mul_comm w h]; exact Nat.mul_le_mul_right w (by omega)
    have hi3 : (i + 1) * w = i * w + w := by rw [Nat.add_mul, Nat.one_mul]
    have hrow : (cs.take ((i + 1) * w)).drop (i * w) = (cs.drop (i * w)).take w := by rw [List.drop_take]; congr 1; omega
    have hrl : (strOfNums ((cs.drop (i * w)).take w)).size = w := by rw [strOfNums_len, List.length_take, List.length_drop]; omega
    have hsz : (strOfNums (joinI (rowsOf w i cs))).size ≤ 1000 := by
      rw [strOfNums_len]
      rcases Nat.eq_zero_or_pos i with h0 | h0
      · subst h0; simp [rowsOf, joinI]
      · have h1 := joinI_length (rowsOf w i cs) (rowsOf_ne h0)
        have h2 : (rowsOf w i cs).flatten.length ≤ 400 := by
          exact Nat.le_trans (flat_len w cs i) (Nat.le_trans (Nat.mul_le_mul (show i ≤ 20 by omega) hw) (by decide))
        rw [rowsOf_length] at h1
        omega
    have hnext : strOfNums (joinI (rowsOf w (i + 1) cs)) = if 0 < i then (strOfNums (joinI (rowsOf w i cs)) ++ (⟨#[47]⟩ : ByteArray)) ++ strOfNums ((cs.drop (i * w)).take w) else strOfNums (joinI (rowsOf w i cs)) ++ strOfNums ((cs.drop (i * w)).take w) := by
      have hs : rowsOf w (i + 1) cs = rowsOf w i cs ++ [(cs.drop (i * w)).take w] := map_snoc _ i
      rw [hs]
      rcases Nat.eq_zero_or_pos i with h0 | h0
      · subst h0
        rw [if_neg (by omega)]
        rw [← strOfNums_app]; rfl
      · rw [if_pos h0, joinI_snoc _ _ (rowsOf_ne h0), show (47 :: (cs.drop (i * w)).take w : List Int) = [47] ++ (cs.drop (i * w)).take w from rfl, ← List.append_assoc, strOfNums_app, strOfNums_app]; rfl
    rw [hnext] at ih
    refine Ev.step (fun k => ?_) ih
    have e1 : wrap64 ((i : Int) * w) = ((i * w : Nat) : Int) := by rw [← Int.natCast_mul]; exact w64t (by omega)
    have e2 : wrap64 ((((i + 1 : Nat) : Int)) * w) = (((i + 1) * w : Nat) : Int) := by rw [← Int.natCast_mul]; exact w64t (by clear e1; omega)
    have e3 : wrap64 ((i : Int) + 1) = ((i + 1 : Nat) : Int) := w64t (n := i + 1) (by clear e1 e2; omega)
    rw [spec_tyText.l0, e3, e1, e2]
    clear e1 e2 e3
    rw [if_pos (by omega)]
    by_cases h0 : (i : Int) > 0
    · rw [if_pos h0, if_pos (by omega), if_pos (by omega), if_pos (by omega), if_pos (by omega), Int.toNat_natCast, Int.toNat_natCast, hrow, if_pos, if_pos (show 0 < i by omega)]
      rw [ByteArray.size_append, hrl]
      show (strOfNums (joinI (rowsOf w i cs))).size + 1 + w ≤ _
      omega
    · rw [if_neg h0, if_pos (by omega), if_pos (by omega), if_pos (by omega), Int.toNat_natCast, Int.toNat_natCast, hrow, if_pos, if_neg (show ¬ 0 < i by omega)]
      rw [hrl]; omega
theorem spec_text_ev {w h : Nat} {cs : List Int} (hw : w ≤ 20) (hh : h ≤ 20) (hl : cs.length = w * h) : Ev (fun k => spec_tyText.f k w h cs) (textB (w, h, cs)) := by
  have h1 := text_ev_l0 hw hh hl h 0 (by omega)
  exact Ev.congr (fun k => by rfl) h1
theorem join_strs : ∀ rs : List (List Int), Lib.join ((rs.map strOfNums).map (·.data.toList)) [47] = (joinI rs).map fun n => UInt8.ofNat n.toNat
  | [] => rfl
  | [a] => by simp [Lib.join, joinI, strOfNums]
  | a :: b :: rs => by
    have ih := join_strs (b :: rs)
    rw [joinI]
    unfold Lib.join List.intercalate at ih ⊢
    simp only [List.map_cons] at ih ⊢
    rw [List.intersperse, List.flatten_cons, List.flatten_cons, ih]
    · simp [strOfNums]
    all_goals simp
theorem impl_text_eq {g : (Nat × Nat × List Int)} (v : Vg g) : impl_tray_text.f g.1 g.2.1 g.2.2 = some (textB g) := by
  obtain ⟨w, h, cs⟩ := g
  have hl : cs.length = w * h := v.len
  have hw1 : 1 ≤ w := v.w1
  have hw7 : w ≤ 7 := v.w7
  have hh1 : 1 ≤ h := v.h1
  have hs : w * h ≤ 36 := v.small
  have h0 : 0 < w * h := Nat.mul_pos hw1 hh1
  have hd : cs.length / w = h := by rw [hl, Nat.mul_div_cancel_left h (by omega)]
  have hck : chunksB w cs = (rowsOf w h cs).map strOfNums := by
    unfold chunksB rowsOf
    rw [hd, List.map_map]; rfl
  have htl := textG_small v
  have hj := join_strs (rowsOf w h cs)
  have hjl : (joinI (rowsOf w h cs)).length ≤ 42 := htl
  show impl_tray_text.f w h cs = _
  unfold impl_tray_text.f
  rw [if_pos ⟨by omega, by omega, by omega, by rw [Int.toNat_natCast, hl]; exact Nat.mul_mod_right w h, by omega⟩, Int.toNat_natCast, hck]
  unfold strings_Join.f
  rw [if_pos]
  · unfold joinB
    show some (⟨(Lib.join (((rowsOf w h cs).map strOfNums).map (·.data.toList)) [47]).toArray⟩ : ByteArray) = _
    rw [hj]; rfl
  · refine ⟨by rw [List.length_map, rowsOf_length]; have := v.h7; simp only at this; omega, ?_⟩
    show (Lib.join (((rowsOf w h cs).map strOfNums).map (·.data.toList)) [47]).length ≤ _
    rw [hj, List.length_map]
    omega
end Go.Proofs.YtdffgeoegdkiaaaGreatDoor.F

namespace Go.Proofs.YtdffgeoegdkiaaaGreatDoor.F
open Go.Proofs.YtdffgeoegdkiaaaGreatDoor
open Go.RowKit Go.Proofs.YtdffgeoegdkiaaaGreatDoorW.PrintWords Go.Proofs.YtdffgeoegdkiaaaGreatDoorW.PrintLast Go.Proofs.YtdffgeoegdkiaaaGreatDoorW.PrintMore
attribute [local go_sem] max2_int min2_int max_two min_two max_three min_three max_four min_four   -- for this text's walks alone
set_option linter.unusedVariables false
set_option linter.unusedSimpArgs false
def impl_isName.f (a0 : Int) : Option (Bool) := if a0 ≥ 97 then (some (decide (a0 ≤ 102))) else (some false)
set_option maxHeartbeats 8000000 in
set_option maxRecDepth 100000 in
theorem impl_isName.calls (a0 : Int) (r : Bool) (w : World) (h : impl_isName.f a0 = some r) :
  Calls Tryz.prog 150 #[.int .u8 a0] w fun e w' => e = .returned (.bool r) ∧ Drawn0 w w' := by
 have H : (if a0 ≥ 97 then (some (decide (a0 ≤ 102))) else (some false)) = some r := h
 clear h
 by_cases c2 : a0 ≥ 97
 ·rw [if_pos c2] at H
  have c2b0 : decide (97 ≤ a0) = true := decide_eq_true c2
  clear c2
  obtain rfl := Option.some.inj H
  go_enter Tryz.func150, Tryz.ntmps150
  go_wp2
  go_ret
  exact ⟨aq8, aq13⟩
 ·rw [if_neg c2] at H
  have c2b0 : decide (97 ≤ a0) = false := decide_eq_false c2
  clear c2
  obtain rfl := Option.some.inj H
  go_enter Tryz.func150, Tryz.ntmps150
  go_wp2
  go_ret
  exact ⟨aq8, aq13⟩
def slices_Index_byte_byte.l0 : Nat → List Int → Int → Int → Int → Option (Int)
 | 0, _, _, _, _ => none
 | k + 1, x0, x1, x7, x8 => if x8 < x7 then (if 0 ≤ x8 then (if x8 < (x0.length : Int) then (if x1 = (rd x0 x8) then (some x8) else (slices_Index_byte_byte.l0 k x0 x1 x7 (wrap64 (x8 + 1)))) else (none)) else (none)) else (some (-1))
def slices_Index_byte_byte.f (k : Nat) (l0 : List Int) (a1 : Int) : Option (Int) := slices_Index_byte_byte.l0 k l0 a1 (l0.length : Int) 0
theorem slices_Index_byte_byte.mono_l : ∀ k, (∀ y0 y1 y2 y3, LeO (slices_Index_byte_byte.l0 k y0 y1 y2 y3) (slices_Index_byte_byte.l0 (k + 1) y0 y1 y2 y3))
 | 0 => fun _ _ _ _ r h => by simp [slices_Index_byte_byte.l0] at h
 | k + 1 => by
  have ih0 := slices_Index_byte_byte.mono_l k
  ·intro y0 y1 y2 y3
   unfold slices_Index_byte_byte.l0
   repeat' first
   | (with_reducible exact ih0 _ _ _ _)
   | (with_reducible exact LeO.refl _)
   | (with_reducible exact LeO.none _)
   | (with_reducible refine LeO.ite ?_ ?_)
   | (with_reducible refine LeO.bind ?_ (fun _ => ?_))
   | exact ih0 _ _ _ _
   | exact LeO.none _
   | refine LeO.ite ?_ ?_
   | refine LeO.bind ?_ (fun _ => ?_)
theorem slices_Index_byte_byte.mono : ∀ a0 a1 k, LeO (slices_Index_byte_byte.f k a0 a1) (slices_Index_byte_byte.f (k + 1) a0 a1) := by
 intro a0 a1 k
 have ih0 := slices_Index_byte_byte.mono_l k
 unfold slices_Index_byte_byte.f
 repeat' first
   | (with_reducible exact ih0 _ _ _ _)
   | (with_reducible exact LeO.refl _)
   | (with_reducible exact LeO.none _)
   | (with_reducible refine LeO.ite ?_ ?_)
   | (with_reducible refine LeO.bind ?_ (fun _ => ?_))
   | exact ih0 _ _ _ _
   | exact LeO.none _
   | refine LeO.ite ?_ ?_
   | refine LeO.bind ?_ (fun _ => ?_)
set_option maxHeartbeats 8000000 in
set_option maxRecDepth 100000 in
theorem slices_Index_byte_byte.calls (k : Nat) (A0 : Option Addr) (c0 : Nat) (l0 : List Int) (a1 : Int) (r : Int) (w : World) (hr0 : Kd.C (Kd.int .u8) w A0 l0.length l0) (hc0 : l0.length ≤ c0) (h : slices_Index_byte_byte.f k l0 a1 = some r) :
  Calls Tryz.prog 167 #[.slice A0 l0.length c0, .int .u8 a1] w fun e w' => e = .returned (.int .i64 r) ∧ Drawn0 w w' := by
 have HR0 := am hr0
 have HC0 := am hc0
 clear hr0 hc0
 have H : (slices_Index_byte_byte.l0 k l0 a1 (l0.length : Int) 0) = some r := h
 clear h
 have H' := am H
 clear H
 go_enter Tryz.func167, Tryz.ntmps167
 go_wp2
 go_loopg [8] k (fun kq v8 w' => ∃ (x8_1 : Int), v8 = .int .i64 x8_1 ∧ Aside0 (slices_Index_byte_byte.l0 kq l0 a1 (l0.length : Int) x8_1 = some r) ∧ Aside0 (kq ≤ k) ∧ Drawn0 w w')
 case atStart => exact ⟨(0), aq8, H', ⟨Nat.le_refl _⟩, aq13⟩
 case round =>
  clear H'
  try clear c1
  try clear p2
  obtain ⟨x8_1, rfl, HA, HK1, ⟨m1, rfl⟩⟩ := hrel
  cases gk with
  | zero => exact absurd HA.out (by simp [slices_Index_byte_byte.l0])
  | succ k1 =>
   have H := HA.out
   clear HA
   simp only [slices_Index_byte_byte.l0] at H
   by_cases c3 : x8_1 < (l0.length : Int)
   ·rw [if_pos c3] at H
    have c3b0 : decide (x8_1 < (l0.length : Int)) = true := decide_eq_true c3
    clear c3
    by_cases c4 : 0 ≤ x8_1
    ·rw [if_pos c4] at H
     have c4b0 : decide (0 ≤ x8_1) = true := decide_eq_true c4
     clear c4
     by_cases c5 : x8_1 < (l0.length : Int)
     ·rw [if_pos c5] at H
      have c5b0 : decide (x8_1 < (l0.length : Int)) = true := decide_eq_true c5
      clear c5
      by_cases c6 : a1 = (rd l0 x8_1)
      ·rw [if_pos c6] at H
       have c6b0 : (a1 == (rd l0 x8_1)) = true := beq_iff_eq.mpr c6
       have c6b1 : (a1 != (rd l0 x8_1)) = false := bne_eq_false_iff_eq.mpr c6
       clear c6
       obtain rfl := Option.some.inj H
       have p101 : 0 ≤ (x8_1 : Int) := of_decide_eq_true aq5
       have q101 : x8_1 < (l0.length : Int) := of_decide_eq_true aq5
       obtain ⟨ad101, e101, hx101_0⟩ := Kd.at_int HR0.out x8_1 p101 q101
       cases e101
       replace p101 := eq_true p101
       replace q101 := eq_true q101
       go_wp2
       go_ret
       exact ⟨aq8, aq13⟩
      ·rw [if_neg c6] at H
       have c6b0 : (a1 == (rd l0 x8_1)) = false := beq_eq_false_iff_ne.mpr c6
       have c6b1 : (a1 != (rd l0 x8_1)) = true := bne_iff_ne.mpr c6
       have H' := am H
       clear H
       have p101 : 0 ≤ (x8_1 : Int) := of_decide_eq_true aq5
       have q101 : x8_1 < (l0.length : Int) := of_decide_eq_true aq5
       obtain ⟨ad101, e101, hx101_0⟩ := Kd.at_int HR0.out x8_1 p101 q101
       cases e101
       replace p101 := eq_true p101
       replace q101 := eq_true q101
       go_wp2
       go_roundg k1
       case measure => have := HK1.out; omega
       case rel => exact ⟨(wrap64 (x8_1 + 1)), aq8, H', ⟨aq48⟩, aq13⟩
     ·rw [if_neg c5] at H
      exact absurd H (by simp)
    ·rw [if_neg c4] at H
     exact absurd H (by simp)
   ·rw [if_neg c3] at H
    have c3b0 : decide (x8_1 < (l0.length : Int)) = false := decide_eq_false c3
    clear c3
    obtain rfl := Option.some.inj H
    go_wp2
    go_ret
    exact ⟨aq8, aq13⟩
def impl_cellOf.j0 : Nat → ByteArray → ByteArray → Bool → Option (Int × Bool)
 | 0, _, _, _ => none
 | k + 1, x0, x1, x20 => if x20 = true then (some (0, false)) else ((impl_read.f x0).bind fun bt103 => (if 0 < (x1.size : Int) then ((slices_Index_byte_byte.f k bt103.2.2 (bt x1 0)).bind fun t108 => (some (t108, decide (t108 ≥ 0)))) else (none)))
def impl_cellOf.f (k : Nat) (a0 : ByteArray) (a1 : ByteArray) : Option (Int × Bool) := (impl_IsTray.f k a0).bind fun t101 => (if t101 = true then (if (a1.size : Int) = 1 then (if 0 < (a1.size : Int) then ((impl_isName.f (bt a1 0)).bind fun t102 => (impl_cellOf.j0 k a0 a1 (!t102))) else (none)) else (impl_cellOf.j0 k a0 a1 true)) else (impl_cellOf.j0 k a0 a1 true))
theorem impl_cellOf.mono_l : ∀ k, (∀ y0 y1 y2, LeO (impl_cellOf.j0 k y0 y1 y2) (impl_cellOf.j0 (k + 1) y0 y1 y2))
 | 0 => fun _ _ _ r h => by simp [impl_cellOf.j0] at h
 | k + 1 => by
  have ih0 := impl_cellOf.mono_l k
  ·intro y0 y1 y2
   unfold impl_cellOf.j0
   repeat' first
   | (with_reducible exact ih0 _ _ _)
   | (with_reducible exact impl_IsTray.mono _ _)
   | (with_reducible exact slices_Index_byte_byte.mono _ _ _)
   | (with_reducible exact LeO.refl _)
   | (with_reducible exact LeO.none _)
   | (with_reducible refine LeO.ite ?_ ?_)
   | (with_reducible refine LeO.bind ?_ (fun _ => ?_))
   | exact ih0 _ _ _
   | exact impl_IsTray.mono _ _
   | exact slices_Index_byte_byte.mono _ _ _
   | exact LeO.none _
   | refine LeO.ite ?_ ?_
   | refine LeO.bind ?_ (fun _ => ?_)
theorem impl_cellOf.mono : ∀ a0 a1 k, LeO (impl_cellOf.f k a0 a1) (impl_cellOf.f (k + 1) a0 a1) := by
 intro a0 a1 k
 have ih0 := impl_cellOf.mono_l k
 unfold impl_cellOf.f
 repeat' first
   | (with_reducible exact ih0 _ _ _)
   | (with_reducible exact impl_IsTray.mono _ _)
   | (with_reducible exact slices_Index_byte_byte.mono _ _ _)
   | (with_reducible exact LeO.refl _)
   | (with_reducible exact LeO.none _)
   | (with_reducible refine LeO.ite ?_ ?_)
   | (with_reducible refine LeO.bind ?_ (fun _ => ?_))
   | exact ih0 _ _ _
   | exact impl_IsTray.mono _ _
   | exact slices_Index_byte_byte.mono _ _ _
   | exact LeO.none _
   | refine LeO.ite ?_ ?_
   | refine LeO.bind ?_ (fun _ => ?_)
set_option maxHeartbeats 8000000 in
set_option maxRecDepth 100000 in
theorem impl_cellOf.calls (k : Nat) (a0 : ByteArray) (a1 : ByteArray) (r1 : Int) (r2 : Bool) (w : World) (h : impl_cellOf.f k a0 a1 = some (r1, r2)) :
  Calls Tryz.prog 126 #[.string a0, .string a1] w fun e w' => e = .returned (.tuple #[.int .i64 r1, .bool r2]) ∧ Below w.heap.size w w' := by
 have hfd93_2 : ∀ (x0_ x1_ x2_ : Value) (W : World), (Instr.field 93 (.agg #[x0_, x1_, x2_]) 2).run Tryz.prog W = .ok x2_ W := fun _ _ _  _ => by kernel_rfl
 have HB := am (Below.refl w.heap.size w)
 have H : ((impl_IsTray.f k a0).bind fun t101 => (if t101 = true then (if (a1.size : Int) = 1 then (if 0 < (a1.size : Int) then ((impl_isName.f (bt a1 0)).bind fun t102 => (impl_cellOf.j0 k a0 a1 (!t102))) else (none)) else (impl_cellOf.j0 k a0 a1 true)) else (impl_cellOf.j0 k a0 a1 true))) = some (r1, r2) := h
 clear h
 have HC3 := am H
 clear H
 go_enter Tryz.func126, Tryz.ntmps126
 go_upto_region 1 with (fail)
 go_cut [20] (fun v20 wc => ∃ (kq : Nat) (x20_2 : Bool), v20 = .bool x20_2 ∧ Aside0 (impl_cellOf.j0 kq a0 a1 x20_2 = some (r1, r2)) ∧ Aside0 (kq ≤ k) ∧ Aside0 (Below w.heap.size w wc))
 case first =>
  have H := HC3.out
  clear HC3
  replace H := Option.bind_eq_some_iff.mp H
  obtain ⟨t101, A40, H⟩ := H
  replace H : (if t101 = true then (if (a1.size : Int) = 1 then (if 0 < (a1.size : Int) then ((impl_isName.f (bt a1 0)).bind fun t102 => (impl_cellOf.j0 k a0 a1 (!t102))) else (none)) else (impl_cellOf.j0 k a0 a1 true)) else (impl_cellOf.j0 k a0 a1 true)) = some (r1, r2) := H
  have A4 := am A40
  clear A40
  by_cases c5 : t101 = true
  ·subst c5
   have H1 : (if (a1.size : Int) = 1 then (if 0 < (a1.size : Int) then ((impl_isName.f (bt a1 0)).bind fun t102 => (impl_cellOf.j0 k a0 a1 (!t102))) else (none)) else (impl_cellOf.j0 k a0 a1 true)) = some (r1, r2) := by rw [if_pos rfl] at H; exact H
   clear H
   have H := H1
   clear H1
   by_cases c6 : (a1.size : Int) = 1
   ·rw [if_pos c6] at H
    have c6b0 : ((a1.size : Int) == 1) = true := beq_iff_eq.mpr c6
    have c6b1 : ((a1.size : Int) != 1) = false := bne_eq_false_iff_eq.mpr c6
    clear c6
    (first | rw [c6b0] | (simp only [i64_w, i32_w]; rw [c6b0]) | skip)
    by_cases c7 : 0 < (a1.size : Int)
    ·rw [if_pos c7] at H
     have c7b0 : decide (0 < (a1.size : Int)) = true := decide_eq_true c7
     have c7b1 : decide (0 < a1.size) = true := decide_eq_true (by omega)
     clear c7
     replace H := Option.bind_eq_some_iff.mp H
     obtain ⟨t102, A90, H⟩ := H
     replace H : (impl_cellOf.j0 k a0 a1 (!t102)) = some (r1, r2) := H
     have A9 := am A90
     clear A90
     have H' := am H
     clear H
     go_wp2_with (first | ((with_reducible refine gate_callee (f := 55) rfl ?_); refine goesL_ (some 8) rfl rfl Tryz.func55 (by kernel_rfl) rfl #[.string a0] rfl aq3 ?_; (with_reducible refine (impl_IsTray.calls k a0 true _ A4.out).mono ?_); rintro e w10 ⟨rfl, hb⟩; refine ⟨_, rfl, ?_⟩; have n0_ := am (below_step aq1 hb); clear HB; have HB := n0_; clear n0_; (try clear hb); (try clear hb2); (try clear hk); (try clear hi); have p8 : 0 ≤ (0 : Int) := (by omega); have q8 : 0 < a1.size := (by have : (0 : Int) < (a1.size : Int) := of_decide_eq_true aq5; omega); have hx8 : ∀ h : 0 < a1.size, ((a1[0]'h).toNat : Int) = bt a1 0 := bt_at a1 0; clear p8; have qi8 : (0 < (a1.size : Int)) = True := eq_true (of_decide_eq_true aq5); replace q8 := eq_true q8) | (go_at_call 150; (with_reducible refine (impl_isName.calls (bt a1 0) t102 _ A9.out).mono ?_); rintro e w' ⟨rfl, ⟨nd, rfl⟩⟩))
     go_meet
     case rel => exact ⟨_, (!t102), aq8, H', ⟨aq45⟩, ⟨aq1⟩⟩
    ·rw [if_neg c7] at H
     exact absurd H (by simp)
   ·rw [if_neg c6] at H
    have c6b0 : ((a1.size : Int) == 1) = false := beq_eq_false_iff_ne.mpr c6
    have c6b1 : ((a1.size : Int) != 1) = true := bne_iff_ne.mpr c6
    (first | rw [c6b0] | (simp only [i64_w, i32_w]; rw [c6b0]) | skip)
    have H' := am H
    clear H
    go_wp2_with (first | ((with_reducible refine gate_callee (f := 55) rfl ?_); refine goesL_ (some 8) rfl rfl Tryz.func55 (by kernel_rfl) rfl #[.string a0] rfl aq3 ?_; (with_reducible refine (impl_IsTray.calls k a0 true _ A4.out).mono ?_); rintro e w11 ⟨rfl, hb⟩; refine ⟨_, rfl, ?_⟩; have n0_ := am (below_step aq1 hb); clear HB; have HB := n0_; clear n0_; (try clear hb); (try clear hb2); (try clear hk); (try clear hi)))
    go_meet
    case rel => exact ⟨_, (true), aq8, H', ⟨aq45⟩, ⟨aq1⟩⟩
  ·replace c5 := Bool.eq_false_iff.mpr c5
   subst c5
   have H1 : (impl_cellOf.j0 k a0 a1 true) = some (r1, r2) := by rw [if_neg (show ¬ (false = true) by decide)] at H; exact H
   clear H
   have H := H1
   clear H1
   have H' := am H
   clear H
   go_wp2_with (first | ((with_reducible refine gate_callee (f := 55) rfl ?_); refine goesL_ (some 8) rfl rfl Tryz.func55 (by kernel_rfl) rfl #[.string a0] rfl aq3 ?_; (with_reducible refine (impl_IsTray.calls k a0 false _ A4.out).mono ?_); rintro e w12 ⟨rfl, hb⟩; refine ⟨_, rfl, ?_⟩; have n0_ := am (below_step aq1 hb); clear HB; have HB := n0_; clear n0_; (try clear hb); (try clear hb2); (try clear hk); (try clear hi)))
   go_meet
   case rel => exact ⟨_, (true), aq8, H', ⟨aq45⟩, ⟨aq1⟩⟩
 case rest =>
  clear HC3
  try clear c1
  try clear p2
  try clear c5
  try clear c6
  try clear c6b0
  try clear c6b1
  try clear c7
  try clear c7b0
  try clear c7b1
  try clear p8
  try clear q8
  try clear hx8
  try clear qi8
  try clear c12
  try clear p8
  try clear q8
  obtain ⟨kq, x20_2, rfl, HA, HJ2, HB⟩ := hcut
  cases kq with
  | zero => exact absurd HA.out (by simp [impl_cellOf.j0])
  | succ kj2 =>
   have H := HA.out
   clear HA
   simp only [impl_cellOf.j0] at H
   by_cases c13 : x20_2 = true
   ·subst c13
    have H1 : (some (0, false)) = some (r1, r2) := by rw [if_pos rfl] at H; exact H
    clear H
    have H := H1
    clear H1
    simp only [Option.some.injEq, Prod.mk.injEq] at H
    obtain ⟨rfl, rfl⟩ := H
    go_wp2
    go_ret2
    exact ⟨aq7, aq1⟩
   ·replace c13 := Bool.eq_false_iff.mpr c13
    subst c13
    have H1 : ((impl_read.f a0).bind fun bt103 => (if 0 < (a1.size : Int) then ((slices_Index_byte_byte.f kj2 bt103.2.2 (bt a1 0)).bind fun t108 => (some (t108, decide (t108 ≥ 0)))) else (none))) = some (r1, r2) := by rw [if_neg (show ¬ (false = true) by decide)] at H; exact H
    clear H
    have H := H1
    clear H1
    replace H := Option.bind_eq_some_iff.mp H
    obtain ⟨⟨t103, t104, t105⟩, A140, H⟩ := H
    replace H : (if 0 < (a1.size : Int) then ((slices_Index_byte_byte.f kj2 t105 (bt a1 0)).bind fun t108 => (some (t108, decide (t108 ≥ 0)))) else (none)) = some (r1, r2) := H
    have A14 := am A140
    clear A140
    by_cases c15 : 0 < (a1.size : Int)
    ·rw [if_pos c15] at H
     have c15b0 : decide (0 < (a1.size : Int)) = true := decide_eq_true c15
     have c15b1 : decide (0 < a1.size) = true := decide_eq_true (by omega)
     clear c15
     replace H := Option.bind_eq_some_iff.mp H
     obtain ⟨t108, A170, H⟩ := H
     replace H : (some (t108, decide (t108 ≥ 0))) = some (r1, r2) := H
     have A17 := am A170
     clear A170
     simp only [Option.some.injEq, Prod.mk.injEq] at H
     obtain ⟨rfl, rfl⟩ := H
     try go_wp2
     have n0_ := am (below_drew1 HB.out)
     clear HB
     have HB := n0_
     clear n0_
     have p16 : 0 ≤ (0 : Int) := (by omega)
     have q16 : 0 < a1.size := (by have : (0 : Int) < (a1.size : Int) := of_decide_eq_true aq5; omega)
     have hx16 : ∀ h : 0 < a1.size, ((a1[0]'h).toNat : Int) = bt a1 0 := bt_at a1 0
     clear p16
     have qi16 : (0 < (a1.size : Int)) = True := eq_true (of_decide_eq_true aq5)
     replace q16 := eq_true q16
     refine start_ (n := 7) (S := fun w' => True) (ds := []) #[false, false, false, false, false, false, false] (by kernel_rfl) rfl rfl trivial (fun hHeld => ?_)
     generalize wc.drew = w18 at HB hHeld ⊢
     refine pure_ (i := 0) (N := some 21) (v := ?_) (a' := ?_) (bm 7 1) rfl rfl (by kernel_rfl) (fun _ _ _ h => h) (Or.inl ⟨by rfl, ?_⟩) ?_ ?_
     rotate_left
     ·intro w'
      go_simp
      with_reducible rfl
     rotate_left
     ·simp only [Act.put, ac_]
      rfl
     refine pure_ (i := 3) (N := some 24) (v := ?_) (a' := ?_) (bm 7 9) rfl rfl (by kernel_rfl) (fun _ _ _ h => h) (Or.inl ⟨by rfl, ?_⟩) ?_ ?_
     rotate_left
     ·intro w'
      go_simp
      with_reducible rfl
     rotate_left
     ·simp only [Act.put, ac_]
      rfl
     refine take_ (i := 4) (N := some 25) (v := ?_) (a' := ?_) (bm 7 25) rfl rfl (by kernel_rfl) (fun _ _ _ h => h) (Or.inl ⟨by rfl, ?_⟩) hHeld ?_ ?_
     rotate_left
     ·intro w' _
      go_simp
      with_reducible rfl
     rotate_left
     ·simp only [Act.put, ac_]
      rfl
     refine one_ (i := 1) (N := some 22) (bm 7 27) rfl rfl (by kernel_rfl) (by decide) (fun K hK => ?_)
     refine goes_ Tryz.func89 (by kernel_rfl) rfl #[.string a0] (by rfl) rfl rfl aq3 ?_
     with_reducible refine (impl_read.calls a0 t103 t104 t105 _ A14.out).mono ?_
     rintro e w19 ⟨v106, rfl, ho0, hb⟩
     refine ⟨_, rfl, ?_⟩
     have n0_ := am (Kd.V_lower (Kd.V_mono (ok' := fun k_ => True) ho0 (fun k_ hk_ => trivial)) (below_size aq1))
     have n1_ := am (below_step aq1 hb)
     clear HB
     have HO107 := n0_
     have HB := n1_
     clear n0_ n1_
     (try clear hb)
     (try clear hb2)
     (try clear hk)
     (try clear hi)
     (try clear ho0)
     obtain ⟨Ao20, co20, eo20⟩ := Kd.V_slice HO107.out
     (first | subst eo20 | (injection eo20 with f1_ f2_ f3_; have f4_ := f1_.symm; have f5_ := f3_.symm; clear f1_ f2_ f3_; subst f4_; subst f5_))
     refine hK.out _ _ trivial (fun hHeld => ?_)
     clear hK K
     refine norm_ (a' := ?_) ?_ ?_
     rotate_left
     ·show Act.put _ (some 22) _ = _
      simp only [Act.put, ac_]
      rfl
     refine pure_ (i := 2) (N := some 23) (v := ?_) (a' := ?_) (bm 7 31) rfl rfl (by kernel_rfl) (fun _ _ _ h => h) (Or.inl ⟨by rfl, ?_⟩) ?_ ?_
     rotate_left
     ·intro w'
      go_simp
      with_reducible rfl
     rotate_left
     ·simp only [Act.put, ac_]
      rfl
     refine one_ (i := 5) (N := some 26) (bm 7 63) rfl rfl (by kernel_rfl) (by decide) (fun K hK => ?_)
     refine goes_ Tryz.func167 (by kernel_rfl) rfl #[.slice Ao20 t105.length co20, .int .u8 (bt a1 0)] (by rfl) rfl rfl aq3 ?_
     with_reducible refine (slices_Index_byte_byte.calls kj2 _ _ t105 (bt a1 0) t108 _ ?side1 ?side2 A17.out).mono ?_
     (case side1 => repeat (first | exact (Kd.V_reads' HO107.out).2.2 | (with_reducible refine Kd.C_alloc ?_ _) | (with_reducible refine Kd.C_drewN ?_ _) | (with_reducible refine Kd.C_drew ?_)))
     (case side2 => exact (Kd.V_reads' HO107.out).2.1)
     rintro e w' ⟨rfl, ⟨nd, rfl⟩⟩
     refine ⟨_, rfl, ?_⟩
     refine hK.out _ _ trivial (fun hHeld => ?_)
     clear hK K
     refine norm_ (a' := ?_) ?_ ?_
     rotate_left
     ·show Act.put _ (some 26) _ = _
      simp only [Act.put, ac_]
      rfl
     refine pure_ (i := 6) (N := some 6) (v := ?_) (a' := ?_) (bm 7 127) rfl rfl (by kernel_rfl) (fun _ _ _ h => h) (Or.inl ⟨by rfl, ?_⟩) ?_ ?_
     rotate_left
     ·intro w'
      go_simp
      with_reducible rfl
     rotate_left
     ·simp only [Act.put, ac_]
      rfl
     refine done_ (by kernel_rfl) ?_
     try go_wp2
     go_ret2
     exact ⟨aq7, aq1⟩
    ·rw [if_neg c15] at H
     exact absurd H (by simp)
end Go.Proofs.YtdffgeoegdkiaaaGreatDoor.F

namespace Go.Proofs.YtdffgeoegdkiaaaGreatDoor.F
open Go.RowKit Go.Proofs.YtdffgeoegdkiaaaGreatDoor Go.Proofs.YtdffgeoegdkiaaaGreatDoorW.PrintWords
set_option linter.unusedVariables false
set_option linter.unusedSimpArgs false
theorem isName_eq (c : Int) : impl_isName.f c = some (isNameC c) := by
  unfold impl_isName.f isNameC
  by_cases h : c ≥ 97
  · rw [if_pos h]; simp [show 97 ≤ c from h]
  · rw [if_neg h]; simp [show ¬ 97 ≤ c from h]
def firstAt (cs : List Int) (c : Int) : Nat := cs.findIdx (· == c)
theorem first_split {cs : List Int} {c : Int} {i : Nat} (h : ∀ j, j < i → ∀ hj : j < cs.length, cs[j] ≠ c) (hi : i < cs.length) (he : cs[i] = c) : firstAt cs c = i := by
  unfold firstAt
  rw [List.findIdx_eq hi]
  refine ⟨by rw [he]; exact beq_self_eq_true _, fun j hj => ?_⟩
  have := h j hj (by omega)
  simpa using this
theorem first_none {cs : List Int} {c : Int} (h : ∀ j, ∀ hj : j < cs.length, cs[j] ≠ c) : firstAt cs c = cs.length := by
  unfold firstAt
  rw [List.findIdx_eq_length]
  intro x hx
  obtain ⟨j, hj, rfl⟩ := List.getElem_of_mem hx
  have := h j hj
  simpa using this
theorem index_l0 {cs : List Int} (hl : cs.length ≤ 1000) (c : Int) : ∀ (d i : Nat), i + d = cs.length → (∀ j, j < i → ∀ hj : j < cs.length, cs[j] ≠ c) →
    Ev (fun k => slices_Index_byte_byte.l0 k cs c (cs.length : Int) i) (if firstAt cs c < cs.length then (firstAt cs c : Int) else -1)
  | 0, i, hi, hn => by
    obtain rfl : i = cs.length := by omega
    rw [first_none (fun j hj => hn j hj hj), if_neg (by omega)]
    refine Ev.step (f := fun _ => some (-1)) (fun k => ?_) (Ev.now _)
    rw [slices_Index_byte_byte.l0, if_neg (by omega)]
  | d + 1, i, hi, hn => by
    have hlt : i < cs.length := by omega
    have hrd : rd cs (i : Int) = cs[i] := by unfold rd; rw [Int.toNat_natCast, List.getD_eq_getElem?_getD, List.getElem?_eq_getElem hlt]; rfl
    by_cases he : c = cs[i]
    · rw [first_split hn hlt he.symm, if_pos hlt]
      refine Ev.step (f := fun _ => some (i : Int)) (fun k => ?_) (Ev.now _)
      rw [slices_Index_byte_byte.l0, if_pos (by omega), if_pos (by omega), if_pos (by omega), hrd, if_pos he]
    · have ih := index_l0 hl c d (i + 1) (by omega) (fun j hj hj' => by
        by_cases e : j = i
        · subst e; exact fun h => he h.symm
        · exact hn j (by omega) hj')
      refine Ev.step (fun k => ?_) ih
      rw [slices_Index_byte_byte.l0, if_pos (by omega), if_pos (by omega), if_pos (by omega), hrd, if_neg he, show (i : Int) + 1 = ((i + 1 : Nat) : Int) by omega, w64t (by omega)]
def oneName (c : ByteArray) : Bool := decide (c.size = 1) && isNameC (bt c 0)
def cellOfAns (s c : ByteArray) : Int × Bool := match tyGrid (bytesOf s) with
  | none => (0, false)
  | some g => if oneName c = true then (if firstAt g.2.2 (bt c 0) < g.2.2.length then ((firstAt g.2.2 (bt c 0) : Int), true) else (-1, false)) else (0, false)
theorem impl_cellOf_ev (s c : ByteArray) (hs : s.size < 4294967281) : Ev (fun k => impl_cellOf.f k s c) (cellOfAns s c) := by
  have h1 := impl_IsTray_ev s hs
  have hno : Ev (fun k => impl_cellOf.j0 k s c true) (0, false) :=
    Ev.step (f := fun _ => some (0, false)) (fun k => by rw [impl_cellOf.j0, if_pos rfl]) (Ev.now _)
  unfold cellOfAns
  cases hg : tyGrid (bytesOf s) with
  | none =>
    rw [hg] at h1
    exact Ev.bind h1 (Ev.congr (fun k => if_neg (by simp)) hno)
  | some g =>
    rw [hg] at h1
    obtain ⟨v, _⟩ := textB_grid hg
    obtain ⟨w, h, cs⟩ := g
    refine Ev.bind h1 (Ev.congr (fun k => if_pos rfl) ?_)
    unfold oneName
    by_cases hc : c.size = 1
    · refine Ev.congr (fun k => by rw [if_pos (show (c.size : Int) = 1 by omega), if_pos (show 0 < (c.size : Int) by omega), isName_eq, Option.bind_some]) ?_
      cases hn : isNameC (bt c 0) with
      | false => simp only [hc, decide_true, Bool.true_and, Bool.false_eq_true, if_false]; exact hno
      | true =>
        have hl : cs.length ≤ 1000 := by rw [show cs.length = w * h from v.len]; have := v.small; simp only at this; omega
        have h2 := index_l0 hl (bt c 0) cs.length 0 (by omega) (fun j hj => by omega)
        simp only [hc, decide_true, Bool.true_and, if_true]
        refine Ev.step (f := fun k => (slices_Index_byte_byte.f k cs (bt c 0)).bind fun t108 => (some (t108, decide (t108 ≥ 0)))) (fun k => ?_) ?_
        · rw [impl_cellOf.j0, if_neg (by simp), impl_read_eq s hg, Option.bind_some, if_pos (by omega)]
        · refine Ev.bind h2 ?_
          refine Ev.congr (fun k => ?_) (Ev.now _)
          by_cases hf : firstAt cs (bt c 0) < cs.length
          · rw [if_pos hf, if_pos hf]; simp
          · rw [if_neg hf, if_neg hf]; simp
    · refine Ev.congr (fun k => by rw [if_neg (show ¬ (c.size : Int) = 1 by omega)]) ?_
      simp only [hc, decide_false, Bool.false_and, Bool.false_eq_true, if_false]
      exact hno
end Go.Proofs.YtdffgeoegdkiaaaGreatDoor.F

namespace Go.Proofs.YtdffgeoegdkiaaaGreatDoor
open Go.RowKit Go.Proofs.YtdffgeoegdkiaaaGreatDoorW.PrintWords Go.Proofs.YtdffgeoegdkiaaaGreatDoorW.PrintLast Go.Proofs.YtdffgeoegdkiaaaGreatDoorW.PrintMore Go.Lib Go.Shelf
set_option linter.unusedVariables false
set_option linter.unusedSimpArgs false
def inR (lo hi x : Int) : Bool := decide (lo ≤ x) && decide (x ≤ hi)
theorem within_calls (a0 a1 a2 : Int) (w : World) :
    Calls Tryz.prog 56 #[.int .i64 a0, .int .i64 a1, .int .i64 a2] w fun e w' => e = .returned (.bool (inR a1 a2 a0)) ∧ Drawn0 w w' := by
  unfold inR
  by_cases c4 : a1 ≤ a0
  · have c4b0 : decide (a1 ≤ a0) = true := decide_eq_true c4
    rw [c4b0]
    go_enter Tryz.func56, Tryz.ntmps56
    go_wp2
    go_ret
    exact ⟨by first | rfl | (simp; done) | (simp [*]; done), by repeat (first | exact Drawn0.refl _ | apply Drawn0.step)⟩
  · have c4b0 : decide (a1 ≤ a0) = false := decide_eq_false c4
    rw [c4b0]
    go_enter Tryz.func56, Tryz.ntmps56
    go_wp2
    go_ret
    exact ⟨by first | rfl | (simp; done) | (simp [*]; done), by repeat (first | exact Drawn0.refl _ | apply Drawn0.step)⟩
theorem notWithin_pred (lo hi : Int) (B C : Nat) (w : World) (hB : B < w.heap.size) (hC : C < w.heap.size) (h1 : w.cell? ⟨B, 0, none⟩ = some (.int .i64 lo)) (h2 : w.cell? ⟨C, 0, none⟩ = some (.int .i64 hi)) :
    PredAt Tryz.prog 195 #[.pointer (some ⟨B, 0, none⟩), .pointer (some ⟨C, 0, none⟩)] (Value.int .i64) (fun x => !(inR lo hi x)) w := fun W x hb => by
  have hc1 : W.cell? ⟨B, 0, none⟩ = some (.int .i64 lo) := (hb.cell (p := ⟨B, 0, none⟩) hB).trans h1
  have hc2 : W.cell? ⟨C, 0, none⟩ = some (.int .i64 hi) := (hb.cell (p := ⟨C, 0, none⟩) hC).trans h2
  have hcall := fun W => within_calls x lo hi W
  show Calls Tryz.prog 195 #[.int .i64 x, .pointer (some ⟨B, 0, none⟩), .pointer (some ⟨C, 0, none⟩)] W _
  go_enter Tryz.func195, Tryz.ntmps195
  go_wp2_with (first | (go_at_call 56; refine (hcall _).mono ?_; rintro e w' ⟨rfl, ⟨nd, rfl⟩⟩))
  all_goals (go_ret; exact ⟨by first | rfl | (simp; done) | (simp [*]; done), ⟨_, rfl⟩⟩)
def impl_areWithin.f (l : List Int) (lo hi : Int) : Option Bool := some (l.all (inR lo hi))
set_option maxHeartbeats 1000000 in
theorem impl_areWithin.calls (A0 : Option Addr) (c0 : Nat) (l0 : List Int) (a1 a2 : Int) (r : Bool) (w : World) (hr0 : Kd.C (Kd.int .i64) w A0 l0.length l0) (hc0 : l0.length ≤ c0) (h : impl_areWithin.f l0 a1 a2 = some r) :
    Calls Tryz.prog 168 #[.slice A0 l0.length c0, .int .i64 a1, .int .i64 a2] w fun e w' => e = .returned (.bool r) ∧ Below w.heap.size w w' := by
  unfold impl_areWithin.f at h
  injection h with h
  subst h
  have hlen : l0.length ≤ 9223372036854775807 := hr0.2.1
  have e71 : ∀ args w, (callFunc 195 args).run Tryz.prog w = .ok (.enter 195 args) w := enters_of Tryz.func195 (by kernel_rfl) rfl
  have hcon : Calls Tryz.prog 194 #[.slice A0 l0.length c0, .func (.func 195) #[] #[.pointer (some ⟨w.heap.size, 0, none⟩), .pointer (some ⟨w.heap.size + 1, 0, none⟩)]] ((w.alloc (.cells #[.int .i64 a1] 3)).alloc (.cells #[.int .i64 a2] 3)) fun e w' => e = .returned (.bool (l0.any (fun x => !(inR a1 a2 x)))) ∧ Below w.heap.size w w' := by
    have hbw : Below w.heap.size w ((w.alloc (.cells #[.int .i64 a1] 3)).alloc (.cells #[.int .i64 a2] 3)) := below_alloc (below_alloc (Below.refl _ w) _) _
    rcases Nat.eq_zero_or_pos l0.length with h0 | h0
    · obtain rfl : l0 = [] := List.eq_nil_of_length_eq_zero h0
      exact (Tryz.slices_ContainsFunc_empty (α := Int) A0 c0 _ _).mono fun e w' ⟨he, hw⟩ => ⟨he, hw ▸ hbw⟩
    · obtain ⟨bk, o, rfl, hbk, hcells⟩ := C_place hr0 h0
      have hpred := notWithin_pred a1 a2 w.heap.size (w.heap.size + 1) ((w.alloc (.cells #[.int .i64 a1] 3)).alloc (.cells #[.int .i64 a2] 3)) (by simp; omega) (by simp) (by simp) (by simp)
      refine (Tryz.slices_ContainsFunc (α := Int) (Value.int .i64) (fun x => !(inR a1 a2 x)) 195 _ e71 bk o l0.length c0 l0 _ hpred (Nat.le_refl _) hlen ?_).mono ?_
      · intro j hj
        rw [hbw.cell (p := ⟨bk, o + j, none⟩) hbk]
        exact hcells j _ (by simp [hj])
      · rintro e w' ⟨he, q, rfl⟩
        rw [List.take_length] at he
        exact ⟨he, pw_below_drewN hbw q⟩
  have hall : l0.all (inR a1 a2) = !(l0.any (fun x => !(inR a1 a2 x))) := by
    rw [List.not_any_eq_all_not]; simp
  rw [hall]
  generalize l0.any (fun x => !(inR a1 a2 x)) = b at hcon ⊢
  go_enter Tryz.func168, Tryz.ntmps168
  go_wp2_with (first | (go_at_call 194; refine hcon.mono ?_; rintro e w' ⟨rfl, hb⟩))
  go_ret
  exact ⟨rfl, hb⟩
end Go.Proofs.YtdffgeoegdkiaaaGreatDoor

namespace Go.Proofs.YtdffgeoegdkiaaaGreatDoor.F
open Go.Proofs.YtdffgeoegdkiaaaGreatDoor
open Go.RowKit Go.Proofs.YtdffgeoegdkiaaaGreatDoorW.PrintWords Go.Proofs.YtdffgeoegdkiaaaGreatDoorW.PrintLast Go.Proofs.YtdffgeoegdkiaaaGreatDoorW.PrintMore
attribute [local go_sem] max2_int min2_int max_two min_two max_three min_three max_four min_four   -- for this text's walks alone
set_option linter.unusedVariables false
set_option linter.unusedSimpArgs false
def impl_isNumber.f (k : Nat) (a0 : ByteArray) (l1 : List Int) : Option (Bool) := (impl_IsTray.f k a0).bind fun t101 => (if t101 = true then ((impl_read.f a0).bind fun bt102 => ((impl_areWithin.f l1 0 (wrap64 ((bt102.2.2.length : Int) - 1))).bind fun t107 => (some t107))) else (some false))
theorem impl_isNumber.mono : ∀ a0 a1 k, LeO (impl_isNumber.f k a0 a1) (impl_isNumber.f (k + 1) a0 a1) := by
 intro a0 a1 k
 unfold impl_isNumber.f
 repeat' first
   | (with_reducible exact impl_IsTray.mono _ _)
   | (with_reducible exact LeO.refl _)
   | (with_reducible exact LeO.none _)
   | (with_reducible refine LeO.ite ?_ ?_)
   | (with_reducible refine LeO.bind ?_ (fun _ => ?_))
   | exact impl_IsTray.mono _ _
   | exact LeO.none _
   | refine LeO.ite ?_ ?_
   | refine LeO.bind ?_ (fun _ => ?_)
set_option maxHeartbeats 8000000 in
set_option maxRecDepth 100000 in
theorem impl_isNumber.calls (k : Nat) (a0 : ByteArray) (A1 : Option Addr) (c1 : Nat) (l1 : List Int) (r : Bool) (w : World) (hr1 : Kd.C (Kd.int .i64) w A1 l1.length l1) (hc1 : l1.length ≤ c1) (h : impl_isNumber.f k a0 l1 = some r) :
  Calls Tryz.prog 127 #[.string a0, .slice A1 l1.length c1] w fun e w' => e = .returned (.bool r) ∧ Below w.heap.size w w' := by
 have hfd93_2 : ∀ (x0_ x1_ x2_ : Value) (W : World), (Instr.field 93 (.agg #[x0_, x1_, x2_]) 2).run Tryz.prog W = .ok x2_ W := fun _ _ _  _ => by kernel_rfl
 have HR1 := am hr1
 have HC1 := am hc1
 clear hr1 hc1
 have HB := am (Below.refl w.heap.size w)
 have H : ((impl_IsTray.f k a0).bind fun t101 => (if t101 = true then ((impl_read.f a0).bind fun bt102 => ((impl_areWithin.f l1 0 (wrap64 ((bt102.2.2.length : Int) - 1))).bind fun t107 => (some t107))) else (some false))) = some r := h
 clear h
 replace H := Option.bind_eq_some_iff.mp H
 obtain ⟨t101, A30, H⟩ := H
 replace H : (if t101 = true then ((impl_read.f a0).bind fun bt102 => ((impl_areWithin.f l1 0 (wrap64 ((bt102.2.2.length : Int) - 1))).bind fun t107 => (some t107))) else (some false)) = some r := H
 have A3 := am A30
 clear A30
 by_cases c4 : t101 = true
 ·subst c4
  have H1 : ((impl_read.f a0).bind fun bt102 => ((impl_areWithin.f l1 0 (wrap64 ((bt102.2.2.length : Int) - 1))).bind fun t107 => (some t107))) = some r := by rw [if_pos rfl] at H; exact H
  clear H
  have H := H1
  clear H1
  replace H := Option.bind_eq_some_iff.mp H
  obtain ⟨⟨t102, t103, t104⟩, A50, H⟩ := H
  replace H : ((impl_areWithin.f l1 0 (wrap64 ((t104.length : Int) - 1))).bind fun t107 => (some t107)) = some r := H
  have A5 := am A50
  clear A50
  replace H := Option.bind_eq_some_iff.mp H
  obtain ⟨t107, A60, H⟩ := H
  replace H : (some t107) = some r := H
  have A6 := am A60
  clear A60
  obtain rfl := Option.some.inj H
  go_enter Tryz.func127, Tryz.ntmps127
  go_wp2_with (first | ((with_reducible refine gate_callee (f := 55) rfl ?_); refine goesL_ (some 6) rfl rfl Tryz.func55 (by kernel_rfl) rfl #[.string a0] rfl aq3 ?_; (with_reducible refine (impl_IsTray.calls k a0 true _ A3.out).mono ?_); rintro e w7 ⟨rfl, hb⟩; refine ⟨_, rfl, ?_⟩; have n0_ := am (below_step aq1 hb); clear HB; have HB := n0_; clear n0_; (try clear hb); (try clear hb2); (try clear hk); (try clear hi)) | (go_at_call 89; (with_reducible refine (impl_read.calls a0 t102 t103 t104 _ A5.out).mono ?_); rintro e w8 ⟨v105, rfl, ho0, hb⟩; have n0_ := am (Kd.V_lower (Kd.V_mono (ok' := fun k_ => True) ho0 (fun k_ hk_ => trivial)) (below_size aq1)); have n1_ := am (below_step aq1 hb); clear HB; have HO106 := n0_; have HB := n1_; clear n0_ n1_; (try clear hb); (try clear hb2); (try clear hk); (try clear hi); (try clear ho0); obtain ⟨Ao9, co9, eo9⟩ := Kd.V_slice HO106.out; subst eo9) | (go_at_call 168; (with_reducible refine (impl_areWithin.calls _ _ l1 0 (wrap64 ((t104.length : Int) - 1)) t107 _ ?side1 ?side2 A6.out).mono ?_); (case side1 => repeat (first | exact (Kd.C_below HR1.out HB.out) | (with_reducible refine Kd.C_alloc ?_ _) | (with_reducible refine Kd.C_drewN ?_ _) | (with_reducible refine Kd.C_drew ?_))); (case side2 => exact HC1.out); rintro e w10 ⟨rfl, hb⟩; have n0_ := am (Kd.V_below (by (with_reducible repeat (first | apply Kd.V_alloc | apply Kd.V_drewN | apply Kd.V_drew)); exact HO106.out) hb); have n1_ := am (below_step aq1 hb); clear HO106; clear HB; have HO106 := n0_; have HB := n1_; clear n0_ n1_; (try clear hb); (try clear hb2); (try clear hk); (try clear hi)))
  go_ret
  exact ⟨aq7, aq1⟩
 ·replace c4 := Bool.eq_false_iff.mpr c4
  subst c4
  have H1 : (some false) = some r := by rw [if_neg (show ¬ (false = true) by decide)] at H; exact H
  clear H
  have H := H1
  clear H1
  obtain rfl := Option.some.inj H
  go_enter Tryz.func127, Tryz.ntmps127
  go_wp2_with (first | ((with_reducible refine gate_callee (f := 55) rfl ?_); refine goesL_ (some 6) rfl rfl Tryz.func55 (by kernel_rfl) rfl #[.string a0] rfl aq3 ?_; (with_reducible refine (impl_IsTray.calls k a0 false _ A3.out).mono ?_); rintro e w11 ⟨rfl, hb⟩; refine ⟨_, rfl, ?_⟩; have n0_ := am (below_step aq1 hb); clear HB; have HB := n0_; clear n0_; (try clear hb); (try clear hb2); (try clear hk); (try clear hi)))
  go_ret
  exact ⟨aq7, aq1⟩
def impl_IsPuzzle.f (k : Nat) (a0_0 : ByteArray) (a0_1 : ByteArray) (a0_2 : Int) : Option (Bool) := (impl_cellOf.f k a0_0 a0_1).bind fun bt102 => (if bt102.2 = true then ((impl_isNumber.f k a0_0 (([a0_2] : List Int))).bind fun t107 => (if t107 = true then ((impl_read.f a0_0).bind fun bt108 => (if 0 ≤ a0_2 then (if a0_2 < (bt108.2.2.length : Int) then (some ((rd bt108.2.2 a0_2) != 35)) else (none)) else (none))) else (some false))) else (some false))
theorem impl_IsPuzzle.mono : ∀ a0 a1 a2 k, LeO (impl_IsPuzzle.f k a0 a1 a2) (impl_IsPuzzle.f (k + 1) a0 a1 a2) := by
 intro a0 a1 a2 k
 unfold impl_IsPuzzle.f
 repeat' first
   | (with_reducible exact impl_cellOf.mono _ _ _)
   | (with_reducible exact impl_isNumber.mono _ _ _)
   | (with_reducible exact LeO.refl _)
   | (with_reducible exact LeO.none _)
   | (with_reducible refine LeO.ite ?_ ?_)
   | (with_reducible refine LeO.bind ?_ (fun _ => ?_))
   | exact impl_cellOf.mono _ _ _
   | exact impl_isNumber.mono _ _ _
   | exact LeO.none _
   | refine LeO.ite ?_ ?_
   | refine LeO.bind ?_ (fun _ => ?_)
def impl_IsPuzzle.T2 : Bool × List (List Nat × List Nat) := (true, [([], []), ([0], [0]), ([1], [1]), ([2, 1], [1, 2]), ([1], [1]), ([4, 1], [1, 4]), ([5, 1], [1, 5]), ([3, 6, 1, 1], [1, 3, 6]), ([1, 7], [1, 7]), ([8, 7], [8]), ([9], [9]), ([10, 9], [9, 10]), ([11, 9, 9], [9, 11]), ([12, 9], [9, 12]), ([9], [9]), ([14, 9], [9, 14]), ([13, 15, 9], [9, 13, 15]), ([16, 9], [9, 16]), ([17, 9], [9, 17]), ([9, 18], [9, 18]), ([19, 12, 0, 1, 2, 3, 4, 5, 6, 7, 8, 9, 10, 11, 12, 13, 14, 15, 16, 17, 18, 19], [19])])
def impl_IsPuzzle.B2 : List Nat := [0, 1, 3, 7, 3, 19, 51, 127, 255, 511, 1023, 2047, 4095, 8191, 1023, 17407, 65535, 131071, 262143, 524287, 1048575]
theorem impl_IsPuzzle.tab2 : rtab .any (opsOf Tryz.f88 2) = impl_IsPuzzle.T2 := by kernel_rfl
theorem impl_IsPuzzle.bits2 : waitsOk impl_IsPuzzle.T2.2 impl_IsPuzzle.B2 = true := by kernel_rfl
set_option maxHeartbeats 8000000 in
set_option maxRecDepth 100000 in
theorem impl_IsPuzzle.calls (k : Nat) (a0_0 : ByteArray) (a0_1 : ByteArray) (a0_2 : Int) (r : Bool) (w : World) (h : impl_IsPuzzle.f k a0_0 a0_1 a0_2 = some r) :
  Calls Tryz.prog 88 #[.agg #[.string a0_0, .string a0_1, .int .i64 a0_2]] w fun e w' => e = .returned (.bool r) ∧ Below w.heap.size w w' := by
 have hu56 := Tryz.underlying56
 have hfd93_2 : ∀ (x0_ x1_ x2_ : Value) (W : World), (Instr.field 93 (.agg #[x0_, x1_, x2_]) 2).run Tryz.prog W = .ok x2_ W := fun _ _ _  _ => by kernel_rfl
 have HB := am (Below.refl w.heap.size w)
 have H : ((impl_cellOf.f k a0_0 a0_1).bind fun bt102 => (if bt102.2 = true then ((impl_isNumber.f k a0_0 (([a0_2] : List Int))).bind fun t107 => (if t107 = true then ((impl_read.f a0_0).bind fun bt108 => (if 0 ≤ a0_2 then (if a0_2 < (bt108.2.2.length : Int) then (some ((rd bt108.2.2 a0_2) != 35)) else (none)) else (none))) else (some false))) else (some false))) = some r := h
 clear h
 replace H := Option.bind_eq_some_iff.mp H
 obtain ⟨⟨t102, t103⟩, A20, H⟩ := H
 replace H : (if t103 = true then ((impl_isNumber.f k a0_0 (([a0_2] : List Int))).bind fun t107 => (if t107 = true then ((impl_read.f a0_0).bind fun bt108 => (if 0 ≤ a0_2 then (if a0_2 < (bt108.2.2.length : Int) then (some ((rd bt108.2.2 a0_2) != 35)) else (none)) else (none))) else (some false))) else (some false)) = some r := H
 have A2 := am A20
 clear A20
 by_cases c3 : t103 = true
 ·subst c3
  have H1 : ((impl_isNumber.f k a0_0 (([a0_2] : List Int))).bind fun t107 => (if t107 = true then ((impl_read.f a0_0).bind fun bt108 => (if 0 ≤ a0_2 then (if a0_2 < (bt108.2.2.length : Int) then (some ((rd bt108.2.2 a0_2) != 35)) else (none)) else (none))) else (some false))) = some r := by rw [if_pos rfl] at H; exact H
  clear H
  have H := H1
  clear H1
  obtain ⟨y104, hy104⟩ : ∃ y_ : List Int, y_ = (([a0_2] : List Int)) := ⟨_, rfl⟩
  replace H : ((impl_isNumber.f k a0_0 y104).bind fun t107 => (if t107 = true then ((impl_read.f a0_0).bind fun bt108 => (if 0 ≤ a0_2 then (if a0_2 < (bt108.2.2.length : Int) then (some ((rd bt108.2.2 a0_2) != 35)) else (none)) else (none))) else (some false))) = some r := by first | (rw [hy104]; with_reducible exact H) | (have H2_ := (Option.bind_some _ _).symm.trans H; rw [hy104]; with_reducible exact H2_) | (have H2_ := (Option.bind_some _ _).symm.trans H; with_reducible exact H2_) | with_reducible exact H | (rw [hy104]; exact H) | exact H
  have Ny104 := am hy104
  clear hy104
  replace H := Option.bind_eq_some_iff.mp H
  obtain ⟨t107, A40, H⟩ := H
  replace H : (if t107 = true then ((impl_read.f a0_0).bind fun bt108 => (if 0 ≤ a0_2 then (if a0_2 < (bt108.2.2.length : Int) then (some ((rd bt108.2.2 a0_2) != 35)) else (none)) else (none))) else (some false)) = some r := H
  have A4 := am A40
  clear A40
  by_cases c5 : t107 = true
  ·subst c5
   have H1 : ((impl_read.f a0_0).bind fun bt108 => (if 0 ≤ a0_2 then (if a0_2 < (bt108.2.2.length : Int) then (some ((rd bt108.2.2 a0_2) != 35)) else (none)) else (none))) = some r := by rw [if_pos rfl] at H; exact H
   clear H
   have H := H1
   clear H1
   replace H := Option.bind_eq_some_iff.mp H
   obtain ⟨⟨t108, t109, t110⟩, A60, H⟩ := H
   replace H : (if 0 ≤ a0_2 then (if a0_2 < (t110.length : Int) then (some ((rd t110 a0_2) != 35)) else (none)) else (none)) = some r := H
   have A6 := am A60
   clear A60
   by_cases c7 : 0 ≤ a0_2
   ·rw [if_pos c7] at H
    have c7b0 : decide (0 ≤ a0_2) = true := decide_eq_true c7
    clear c7
    by_cases c8 : a0_2 < (t110.length : Int)
    ·rw [if_pos c8] at H
     have c8b0 : decide (a0_2 < (t110.length : Int)) = true := decide_eq_true c8
     clear c8
     obtain rfl := Option.some.inj H
     go_enter Tryz.func88, Tryz.ntmps88
     try go_wp2_with (first | ((with_reducible refine gate_dst (N := 1) rfl ?_); (try (refine gate_guard (by rfl) ?_; dsimp only)); refine box_event ?hg (N := 1) ?hd (cs := #[.string a0_0, .string a0_1, .int .i64 a0_2]) (t := 56) ?hr ?_; (case hd => rfl); (case hg => rfl); (case hr => exact aq9); intro gb101 hg w9 hbox hb; have n0_ := am (below_step aq1 hb); have n1_ := am (hbox); have n2_ := am ((by rw [hg]; exact (below_size aq1) : w.heap.size ≤ gb101)); have n3_ := am ((by rw [hg]; exact (below_size aq1) : w.heap.size ≤ gb101)); clear HB; have HB := n0_; have BK101 := n1_; have GW101 := n2_; have GE101 := n3_; clear n0_ n1_ n2_ n3_; clear hb hbox hg; have hcz10_0 : w9.cell? ⟨gb101, 0, none⟩ = some (.string a0_0) := (blk_cell BK101.out 0).trans rfl; have hcz10_1 : w9.cell? ⟨gb101, 1, none⟩ = some (.string a0_1) := (blk_cell BK101.out 1).trans rfl; have hcz10_2 : w9.cell? ⟨gb101, 2, none⟩ = some (.int .i64 a0_2) := (blk_cell BK101.out 2).trans rfl; have hfz10_0 := blk_frozen BK101.out 0; have hfz10_1 := blk_frozen BK101.out 1; have hfz10_2 := blk_frozen BK101.out 2) | ((with_reducible refine gate_callee (f := 126) rfl ?_); refine goesL_ (some 10) rfl rfl Tryz.func126 (by kernel_rfl) rfl #[.string a0_0, .string a0_1] rfl aq3 ?_; (with_reducible refine (impl_cellOf.calls k a0_0 a0_1 t102 true _ A2.out).mono ?_); rintro e w11 ⟨rfl, hb⟩; refine ⟨_, rfl, ?_⟩; have n0_ := am (blk_below (g := gb101) (o := .cells #[.string a0_0, .string a0_1, .int .i64 a0_2] 56 (0, 0)) aq2 hb); have n1_ := am (below_step aq0 hb); clear BK101; clear HB; have BK101 := n0_; have HB := n1_; clear n0_ n1_; (try clear hb); (try clear hb2); (try clear hk); (try clear hi)))
     have n0_ := am (blk_drew BK101.out)
     have n1_ := am (below_drew1 HB.out)
     clear BK101
     clear HB
     have BK101 := n0_
     have HB := n1_
     clear n0_ n1_
     refine start_ (n := 21) (S := fun w' => w'.cell? ⟨gb101, 0, none⟩ = some (.string a0_0) ∧ w'.cell? ⟨gb101, 1, none⟩ = some (.string a0_1) ∧ w'.cell? ⟨gb101, 2, none⟩ = some (.int .i64 a0_2)) (ds := []) #[false, false, false, false, false, false, false, false, false, false, false, false, false, false, false, false, false, false, false, false, false] (by kernel_rfl) rfl rfl ⟨(blk_cell BK101.out 0).trans rfl, (blk_cell BK101.out 1).trans rfl, (blk_cell BK101.out 2).trans rfl⟩ (fun hHeld => ?_); refine with_tabW impl_IsPuzzle.tab2 impl_IsPuzzle.bits2 (fun HT_ HW_ => ?_)
     generalize w11.drew = w12 at BK101 HB hHeld ⊢
     refine pure_ (i := 0) (N := some 13) (v := ?_) (a' := ?_) (bm 21 1) rfl rfl (any_of HT_.out (by kernel_rfl)) (fun _ _ _ h => h) (Or.inl ⟨by rfl, ?_⟩) ?_ ?_
     rotate_left
     ·intro w'
      go_simp
      with_reducible rfl
     rotate_left
     ·simp only [Act.put, ac_]
      rfl
     refine pure_ (i := 1) (N := some 14) (v := ?_) (a' := ?_) (bm 21 3) rfl rfl (any_of HT_.out (by kernel_rfl)) (fun _ _ _ h => h) (Or.inl ⟨by rfl, ?_⟩) ?_ ?_
     rotate_left
     ·intro w'
      go_simp
      with_reducible rfl
     rotate_left
     ·simp only [Act.put, ac_]
      rfl
     refine pure_ (i := 2) (N := some 15) (v := ?_) (a' := ?_) (bm 21 7) rfl rfl (any_of HT_.out (by kernel_rfl)) (fun _ _ _ h => h) (Or.inl ⟨by rfl, ?_⟩) ?_ ?_
     rotate_left
     ·intro w'
      go_simp
      with_reducible rfl
     rotate_left
     ·simp only [Act.put, ac_]
      rfl
     refine pure_ (i := 4) (N := some 17) (v := ?_) (a' := ?_) (bm 21 23) rfl rfl (any_of HT_.out (by kernel_rfl)) (fun _ _ _ h => h) (Or.inl ⟨by rfl, ?_⟩) ?_ ?_
     rotate_left
     ·intro w'
      go_simp
      with_reducible rfl
     rotate_left
     ·simp only [Act.put, ac_]
      rfl
     refine take_ (i := 3) (N := some 16) (v := ?_) (a' := ?_) (bm 21 31) rfl rfl (take_ofW HT_.out HW_.out (by kernel_rfl)) (fun _ _ _ h => h) (Or.inl ⟨by rfl, ?_⟩) hHeld ?_ ?_
     rotate_left
     ·rintro w' ⟨s0, s1, s2⟩
      go_simp
      with_reducible rfl
     rotate_left
     ·simp only [Act.put, ac_]
      rfl
     refine take_ (i := 5) (N := some 18) (v := ?_) (a' := ?_) (bm 21 63) rfl rfl (take_ofW HT_.out HW_.out (by kernel_rfl)) (fun _ _ _ h => h) (Or.inl ⟨by rfl, ?_⟩) hHeld ?_ ?_
     rotate_left
     ·rintro w' ⟨s0, s1, s2⟩
      go_simp
      with_reducible rfl
     rotate_left
     ·simp only [Act.put, ac_]
      rfl
     refine one_ (i := 6) (N := some 19) (bm 21 127) rfl rfl (one_of HT_.out (by kernel_rfl)) (by decide) (fun K hK => ?_)
     refine Kd.R_lit_step (Kd.int .i64) _ 3 ?hg (N := 19) ?hd (xs := ([a0_2] : List Int)) (inner := [.int .i64 a0_2]) (ok := fun _ => True) (okp := fun _ => True) ?hr ?hp (fun _ hk => hk) trivial (Below.refl _ _) (Nat.le_refl _) (by simp) ?_; (case hd => rfl); (case hg => rfl); (case hr => exact aq9); (case hp => exact (Reps.one (show Kd.M (Kd.int .i64) _ _ _ a0_2 [.int .i64 a0_2] from rfl) (Reps.none _ _)))
     intro v105 w13 ho14 hb hg_ hnew_
     clear hg_ hnew_
     (first | rw [← Ny104.out] at ho14 | (simp only [Int.reduceToNat] at ho14; rw [← Ny104.out] at ho14))
     have n0_ := am (Kd.R_lower ho14 (below_size aq0))
     have n1_ := am (blk_below (g := gb101) (o := .cells #[.string a0_0, .string a0_1, .int .i64 a0_2] 56 (0, 0)) aq2 hb)
     have n2_ := am (below_step aq0 hb)
     clear BK101
     clear HB
     have HO106 := n0_
     have BK101 := n1_
     have HB := n2_
     clear n0_ n1_ n2_
     clear hb ho14
     obtain ⟨Ao15, co15, eo15⟩ := Kd.R_slice HO106.out
     (first | subst eo15 | (injection eo15 with f1_ f2_ f3_; have f4_ := f1_.symm; have f5_ := f3_.symm; clear f1_ f2_ f3_; subst f4_; subst f5_))
     refine hK.out _ _ ⟨(blk_cell BK101.out 0).trans rfl, (blk_cell BK101.out 1).trans rfl, (blk_cell BK101.out 2).trans rfl⟩ (fun hHeld => ?_)
     clear hK K
     refine norm_ (a' := ?_) ?_ ?_
     rotate_left
     ·show Act.put _ (some 19) _ = _
      simp only [Act.put, ac_]
      rfl
     refine one_ (i := 7) (N := some 20) (bm 21 255) rfl rfl (one_of HT_.out (by kernel_rfl)) (by decide) (fun K hK => ?_)
     refine goes_ Tryz.func127 (by kernel_rfl) rfl #[.string a0_0, .slice Ao15 y104.length co15] (by rfl) rfl rfl aq3 ?_
     with_reducible refine (impl_isNumber.calls k a0_0 _ _ y104 true _ ?side1 ?side2 A4.out).mono ?_
     (case side1 => exact aq29)
     (case side2 => exact (Kd.R_reads' HO106.out).2.1)
     rintro e w16 ⟨rfl, hb⟩
     refine ⟨_, rfl, ?_⟩
     have n0_ := am (Kd.R_below aq20 hb)
     have n1_ := am (blk_below (g := gb101) (o := .cells #[.string a0_0, .string a0_1, .int .i64 a0_2] 56 (0, 0)) aq2 hb)
     have n2_ := am (below_step aq0 hb)
     clear HO106
     clear BK101
     clear HB
     have HO106 := n0_
     have BK101 := n1_
     have HB := n2_
     clear n0_ n1_ n2_
     (try clear hb)
     (try clear hb2)
     (try clear hk)
     (try clear hi)
     refine hK.out _ _ ⟨(blk_cell BK101.out 0).trans rfl, (blk_cell BK101.out 1).trans rfl, (blk_cell BK101.out 2).trans rfl⟩ (fun hHeld => ?_)
     clear hK K
     refine norm_ (a' := ?_) ?_ ?_
     rotate_left
     ·show Act.put _ (some 20) _ = _
      simp only [Act.put, ac_]
      rfl
     refine pure_ (i := 8) (N := some 21) (v := ?_) (a' := ?_) (bm 21 511) rfl rfl (any_of HT_.out (by kernel_rfl)) (fun _ _ _ h => h) (Or.inl ⟨by rfl, ?_⟩) ?_ ?_
     rotate_left
     ·intro w'
      go_simp
      with_reducible rfl
     rotate_left
     ·simp only [Act.put, ac_]
      rfl
     refine pure_ (i := 9) (N := some 22) (v := ?_) (a' := ?_) (bm 21 1023) rfl rfl (any_of HT_.out (by kernel_rfl)) (fun _ _ _ h => h) (Or.inl ⟨by rfl, ?_⟩) ?_ ?_
     rotate_left
     ·intro w'
      go_simp
      with_reducible rfl
     rotate_left
     ·simp only [Act.put, ac_]
      rfl
     refine pure_ (i := 10) (N := some 23) (v := ?_) (a' := ?_) (bm 21 2047) rfl rfl (any_of HT_.out (by kernel_rfl)) (fun _ _ _ h => h) (Or.inl ⟨by rfl, ?_⟩) ?_ ?_
     rotate_left
     ·intro w'
      go_simp
      with_reducible rfl
     rotate_left
     ·simp only [Act.put, ac_]
      rfl
     refine pure_ (i := 14) (N := some 27) (v := ?_) (a' := ?_) (bm 21 18431) rfl rfl (any_of HT_.out (by kernel_rfl)) (fun _ _ _ h => h) (Or.inl ⟨by rfl, ?_⟩) ?_ ?_
     rotate_left
     ·intro w'
      go_simp
      with_reducible rfl
     rotate_left
     ·simp only [Act.put, ac_]
      rfl
     refine take_ (i := 11) (N := some 24) (v := ?_) (a' := ?_) (bm 21 20479) rfl rfl (take_ofW HT_.out HW_.out (by kernel_rfl)) (fun _ _ _ h => h) (Or.inl ⟨by rfl, ?_⟩) hHeld ?_ ?_
     rotate_left
     ·rintro w' ⟨s0, s1, s2⟩
      go_simp
      with_reducible rfl
     rotate_left
     ·simp only [Act.put, ac_]
      rfl
     refine take_ (i := 15) (N := some 28) (v := ?_) (a' := ?_) (bm 21 53247) rfl rfl (take_ofW HT_.out HW_.out (by kernel_rfl)) (fun _ _ _ h => h) (Or.inl ⟨by rfl, ?_⟩) hHeld ?_ ?_
     rotate_left
     ·rintro w' ⟨s0, s1, s2⟩
      go_simp
      with_reducible rfl
     rotate_left
     ·simp only [Act.put, ac_]
      rfl
     refine one_ (i := 12) (N := some 25) (bm 21 57343) rfl rfl (one_of HT_.out (by kernel_rfl)) (by decide) (fun K hK => ?_)
     refine goes_ Tryz.func89 (by kernel_rfl) rfl #[.string a0_0] (by rfl) rfl rfl aq3 ?_
     with_reducible refine (impl_read.calls a0_0 t108 t109 t110 _ A6.out).mono ?_
     rintro e w17 ⟨v111, rfl, ho0, hb⟩
     refine ⟨_, rfl, ?_⟩
     have n0_ := am (Kd.R_below aq20 hb)
     have n1_ := am (Kd.V_lower (Kd.V_mono (ok' := fun k_ => some k_ ≠ (.slice Ao15 y104.length co15 : Value).ownBlock ∧ k_ ≠ gb101) ho0 (fun k_ hk_ => ⟨(Kd.fresh' (Kd.R_lt aq20) k_ hk_), (Kd.freshB (g := gb101) (o := .cells #[.string a0_0, .string a0_1, .int .i64 a0_2] 56 (0, 0)) aq2 k_ hk_)⟩)) (below_size aq0))
     have n2_ := am (blk_below (g := gb101) (o := .cells #[.string a0_0, .string a0_1, .int .i64 a0_2] 56 (0, 0)) aq2 hb)
     have n3_ := am (below_step aq0 hb)
     clear HO106
     clear BK101
     clear HB
     have HO106 := n0_
     have HO112 := n1_
     have BK101 := n2_
     have HB := n3_
     clear n0_ n1_ n2_ n3_
     (try clear hb)
     (try clear hb2)
     (try clear hk)
     (try clear hi)
     (try clear ho0)
     obtain ⟨Ao18, co18, eo18⟩ := Kd.V_slice HO112.out
     (first | subst eo18 | (injection eo18 with f1_ f2_ f3_; have f4_ := f1_.symm; have f5_ := f3_.symm; clear f1_ f2_ f3_; subst f4_; subst f5_))
     have p113 : 0 ≤ (a0_2 : Int) := of_decide_eq_true aq5
     have q113 : a0_2 < (t110.length : Int) := of_decide_eq_true aq5
     obtain ⟨ad113, e113, hx113_0⟩ := Kd.at_int (Kd.V_reads' HO112.out).2.2 a0_2 p113 q113
     cases e113
     replace p113 := eq_true p113
     replace q113 := eq_true q113
     refine hK.out _ _ ⟨(blk_cell BK101.out 0).trans rfl, (blk_cell BK101.out 1).trans rfl, (blk_cell BK101.out 2).trans rfl⟩ (fun hHeld => ?_)
     clear hK K
     refine norm_ (a' := ?_) ?_ ?_
     rotate_left
     ·show Act.put _ (some 25) _ = _
      simp only [Act.put, ac_]
      rfl
     refine pure_ (i := 13) (N := some 26) (v := ?_) (a' := ?_) (bm 21 65535) rfl rfl (any_of HT_.out (by kernel_rfl)) (fun _ _ _ h => h) (Or.inl ⟨by rfl, ?_⟩) ?_ ?_
     rotate_left
     ·intro w'
      go_simp
      with_reducible rfl
     rotate_left
     ·simp only [Act.put, ac_]
      rfl
     refine pure_ (i := 16) (N := some 29) (v := ?_) (a' := ?_) (bm 21 131071) rfl rfl (any_of HT_.out (by kernel_rfl)) (fun _ _ _ h => h) (Or.inl ⟨by rfl, ?_⟩) ?_ ?_
     rotate_left
     ·intro w'
      go_simp
      with_reducible rfl
     rotate_left
     ·simp only [Act.put, ac_]
      rfl
     refine one_ (i := 17) (N := some 30) (bm 21 262143) rfl rfl (one_of HT_.out (by kernel_rfl)) (by decide) (fun K hK => ?_)
     refine value_ (w1 := ?_) (v := ?_) (by rfl) rfl ?_ ?_
     rotate_left 2
     ·go_simp
      constructor
      ·rfl
      ·rfl
     refine hK.out _ _ ⟨(blk_cell BK101.out 0).trans rfl, (blk_cell BK101.out 1).trans rfl, (blk_cell BK101.out 2).trans rfl⟩ (fun hHeld => ?_)
     clear hK K
     refine norm_ (a' := ?_) ?_ ?_
     rotate_left
     ·show Act.put _ (some 30) _ = _
      simp only [Act.put, ac_]
      rfl
     refine pure_ (i := 18) (N := some 31) (v := ?_) (a' := ?_) (bm 21 524287) rfl rfl (any_of HT_.out (by kernel_rfl)) (fun _ _ _ h => h) (Or.inl ⟨by rfl, ?_⟩) ?_ ?_
     rotate_left
     ·intro w'
      go_simp
      with_reducible rfl
     rotate_left
     ·simp only [Act.put, ac_]
      rfl
     refine pure_ (i := 19) (N := some 32) (v := ?_) (a' := ?_) (bm 21 1048575) rfl rfl (any_of HT_.out (by kernel_rfl)) (fun _ _ _ h => h) (Or.inl ⟨by rfl, ?_⟩) ?_ ?_
     rotate_left
     ·intro w'
      go_simp
      with_reducible rfl
     rotate_left
     ·simp only [Act.put, ac_]
      rfl
     refine pure_ (i := 20) (N := some 2) (v := ?_) (a' := ?_) (bm 21 2097151) rfl rfl (any_of HT_.out (by kernel_rfl)) (fun _ _ _ h => h) (Or.inl ⟨by rfl, ?_⟩) ?_ ?_
     rotate_left
     ·intro w'
      go_simp
      with_reducible rfl
     rotate_left
     ·simp only [Act.put, ac_]
      rfl
     refine done_ (done_of HT_.out (by kernel_rfl)) ?_
     try go_wp2
     go_ret
     exact ⟨aq7, aq0⟩
    ·rw [if_neg c8] at H
     exact absurd H (by simp)
   ·rw [if_neg c7] at H
    exact absurd H (by simp)
  ·replace c5 := Bool.eq_false_iff.mpr c5
   subst c5
   have H1 : (some false) = some r := by rw [if_neg (show ¬ (false = true) by decide)] at H; exact H
   clear H
   have H := H1
   clear H1
   obtain rfl := Option.some.inj H
   go_enter Tryz.func88, Tryz.ntmps88
   try go_wp2_with (first | ((with_reducible refine gate_dst (N := 1) rfl ?_); (try (refine gate_guard (by rfl) ?_; dsimp only)); refine box_event ?hg (N := 1) ?hd (cs := #[.string a0_0, .string a0_1, .int .i64 a0_2]) (t := 56) ?hr ?_; (case hd => rfl); (case hg => rfl); (case hr => exact aq9); intro gb101 hg w19 hbox hb; have n0_ := am (below_step aq1 hb); have n1_ := am (hbox); have n2_ := am ((by rw [hg]; exact (below_size aq1) : w.heap.size ≤ gb101)); have n3_ := am ((by rw [hg]; exact (below_size aq1) : w.heap.size ≤ gb101)); clear HB; have HB := n0_; have BK101 := n1_; have GW101 := n2_; have GE101 := n3_; clear n0_ n1_ n2_ n3_; clear hb hbox hg; have hcz20_0 : w19.cell? ⟨gb101, 0, none⟩ = some (.string a0_0) := (blk_cell BK101.out 0).trans rfl; have hcz20_1 : w19.cell? ⟨gb101, 1, none⟩ = some (.string a0_1) := (blk_cell BK101.out 1).trans rfl; have hcz20_2 : w19.cell? ⟨gb101, 2, none⟩ = some (.int .i64 a0_2) := (blk_cell BK101.out 2).trans rfl; have hfz20_0 := blk_frozen BK101.out 0; have hfz20_1 := blk_frozen BK101.out 1; have hfz20_2 := blk_frozen BK101.out 2) | ((with_reducible refine gate_callee (f := 126) rfl ?_); refine goesL_ (some 10) rfl rfl Tryz.func126 (by kernel_rfl) rfl #[.string a0_0, .string a0_1] rfl aq3 ?_; (with_reducible refine (impl_cellOf.calls k a0_0 a0_1 t102 true _ A2.out).mono ?_); rintro e w21 ⟨rfl, hb⟩; refine ⟨_, rfl, ?_⟩; have n0_ := am (blk_below (g := gb101) (o := .cells #[.string a0_0, .string a0_1, .int .i64 a0_2] 56 (0, 0)) aq2 hb); have n1_ := am (below_step aq0 hb); clear BK101; clear HB; have BK101 := n0_; have HB := n1_; clear n0_ n1_; (try clear hb); (try clear hb2); (try clear hk); (try clear hi)))
   have n0_ := am (blk_drew BK101.out)
   have n1_ := am (below_drew1 HB.out)
   clear BK101
   clear HB
   have BK101 := n0_
   have HB := n1_
   clear n0_ n1_
   refine start_ (n := 21) (S := fun w' => w'.cell? ⟨gb101, 0, none⟩ = some (.string a0_0) ∧ w'.cell? ⟨gb101, 1, none⟩ = some (.string a0_1) ∧ w'.cell? ⟨gb101, 2, none⟩ = some (.int .i64 a0_2)) (ds := []) #[false, false, false, false, false, false, false, false, false, false, false, false, false, false, false, false, false, false, false, false, false] (by kernel_rfl) rfl rfl ⟨(blk_cell BK101.out 0).trans rfl, (blk_cell BK101.out 1).trans rfl, (blk_cell BK101.out 2).trans rfl⟩ (fun hHeld => ?_); refine with_tabW impl_IsPuzzle.tab2 impl_IsPuzzle.bits2 (fun HT_ HW_ => ?_)
   generalize w21.drew = w22 at BK101 HB hHeld ⊢
   refine pure_ (i := 0) (N := some 13) (v := ?_) (a' := ?_) (bm 21 1) rfl rfl (any_of HT_.out (by kernel_rfl)) (fun _ _ _ h => h) (Or.inl ⟨by rfl, ?_⟩) ?_ ?_
   rotate_left
   ·intro w'
    go_simp
    with_reducible rfl
   rotate_left
   ·simp only [Act.put, ac_]
    rfl
   refine pure_ (i := 1) (N := some 14) (v := ?_) (a' := ?_) (bm 21 3) rfl rfl (any_of HT_.out (by kernel_rfl)) (fun _ _ _ h => h) (Or.inl ⟨by rfl, ?_⟩) ?_ ?_
   rotate_left
   ·intro w'
    go_simp
    with_reducible rfl
   rotate_left
   ·simp only [Act.put, ac_]
    rfl
   refine pure_ (i := 2) (N := some 15) (v := ?_) (a' := ?_) (bm 21 7) rfl rfl (any_of HT_.out (by kernel_rfl)) (fun _ _ _ h => h) (Or.inl ⟨by rfl, ?_⟩) ?_ ?_
   rotate_left
   ·intro w'
    go_simp
    with_reducible rfl
   rotate_left
   ·simp only [Act.put, ac_]
    rfl
   refine pure_ (i := 4) (N := some 17) (v := ?_) (a' := ?_) (bm 21 23) rfl rfl (any_of HT_.out (by kernel_rfl)) (fun _ _ _ h => h) (Or.inl ⟨by rfl, ?_⟩) ?_ ?_
   rotate_left
   ·intro w'
    go_simp
    with_reducible rfl
   rotate_left
   ·simp only [Act.put, ac_]
    rfl
   refine take_ (i := 3) (N := some 16) (v := ?_) (a' := ?_) (bm 21 31) rfl rfl (take_ofW HT_.out HW_.out (by kernel_rfl)) (fun _ _ _ h => h) (Or.inl ⟨by rfl, ?_⟩) hHeld ?_ ?_
   rotate_left
   ·rintro w' ⟨s0, s1, s2⟩
    go_simp
    with_reducible rfl
   rotate_left
   ·simp only [Act.put, ac_]
    rfl
   refine take_ (i := 5) (N := some 18) (v := ?_) (a' := ?_) (bm 21 63) rfl rfl (take_ofW HT_.out HW_.out (by kernel_rfl)) (fun _ _ _ h => h) (Or.inl ⟨by rfl, ?_⟩) hHeld ?_ ?_
   rotate_left
   ·rintro w' ⟨s0, s1, s2⟩
    go_simp
    with_reducible rfl
   rotate_left
   ·simp only [Act.put, ac_]
    rfl
   refine one_ (i := 6) (N := some 19) (bm 21 127) rfl rfl (one_of HT_.out (by kernel_rfl)) (by decide) (fun K hK => ?_)
   refine Kd.R_lit_step (Kd.int .i64) _ 3 ?hg (N := 19) ?hd (xs := ([a0_2] : List Int)) (inner := [.int .i64 a0_2]) (ok := fun _ => True) (okp := fun _ => True) ?hr ?hp (fun _ hk => hk) trivial (Below.refl _ _) (Nat.le_refl _) (by simp) ?_; (case hd => rfl); (case hg => rfl); (case hr => exact aq9); (case hp => exact (Reps.one (show Kd.M (Kd.int .i64) _ _ _ a0_2 [.int .i64 a0_2] from rfl) (Reps.none _ _)))
   intro v105 w23 ho24 hb hg_ hnew_
   clear hg_ hnew_
   (first | rw [← Ny104.out] at ho24 | (simp only [Int.reduceToNat] at ho24; rw [← Ny104.out] at ho24))
   have n0_ := am (Kd.R_lower ho24 (below_size aq0))
   have n1_ := am (blk_below (g := gb101) (o := .cells #[.string a0_0, .string a0_1, .int .i64 a0_2] 56 (0, 0)) aq2 hb)
   have n2_ := am (below_step aq0 hb)
   clear BK101
   clear HB
   have HO106 := n0_
   have BK101 := n1_
   have HB := n2_
   clear n0_ n1_ n2_
   clear hb ho24
   obtain ⟨Ao25, co25, eo25⟩ := Kd.R_slice HO106.out
   (first | subst eo25 | (injection eo25 with f1_ f2_ f3_; have f4_ := f1_.symm; have f5_ := f3_.symm; clear f1_ f2_ f3_; subst f4_; subst f5_))
   refine hK.out _ _ ⟨(blk_cell BK101.out 0).trans rfl, (blk_cell BK101.out 1).trans rfl, (blk_cell BK101.out 2).trans rfl⟩ (fun hHeld => ?_)
   clear hK K
   refine norm_ (a' := ?_) ?_ ?_
   rotate_left
   ·show Act.put _ (some 19) _ = _
    simp only [Act.put, ac_]
    rfl
   refine one_ (i := 7) (N := some 20) (bm 21 255) rfl rfl (one_of HT_.out (by kernel_rfl)) (by decide) (fun K hK => ?_)
   refine goes_ Tryz.func127 (by kernel_rfl) rfl #[.string a0_0, .slice Ao25 y104.length co25] (by rfl) rfl rfl aq3 ?_
   with_reducible refine (impl_isNumber.calls k a0_0 _ _ y104 false _ ?side1 ?side2 A4.out).mono ?_
   (case side1 => exact aq29)
   (case side2 => exact (Kd.R_reads' HO106.out).2.1)
   rintro e w26 ⟨rfl, hb⟩
   refine ⟨_, rfl, ?_⟩
   have n0_ := am (Kd.R_below aq20 hb)
   have n1_ := am (blk_below (g := gb101) (o := .cells #[.string a0_0, .string a0_1, .int .i64 a0_2] 56 (0, 0)) aq2 hb)
   have n2_ := am (below_step aq0 hb)
   clear HO106
   clear BK101
   clear HB
   have HO106 := n0_
   have BK101 := n1_
   have HB := n2_
   clear n0_ n1_ n2_
   (try clear hb)
   (try clear hb2)
   (try clear hk)
   (try clear hi)
   refine hK.out _ _ ⟨(blk_cell BK101.out 0).trans rfl, (blk_cell BK101.out 1).trans rfl, (blk_cell BK101.out 2).trans rfl⟩ (fun hHeld => ?_)
   clear hK K
   refine norm_ (a' := ?_) ?_ ?_
   rotate_left
   ·show Act.put _ (some 20) _ = _
    simp only [Act.put, ac_]
    rfl
   refine pure_ (i := 8) (N := some 21) (v := ?_) (a' := ?_) (bm 21 511) rfl rfl (any_of HT_.out (by kernel_rfl)) (fun _ _ _ h => h) (Or.inl ⟨by rfl, ?_⟩) ?_ ?_
   rotate_left
   ·intro w'
    go_simp
    with_reducible rfl
   rotate_left
   ·simp only [Act.put, ac_]
    rfl
   refine pure_ (i := 9) (N := some 22) (v := ?_) (a' := ?_) (bm 21 1023) rfl rfl (any_of HT_.out (by kernel_rfl)) (fun _ _ _ h => h) (Or.inl ⟨by rfl, ?_⟩) ?_ ?_
   rotate_left
   ·intro w'
    go_simp
    with_reducible rfl
   rotate_left
   ·simp only [Act.put, ac_]
    rfl
   refine pure_ (i := 10) (N := some 23) (v := undef) (a' := ?_) (bm 21 2047) rfl rfl (any_of HT_.out (by kernel_rfl)) (fun _ _ _ h => h) (Or.inr ⟨by rfl, rfl⟩) ?_ ?_
   rotate_left
   ·simp only [Act.put, ac_]
    rfl
   refine pure_ (i := 11) (N := some 24) (v := undef) (a' := ?_) (bm 21 4095) rfl rfl (any_of HT_.out (by kernel_rfl)) (fun _ _ _ h => h) (Or.inr ⟨by rfl, rfl⟩) ?_ ?_
   rotate_left
   ·simp only [Act.put, ac_]
    rfl
   refine pure_ (i := 12) (N := some 25) (v := undef) (a' := ?_) (bm 21 8191) rfl rfl (any_of HT_.out (by kernel_rfl)) (fun _ _ _ h => h) (Or.inr ⟨by rfl, rfl⟩) ?_ ?_
   rotate_left
   ·simp only [Act.put, ac_]
    rfl
   refine pure_ (i := 13) (N := some 26) (v := undef) (a' := ?_) (bm 21 16383) rfl rfl (any_of HT_.out (by kernel_rfl)) (fun _ _ _ h => h) (Or.inr ⟨by rfl, rfl⟩) ?_ ?_
   rotate_left
   ·simp only [Act.put, ac_]
    rfl
   refine pure_ (i := 14) (N := some 27) (v := undef) (a' := ?_) (bm 21 32767) rfl rfl (any_of HT_.out (by kernel_rfl)) (fun _ _ _ h => h) (Or.inr ⟨by rfl, rfl⟩) ?_ ?_
   rotate_left
   ·simp only [Act.put, ac_]
    rfl
   refine pure_ (i := 15) (N := some 28) (v := undef) (a' := ?_) (bm 21 65535) rfl rfl (any_of HT_.out (by kernel_rfl)) (fun _ _ _ h => h) (Or.inr ⟨by rfl, rfl⟩) ?_ ?_
   rotate_left
   ·simp only [Act.put, ac_]
    rfl
   refine pure_ (i := 16) (N := some 29) (v := undef) (a' := ?_) (bm 21 131071) rfl rfl (any_of HT_.out (by kernel_rfl)) (fun _ _ _ h => h) (Or.inr ⟨by rfl, rfl⟩) ?_ ?_
   rotate_left
   ·simp only [Act.put, ac_]
    rfl
   refine pure_ (i := 17) (N := some 30) (v := undef) (a' := ?_) (bm 21 262143) rfl rfl (any_of HT_.out (by kernel_rfl)) (fun _ _ _ h => h) (Or.inr ⟨by rfl, rfl⟩) ?_ ?_
   rotate_left
   ·simp only [Act.put, ac_]
    rfl
   refine pure_ (i := 18) (N := some 31) (v := undef) (a' := ?_) (bm 21 524287) rfl rfl (any_of HT_.out (by kernel_rfl)) (fun _ _ _ h => h) (Or.inr ⟨by rfl, rfl⟩) ?_ ?_
   rotate_left
   ·simp only [Act.put, ac_]
    rfl
   refine pure_ (i := 19) (N := some 32) (v := ?_) (a' := ?_) (bm 21 1048575) rfl rfl (any_of HT_.out (by kernel_rfl)) (fun _ _ _ h => h) (Or.inl ⟨by rfl, ?_⟩) ?_ ?_
   rotate_left
   ·intro w'
    go_simp
    with_reducible rfl
   rotate_left
   ·simp only [Act.put, ac_]
    rfl
   refine pure_ (i := 20) (N := some 2) (v := ?_) (a' := ?_) (bm 21 2097151) rfl rfl (any_of HT_.out (by kernel_rfl)) (fun _ _ _ h => h) (Or.inl ⟨by rfl, ?_⟩) ?_ ?_
   rotate_left
   ·intro w'
    go_simp
    with_reducible rfl
   rotate_left
   ·simp only [Act.put, ac_]
    rfl
   refine done_ (done_of HT_.out (by kernel_rfl)) ?_
   try go_wp2
   go_ret
   exact ⟨aq7, aq0⟩
 ·replace c3 := Bool.eq_false_iff.mpr c3
  subst c3
  have H1 : (some false) = some r := by rw [if_neg (show ¬ (false = true) by decide)] at H; exact H
  clear H
  have H := H1
  clear H1
  obtain rfl := Option.some.inj H
  go_enter Tryz.func88, Tryz.ntmps88
  try go_wp2_with (first | ((with_reducible refine gate_dst (N := 1) rfl ?_); (try (refine gate_guard (by rfl) ?_; dsimp only)); refine box_event ?hg (N := 1) ?hd (cs := #[.string a0_0, .string a0_1, .int .i64 a0_2]) (t := 56) ?hr ?_; (case hd => rfl); (case hg => rfl); (case hr => exact aq9); intro gb101 hg w27 hbox hb; have n0_ := am (below_step aq1 hb); have n1_ := am (hbox); have n2_ := am ((by rw [hg]; exact (below_size aq1) : w.heap.size ≤ gb101)); have n3_ := am ((by rw [hg]; exact (below_size aq1) : w.heap.size ≤ gb101)); clear HB; have HB := n0_; have BK101 := n1_; have GW101 := n2_; have GE101 := n3_; clear n0_ n1_ n2_ n3_; clear hb hbox hg; have hcz28_0 : w27.cell? ⟨gb101, 0, none⟩ = some (.string a0_0) := (blk_cell BK101.out 0).trans rfl; have hcz28_1 : w27.cell? ⟨gb101, 1, none⟩ = some (.string a0_1) := (blk_cell BK101.out 1).trans rfl; have hcz28_2 : w27.cell? ⟨gb101, 2, none⟩ = some (.int .i64 a0_2) := (blk_cell BK101.out 2).trans rfl; have hfz28_0 := blk_frozen BK101.out 0; have hfz28_1 := blk_frozen BK101.out 1; have hfz28_2 := blk_frozen BK101.out 2) | ((with_reducible refine gate_callee (f := 126) rfl ?_); refine goesL_ (some 10) rfl rfl Tryz.func126 (by kernel_rfl) rfl #[.string a0_0, .string a0_1] rfl aq3 ?_; (with_reducible refine (impl_cellOf.calls k a0_0 a0_1 t102 false _ A2.out).mono ?_); rintro e w29 ⟨rfl, hb⟩; refine ⟨_, rfl, ?_⟩; have n0_ := am (blk_below (g := gb101) (o := .cells #[.string a0_0, .string a0_1, .int .i64 a0_2] 56 (0, 0)) aq2 hb); have n1_ := am (below_step aq0 hb); clear BK101; clear HB; have BK101 := n0_; have HB := n1_; clear n0_ n1_; (try clear hb); (try clear hb2); (try clear hk); (try clear hi)))
  have n0_ := am (blk_drew BK101.out)
  have n1_ := am (below_drew1 HB.out)
  clear BK101
  clear HB
  have BK101 := n0_
  have HB := n1_
  clear n0_ n1_
  refine start_ (n := 21) (S := fun w' => True) (ds := []) #[false, false, false, false, false, false, false, false, false, false, false, false, false, false, false, false, false, false, false, false, false] (by kernel_rfl) rfl rfl trivial (fun hHeld => ?_); refine with_tabW impl_IsPuzzle.tab2 impl_IsPuzzle.bits2 (fun HT_ HW_ => ?_)
  generalize w29.drew = w30 at BK101 HB hHeld ⊢
  refine pure_ (i := 0) (N := some 13) (v := ?_) (a' := ?_) (bm 21 1) rfl rfl (any_of HT_.out (by kernel_rfl)) (fun _ _ _ h => h) (Or.inl ⟨by rfl, ?_⟩) ?_ ?_
  rotate_left
  ·intro w'
   go_simp
   with_reducible rfl
  rotate_left
  ·simp only [Act.put, ac_]
   rfl
  refine pure_ (i := 1) (N := some 14) (v := ?_) (a' := ?_) (bm 21 3) rfl rfl (any_of HT_.out (by kernel_rfl)) (fun _ _ _ h => h) (Or.inl ⟨by rfl, ?_⟩) ?_ ?_
  rotate_left
  ·intro w'
   go_simp
   with_reducible rfl
  rotate_left
  ·simp only [Act.put, ac_]
   rfl
  refine pure_ (i := 2) (N := some 15) (v := undef) (a' := ?_) (bm 21 7) rfl rfl (any_of HT_.out (by kernel_rfl)) (fun _ _ _ h => h) (Or.inr ⟨by rfl, rfl⟩) ?_ ?_
  rotate_left
  ·simp only [Act.put, ac_]
   rfl
  refine pure_ (i := 3) (N := some 16) (v := undef) (a' := ?_) (bm 21 15) rfl rfl (any_of HT_.out (by kernel_rfl)) (fun _ _ _ h => h) (Or.inr ⟨by rfl, rfl⟩) ?_ ?_
  rotate_left
  ·simp only [Act.put, ac_]
   rfl
  refine pure_ (i := 4) (N := some 17) (v := undef) (a' := ?_) (bm 21 31) rfl rfl (any_of HT_.out (by kernel_rfl)) (fun _ _ _ h => h) (Or.inr ⟨by rfl, rfl⟩) ?_ ?_
  rotate_left
  ·simp only [Act.put, ac_]
   rfl
  refine pure_ (i := 5) (N := some 18) (v := undef) (a' := ?_) (bm 21 63) rfl rfl (any_of HT_.out (by kernel_rfl)) (fun _ _ _ h => h) (Or.inr ⟨by rfl, rfl⟩) ?_ ?_
  rotate_left
  ·simp only [Act.put, ac_]
   rfl
  refine pure_ (i := 6) (N := some 19) (v := undef) (a' := ?_) (bm 21 127) rfl rfl (any_of HT_.out (by kernel_rfl)) (fun _ _ _ h => h) (Or.inr ⟨by rfl, rfl⟩) ?_ ?_
  rotate_left
  ·simp only [Act.put, ac_]
   rfl
  refine pure_ (i := 7) (N := some 20) (v := undef) (a' := ?_) (bm 21 255) rfl rfl (any_of HT_.out (by kernel_rfl)) (fun _ _ _ h => h) (Or.inr ⟨by rfl, rfl⟩) ?_ ?_
  rotate_left
  ·simp only [Act.put, ac_]
   rfl
  refine pure_ (i := 8) (N := some 21) (v := ?_) (a' := ?_) (bm 21 511) rfl rfl (any_of HT_.out (by kernel_rfl)) (fun _ _ _ h => h) (Or.inl ⟨by rfl, ?_⟩) ?_ ?_
  rotate_left
  ·intro w'
   go_simp
   with_reducible rfl
  rotate_left
  ·simp only [Act.put, ac_]
   rfl
  refine pure_ (i := 9) (N := some 22) (v := ?_) (a' := ?_) (bm 21 1023) rfl rfl (any_of HT_.out (by kernel_rfl)) (fun _ _ _ h => h) (Or.inl ⟨by rfl, ?_⟩) ?_ ?_
  rotate_left
  ·intro w'
   go_simp
   with_reducible rfl
  rotate_left
  ·simp only [Act.put, ac_]
   rfl
  refine pure_ (i := 10) (N := some 23) (v := undef) (a' := ?_) (bm 21 2047) rfl rfl (any_of HT_.out (by kernel_rfl)) (fun _ _ _ h => h) (Or.inr ⟨by rfl, rfl⟩) ?_ ?_
  rotate_left
  ·simp only [Act.put, ac_]
   rfl
  refine pure_ (i := 11) (N := some 24) (v := undef) (a' := ?_) (bm 21 4095) rfl rfl (any_of HT_.out (by kernel_rfl)) (fun _ _ _ h => h) (Or.inr ⟨by rfl, rfl⟩) ?_ ?_
  rotate_left
  ·simp only [Act.put, ac_]
   rfl
  refine pure_ (i := 12) (N := some 25) (v := undef) (a' := ?_) (bm 21 8191) rfl rfl (any_of HT_.out (by kernel_rfl)) (fun _ _ _ h => h) (Or.inr ⟨by rfl, rfl⟩) ?_ ?_
  rotate_left
  ·simp only [Act.put, ac_]
   rfl
  refine pure_ (i := 13) (N := some 26) (v := undef) (a' := ?_) (bm 21 16383) rfl rfl (any_of HT_.out (by kernel_rfl)) (fun _ _ _ h => h) (Or.inr ⟨by rfl, rfl⟩) ?_ ?_
  rotate_left
  ·simp only [Act.put, ac_]
   rfl
  refine pure_ (i := 14) (N := some 27) (v := undef) (a' := ?_) (bm 21 32767) rfl rfl (any_of HT_.out (by kernel_rfl)) (fun _ _ _ h => h) (Or.inr ⟨by rfl, rfl⟩) ?_ ?_
  rotate_left
  ·simp only [Act.put, ac_]
   rfl
  refine pure_ (i := 15) (N := some 28) (v := undef) (a' := ?_) (bm 21 65535) rfl rfl (any_of HT_.out (by kernel_rfl)) (fun _ _ _ h => h) (Or.inr ⟨by rfl, rfl⟩) ?_ ?_
  rotate_left
  ·simp only [Act.put, ac_]
   rfl
  refine pure_ (i := 16) (N := some 29) (v := undef) (a' := ?_) (bm 21 131071) rfl rfl (any_of HT_.out (by kernel_rfl)) (fun _ _ _ h => h) (Or.inr ⟨by rfl, rfl⟩) ?_ ?_
  rotate_left
  ·simp only [Act.put, ac_]
   rfl
  refine pure_ (i := 17) (N := some 30) (v := undef) (a' := ?_) (bm 21 262143) rfl rfl (any_of HT_.out (by kernel_rfl)) (fun _ _ _ h => h) (Or.inr ⟨by rfl, rfl⟩) ?_ ?_
  rotate_left
  ·simp only [Act.put, ac_]
   rfl
  refine pure_ (i := 18) (N := some 31) (v := undef) (a' := ?_) (bm 21 524287) rfl rfl (any_of HT_.out (by kernel_rfl)) (fun _ _ _ h => h) (Or.inr ⟨by rfl, rfl⟩) ?_ ?_
  rotate_left
  ·simp only [Act.put, ac_]
   rfl
  refine pure_ (i := 19) (N := some 32) (v := ?_) (a' := ?_) (bm 21 1048575) rfl rfl (any_of HT_.out (by kernel_rfl)) (fun _ _ _ h => h) (Or.inl ⟨by rfl, ?_⟩) ?_ ?_
  rotate_left
  ·intro w'
   go_simp
   with_reducible rfl
  rotate_left
  ·simp only [Act.put, ac_]
   rfl
  refine pure_ (i := 20) (N := some 2) (v := ?_) (a' := ?_) (bm 21 2097151) rfl rfl (any_of HT_.out (by kernel_rfl)) (fun _ _ _ h => h) (Or.inl ⟨by rfl, ?_⟩) ?_ ?_
  rotate_left
  ·intro w'
   go_simp
   with_reducible rfl
  rotate_left
  ·simp only [Act.put, ac_]
   rfl
  refine done_ (done_of HT_.out (by kernel_rfl)) ?_
  try go_wp2
  go_ret
  exact ⟨aq7, aq0⟩
def spec_l1In.f (a0 : Int) (a1 : Int) (a2 : Int) : Option (Bool) := if a0 ≥ a1 then (some (decide (a0 ≤ a2))) else (some false)
set_option maxHeartbeats 8000000 in
set_option maxRecDepth 100000 in
theorem spec_l1In.calls (a0 : Int) (a1 : Int) (a2 : Int) (r : Bool) (w : World) (h : spec_l1In.f a0 a1 a2 = some r) :
  Calls Tryz.prog 52 #[.int .i64 a0, .int .i64 a1, .int .i64 a2] w fun e w' => e = .returned (.bool r) ∧ Drawn0 w w' := by
 have H : (if a0 ≥ a1 then (some (decide (a0 ≤ a2))) else (some false)) = some r := h
 clear h
 by_cases c4 : a0 ≥ a1
 ·rw [if_pos c4] at H
  have c4b0 : decide (a1 ≤ a0) = true := decide_eq_true c4
  clear c4
  obtain rfl := Option.some.inj H
  go_enter Tryz.func52, Tryz.ntmps52
  go_wp2
  go_ret
  exact ⟨aq8, aq13⟩
 ·rw [if_neg c4] at H
  have c4b0 : decide (a1 ≤ a0) = false := decide_eq_false c4
  clear c4
  obtain rfl := Option.some.inj H
  go_enter Tryz.func52, Tryz.ntmps52
  go_wp2
  go_ret
  exact ⟨aq8, aq13⟩
def spec_tiPlace.l0 : Nat → Int → List Int → Int → Int → Option (Int)
 | 0, _, _, _, _ => none
 | k + 1, x1, x8, x9, x10 => if x10 < x9 then (if 0 ≤ x10 then (if x10 < (x8.length : Int) then (if (rd x8 x10) = x1 then (some x10) else (spec_tiPlace.l0 k x1 x8 x9 (wrap64 (x10 + 1)))) else (none)) else (none)) else (some (-1))
def spec_tiPlace.f (k : Nat) (a0_0 : Int) (a0_1 : Int) (l0_2 : List Int) (a1 : Int) : Option (Int) := spec_tiPlace.l0 k a1 l0_2 (l0_2.length : Int) 0
theorem spec_tiPlace.mono_l : ∀ k, (∀ y0 y1 y2 y3, LeO (spec_tiPlace.l0 k y0 y1 y2 y3) (spec_tiPlace.l0 (k + 1) y0 y1 y2 y3))
 | 0 => fun _ _ _ _ r h => by simp [spec_tiPlace.l0] at h
 | k + 1 => by
  have ih0 := spec_tiPlace.mono_l k
  ·intro y0 y1 y2 y3
   unfold spec_tiPlace.l0
   repeat' first
   | (with_reducible exact ih0 _ _ _ _)
   | (with_reducible exact LeO.refl _)
   | (with_reducible exact LeO.none _)
   | (with_reducible refine LeO.ite ?_ ?_)
   | (with_reducible refine LeO.bind ?_ (fun _ => ?_))
   | exact ih0 _ _ _ _
   | exact LeO.none _
   | refine LeO.ite ?_ ?_
   | refine LeO.bind ?_ (fun _ => ?_)
theorem spec_tiPlace.mono : ∀ a0 a1 a2 a3 k, LeO (spec_tiPlace.f k a0 a1 a2 a3) (spec_tiPlace.f (k + 1) a0 a1 a2 a3) := by
 intro a0 a1 a2 a3 k
 have ih0 := spec_tiPlace.mono_l k
 unfold spec_tiPlace.f
 repeat' first
   | (with_reducible exact ih0 _ _ _ _)
   | (with_reducible exact LeO.refl _)
   | (with_reducible exact LeO.none _)
   | (with_reducible refine LeO.ite ?_ ?_)
   | (with_reducible refine LeO.bind ?_ (fun _ => ?_))
   | exact ih0 _ _ _ _
   | exact LeO.none _
   | refine LeO.ite ?_ ?_
   | refine LeO.bind ?_ (fun _ => ?_)
set_option maxHeartbeats 8000000 in
set_option maxRecDepth 100000 in
theorem spec_tiPlace.calls (k : Nat) (a0_0 : Int) (a0_1 : Int) (A0_2 : Option Addr) (c0_2 : Nat) (l0_2 : List Int) (a1 : Int) (r : Int) (w : World) (hr0_2 : Kd.C (Kd.int .u8) w A0_2 l0_2.length l0_2) (hc0_2 : l0_2.length ≤ c0_2) (h : spec_tiPlace.f k a0_0 a0_1 l0_2 a1 = some r) :
  Calls Tryz.prog 123 #[.agg #[.int .i64 a0_0, .int .i64 a0_1, .slice A0_2 l0_2.length c0_2], .int .u8 a1] w fun e w' => e = .returned (.int .i64 r) ∧ Below w.heap.size w w' := by
 have hu62 := Tryz.underlying62
 have HR0_2 := am hr0_2
 have HC0_2 := am hc0_2
 clear hr0_2 hc0_2
 have HB := am (Below.refl w.heap.size w)
 have H : (spec_tiPlace.l0 k a1 l0_2 (l0_2.length : Int) 0) = some r := h
 clear h
 have H' := am H
 clear H
 go_enter Tryz.func123, Tryz.ntmps123
 go_wp2_with (first | ((with_reducible refine gate_dst (N := 2) rfl ?_); refine box_event ?hg (N := 2) ?hd (cs := #[.int .i64 a0_0, .int .i64 a0_1, .slice A0_2 l0_2.length c0_2]) (t := 62) ?hr ?_; (case hd => rfl); (case hg => rfl); (case hr => exact aq9); intro gb101 hg w3 hbox hb; have n0_ := am (below_step aq1 hb); have n1_ := am (hbox); have n2_ := am ((by rw [hg]; exact (below_size aq1) : w.heap.size ≤ gb101)); have n3_ := am ((by rw [hg]; exact (below_size aq1) : w.heap.size ≤ gb101)); clear HB; have HB := n0_; have BK101 := n1_; have GW101 := n2_; have GE101 := n3_; clear n0_ n1_ n2_ n3_; clear hb hbox hg; have hcz4_0 : w3.cell? ⟨gb101, 0, none⟩ = some (.int .i64 a0_0) := (blk_cell BK101.out 0).trans rfl; have hcz4_1 : w3.cell? ⟨gb101, 1, none⟩ = some (.int .i64 a0_1) := (blk_cell BK101.out 1).trans rfl; have hcz4_2 : w3.cell? ⟨gb101, 2, none⟩ = some (.slice A0_2 l0_2.length c0_2) := (blk_cell BK101.out 2).trans rfl; have hfz4_0 := blk_frozen BK101.out 0; have hfz4_1 := blk_frozen BK101.out 1; have hfz4_2 := blk_frozen BK101.out 2))
 go_loopg [10] k (fun kq v10 w' => ∃ (x10_1 : Int), v10 = .int .i64 x10_1 ∧ Aside0 (spec_tiPlace.l0 kq a1 l0_2 (l0_2.length : Int) x10_1 = some r) ∧ Aside0 (kq ≤ k) ∧ Aside0 (w'.heap[gb101]? = some (.cells #[.int .i64 a0_0, .int .i64 a0_1, (.slice A0_2 l0_2.length c0_2)] 62 (0, 0))) ∧ Aside0 (Below w.heap.size w w'))
 case atStart => exact ⟨(0), aq8, H', ⟨Nat.le_refl _⟩, ⟨aq2⟩, ⟨aq0⟩⟩
 case round =>
  clear H'
  try clear c1
  try clear p2
  try clear hcz4_0
  try clear hcz4_1
  try clear hcz4_2
  try clear hfz4_0
  try clear hfz4_1
  try clear hfz4_2
  obtain ⟨x10_1, rfl, HA, HK1, BK101, HB⟩ := hrel
  cases gk with
  | zero => exact absurd HA.out (by simp [spec_tiPlace.l0])
  | succ k1 =>
   have H := HA.out
   clear HA
   simp only [spec_tiPlace.l0] at H
   by_cases c5 : x10_1 < (l0_2.length : Int)
   ·rw [if_pos c5] at H
    have c5b0 : decide (x10_1 < (l0_2.length : Int)) = true := decide_eq_true c5
    clear c5
    by_cases c6 : 0 ≤ x10_1
    ·rw [if_pos c6] at H
     have c6b0 : decide (0 ≤ x10_1) = true := decide_eq_true c6
     clear c6
     by_cases c7 : x10_1 < (l0_2.length : Int)
     ·rw [if_pos c7] at H
      have c7b0 : decide (x10_1 < (l0_2.length : Int)) = true := decide_eq_true c7
      clear c7
      by_cases c8 : (rd l0_2 x10_1) = a1
      ·rw [if_pos c8] at H
       have c8b0 : ((rd l0_2 x10_1) == a1) = true := beq_iff_eq.mpr c8
       have c8b1 : ((rd l0_2 x10_1) != a1) = false := bne_eq_false_iff_eq.mpr c8
       clear c8
       obtain rfl := Option.some.inj H
       have p102 : 0 ≤ (x10_1 : Int) := of_decide_eq_true aq5
       have q102 : x10_1 < (l0_2.length : Int) := of_decide_eq_true aq5
       obtain ⟨ad102, e102, hx102_0⟩ := Kd.at_int HR0_2.out x10_1 p102 q102
       cases e102
       try replace hx102_0 := (HB.out.cell (World.block_lt_of_cell? w _ hx102_0)).trans hx102_0
       replace p102 := eq_true p102
       replace q102 := eq_true q102
       go_wp2
       go_ret
       exact ⟨aq7, aq0⟩
      ·rw [if_neg c8] at H
       have c8b0 : ((rd l0_2 x10_1) == a1) = false := beq_eq_false_iff_ne.mpr c8
       have c8b1 : ((rd l0_2 x10_1) != a1) = true := bne_iff_ne.mpr c8
       have H' := am H
       clear H
       have p102 : 0 ≤ (x10_1 : Int) := of_decide_eq_true aq5
       have q102 : x10_1 < (l0_2.length : Int) := of_decide_eq_true aq5
       obtain ⟨ad102, e102, hx102_0⟩ := Kd.at_int HR0_2.out x10_1 p102 q102
       cases e102
       try replace hx102_0 := (HB.out.cell (World.block_lt_of_cell? w _ hx102_0)).trans hx102_0
       replace p102 := eq_true p102
       replace q102 := eq_true q102
       go_wp2
       go_roundg k1
       case measure => have := HK1.out; omega
       case rel => exact ⟨(wrap64 (x10_1 + 1)), aq8, H', ⟨aq48⟩, ⟨aq2⟩, ⟨aq0⟩⟩
     ·rw [if_neg c7] at H
      exact absurd H (by simp)
    ·rw [if_neg c6] at H
     exact absurd H (by simp)
   ·rw [if_neg c5] at H
    have c5b0 : decide (x10_1 < (l0_2.length : Int)) = false := decide_eq_false c5
    clear c5
    obtain rfl := Option.some.inj H
    go_wp2
    go_ret
    exact ⟨aq7, aq0⟩
def spec_reName.f (a0 : ByteArray) : Option (Bool) := if (a0.size : Int) = 1 then (if 0 < (a0.size : Int) then (if (bt a0 0) ≥ 97 then (some (decide ((bt a0 0) ≤ 102))) else (some false)) else (none)) else (some false)
set_option maxHeartbeats 8000000 in
set_option maxRecDepth 100000 in
theorem spec_reName.calls (a0 : ByteArray) (r : Bool) (w : World) (h : spec_reName.f a0 = some r) :
  Calls Tryz.prog 122 #[.string a0] w fun e w' => e = .returned (.bool r) ∧ Drawn0 w w' := by
 have H : (if (a0.size : Int) = 1 then (if 0 < (a0.size : Int) then (if (bt a0 0) ≥ 97 then (some (decide ((bt a0 0) ≤ 102))) else (some false)) else (none)) else (some false)) = some r := h
 clear h
 by_cases c2 : (a0.size : Int) = 1
 ·rw [if_pos c2] at H
  have c2b0 : ((a0.size : Int) == 1) = true := beq_iff_eq.mpr c2
  have c2b1 : ((a0.size : Int) != 1) = false := bne_eq_false_iff_eq.mpr c2
  clear c2
  by_cases c3 : 0 < (a0.size : Int)
  ·rw [if_pos c3] at H
   have c3b0 : decide (0 < (a0.size : Int)) = true := decide_eq_true c3
   have c3b1 : decide (0 < a0.size) = true := decide_eq_true (by omega)
   clear c3
   by_cases c5 : (bt a0 0) ≥ 97
   ·rw [if_pos c5] at H
    have c5b0 : decide (97 ≤ (bt a0 0)) = true := decide_eq_true c5
    clear c5
    obtain rfl := Option.some.inj H
    have p4 : 0 ≤ (0 : Int) := (by omega)
    have q4 : 0 < a0.size := (by have : (0 : Int) < (a0.size : Int) := of_decide_eq_true aq5; omega)
    have hx4 : ∀ h : 0 < a0.size, ((a0[0]'h).toNat : Int) = bt a0 0 := bt_at a0 0
    clear p4
    have qi4 : (0 < (a0.size : Int)) = True := eq_true (of_decide_eq_true aq5)
    replace q4 := eq_true q4
    have p6 : 0 ≤ (0 : Int) := (by omega)
    have q6 : 0 < a0.size := (by have : (0 : Int) < (a0.size : Int) := of_decide_eq_true aq5; omega)
    have hx6 : ∀ h : 0 < a0.size, ((a0[0]'h).toNat : Int) = bt a0 0 := bt_at a0 0
    clear p6
    have qi6 : (0 < (a0.size : Int)) = True := eq_true (of_decide_eq_true aq5)
    replace q6 := eq_true q6
    go_enter Tryz.func122, Tryz.ntmps122
    go_wp2
    go_ret
    exact ⟨aq8, aq13⟩
   ·rw [if_neg c5] at H
    have c5b0 : decide (97 ≤ (bt a0 0)) = false := decide_eq_false c5
    clear c5
    obtain rfl := Option.some.inj H
    have p4 : 0 ≤ (0 : Int) := (by omega)
    have q4 : 0 < a0.size := (by have : (0 : Int) < (a0.size : Int) := of_decide_eq_true aq5; omega)
    have hx4 : ∀ h : 0 < a0.size, ((a0[0]'h).toNat : Int) = bt a0 0 := bt_at a0 0
    clear p4
    have qi4 : (0 < (a0.size : Int)) = True := eq_true (of_decide_eq_true aq5)
    replace q4 := eq_true q4
    go_enter Tryz.func122, Tryz.ntmps122
    go_wp2
    go_ret
    exact ⟨aq8, aq13⟩
  ·rw [if_neg c3] at H
   exact absurd H (by simp)
 ·rw [if_neg c2] at H
  have c2b0 : ((a0.size : Int) == 1) = false := beq_eq_false_iff_ne.mpr c2
  have c2b1 : ((a0.size : Int) != 1) = true := bne_iff_ne.mpr c2
  obtain rfl := Option.some.inj H
  go_enter Tryz.func122, Tryz.ntmps122
  go_wp2
  go_ret
  exact ⟨aq8, aq13⟩
def spec_puGood.f (k : Nat) (a0_0 : ByteArray) (a0_1 : ByteArray) (a0_2 : Int) : Option (Bool) := (spec_tyRead.f k a0_0).bind fun bt102 => (if bt102.2.2.2 = true then ((spec_reName.f a0_1).bind fun t109 => (if t109 = true then (if 0 < (a0_1.size : Int) then ((spec_tiPlace.f k bt102.1 bt102.2.1 bt102.2.2.1 (bt a0_1 0)).bind fun t110 => (if t110 < 0 then (some false) else ((spec_l1In.f a0_2 0 (wrap64 ((bt102.2.2.1.length : Int) - 1))).bind fun t111 => (if t111 = true then (if 0 ≤ a0_2 then (if a0_2 < (bt102.2.2.1.length : Int) then (some ((rd bt102.2.2.1 a0_2) != 35)) else (none)) else (none)) else (some false))))) else (none)) else (some false))) else (some false))
theorem spec_puGood.mono : ∀ a0 a1 a2 k, LeO (spec_puGood.f k a0 a1 a2) (spec_puGood.f (k + 1) a0 a1 a2) := by
 intro a0 a1 a2 k
 unfold spec_puGood.f
 repeat' first
   | (with_reducible exact spec_tiPlace.mono _ _ _ _ _)
   | (with_reducible exact spec_tyRead.mono _ _)
   | (with_reducible exact LeO.refl _)
   | (with_reducible exact LeO.none _)
   | (with_reducible refine LeO.ite ?_ ?_)
   | (with_reducible refine LeO.bind ?_ (fun _ => ?_))
   | exact spec_tiPlace.mono _ _ _ _ _
   | exact spec_tyRead.mono _ _
   | exact LeO.none _
   | refine LeO.ite ?_ ?_
   | refine LeO.bind ?_ (fun _ => ?_)
def spec_puGood.T2 : Bool × List (List Nat × List Nat) := (true, [([], []), ([0], [0]), ([1], [1]), ([2], [2]), ([3, 2], [2, 3]), ([4, 2, 2], [2, 4]), ([5, 2], [2, 5]), ([2, 6], [2, 6]), ([7, 5], [7]), ([8], [8]), ([8], [8]), ([10, 8], [8, 10]), ([11, 8], [8, 11]), ([9, 12, 8, 8], [8, 9, 12]), ([13, 8], [8, 13]), ([8, 14], [8, 14])])
def spec_puGood.B2 : List Nat := [0, 1, 3, 7, 15, 31, 63, 127, 255, 511, 511, 1535, 3583, 8191, 16383, 32767]
theorem spec_puGood.tab2 : rtab .any (opsOf Tryz.f83 2) = spec_puGood.T2 := by kernel_rfl
theorem spec_puGood.bits2 : waitsOk spec_puGood.T2.2 spec_puGood.B2 = true := by kernel_rfl
set_option maxHeartbeats 8000000 in
set_option maxRecDepth 100000 in
theorem spec_puGood.calls (k : Nat) (a0_0 : ByteArray) (a0_1 : ByteArray) (a0_2 : Int) (r : Bool) (w : World) (h : spec_puGood.f k a0_0 a0_1 a0_2 = some r) :
  Calls Tryz.prog 83 #[.agg #[.string a0_0, .string a0_1, .int .i64 a0_2]] w fun e w' => e = .returned (.bool r) ∧ Below w.heap.size w w' := by
 have hu56 := Tryz.underlying56
 have hu62 := Tryz.underlying62
 have HB := am (Below.refl w.heap.size w)
 have H : ((spec_tyRead.f k a0_0).bind fun bt102 => (if bt102.2.2.2 = true then ((spec_reName.f a0_1).bind fun t109 => (if t109 = true then (if 0 < (a0_1.size : Int) then ((spec_tiPlace.f k bt102.1 bt102.2.1 bt102.2.2.1 (bt a0_1 0)).bind fun t110 => (if t110 < 0 then (some false) else ((spec_l1In.f a0_2 0 (wrap64 ((bt102.2.2.1.length : Int) - 1))).bind fun t111 => (if t111 = true then (if 0 ≤ a0_2 then (if a0_2 < (bt102.2.2.1.length : Int) then (some ((rd bt102.2.2.1 a0_2) != 35)) else (none)) else (none)) else (some false))))) else (none)) else (some false))) else (some false))) = some r := h
 clear h
 replace H := Option.bind_eq_some_iff.mp H
 obtain ⟨⟨t102, t103, t104, t107⟩, A20, H⟩ := H
 replace H : (if t107 = true then ((spec_reName.f a0_1).bind fun t109 => (if t109 = true then (if 0 < (a0_1.size : Int) then ((spec_tiPlace.f k t102 t103 t104 (bt a0_1 0)).bind fun t110 => (if t110 < 0 then (some false) else ((spec_l1In.f a0_2 0 (wrap64 ((t104.length : Int) - 1))).bind fun t111 => (if t111 = true then (if 0 ≤ a0_2 then (if a0_2 < (t104.length : Int) then (some ((rd t104 a0_2) != 35)) else (none)) else (none)) else (some false))))) else (none)) else (some false))) else (some false)) = some r := H
 have A2 := am A20
 clear A20
 by_cases c3 : t107 = true
 ·subst c3
  have H1 : ((spec_reName.f a0_1).bind fun t109 => (if t109 = true then (if 0 < (a0_1.size : Int) then ((spec_tiPlace.f k t102 t103 t104 (bt a0_1 0)).bind fun t110 => (if t110 < 0 then (some false) else ((spec_l1In.f a0_2 0 (wrap64 ((t104.length : Int) - 1))).bind fun t111 => (if t111 = true then (if 0 ≤ a0_2 then (if a0_2 < (t104.length : Int) then (some ((rd t104 a0_2) != 35)) else (none)) else (none)) else (some false))))) else (none)) else (some false))) = some r := by rw [if_pos rfl] at H; exact H
  clear H
  have H := H1
  clear H1
  replace H := Option.bind_eq_some_iff.mp H
  obtain ⟨t109, A40, H⟩ := H
  replace H : (if t109 = true then (if 0 < (a0_1.size : Int) then ((spec_tiPlace.f k t102 t103 t104 (bt a0_1 0)).bind fun t110 => (if t110 < 0 then (some false) else ((spec_l1In.f a0_2 0 (wrap64 ((t104.length : Int) - 1))).bind fun t111 => (if t111 = true then (if 0 ≤ a0_2 then (if a0_2 < (t104.length : Int) then (some ((rd t104 a0_2) != 35)) else (none)) else (none)) else (some false))))) else (none)) else (some false)) = some r := H
  have A4 := am A40
  clear A40
  by_cases c5 : t109 = true
  ·subst c5
   have H1 : (if 0 < (a0_1.size : Int) then ((spec_tiPlace.f k t102 t103 t104 (bt a0_1 0)).bind fun t110 => (if t110 < 0 then (some false) else ((spec_l1In.f a0_2 0 (wrap64 ((t104.length : Int) - 1))).bind fun t111 => (if t111 = true then (if 0 ≤ a0_2 then (if a0_2 < (t104.length : Int) then (some ((rd t104 a0_2) != 35)) else (none)) else (none)) else (some false))))) else (none)) = some r := by rw [if_pos rfl] at H; exact H
   clear H
   have H := H1
   clear H1
   by_cases c6 : 0 < (a0_1.size : Int)
   ·rw [if_pos c6] at H
    have c6b0 : decide (0 < (a0_1.size : Int)) = true := decide_eq_true c6
    have c6b1 : decide (0 < a0_1.size) = true := decide_eq_true (by omega)
    clear c6
    replace H := Option.bind_eq_some_iff.mp H
    obtain ⟨t110, A80, H⟩ := H
    replace H : (if t110 < 0 then (some false) else ((spec_l1In.f a0_2 0 (wrap64 ((t104.length : Int) - 1))).bind fun t111 => (if t111 = true then (if 0 ≤ a0_2 then (if a0_2 < (t104.length : Int) then (some ((rd t104 a0_2) != 35)) else (none)) else (none)) else (some false)))) = some r := H
    have A8 := am A80
    clear A80
    by_cases c9 : t110 < 0
    ·rw [if_pos c9] at H
     have c9b0 : decide (t110 < 0) = true := decide_eq_true c9
     clear c9
     obtain rfl := Option.some.inj H
     go_enter Tryz.func83, Tryz.ntmps83
     try go_wp2_with (first | ((with_reducible refine gate_dst (N := 1) rfl ?_); refine box_event ?hg (N := 1) ?hd (cs := #[.string a0_0, .string a0_1, .int .i64 a0_2]) (t := 56) ?hr ?_; (case hd => rfl); (case hg => rfl); (case hr => exact aq9); intro gb101 hg w10 hbox hb; have n0_ := am (below_step aq1 hb); have n1_ := am (hbox); have n2_ := am ((by rw [hg]; exact (below_size aq1) : w.heap.size ≤ gb101)); have n3_ := am ((by rw [hg]; exact (below_size aq1) : w.heap.size ≤ gb101)); clear HB; have HB := n0_; have BK101 := n1_; have GW101 := n2_; have GE101 := n3_; clear n0_ n1_ n2_ n3_; clear hb hbox hg; have hcz11_0 : w10.cell? ⟨gb101, 0, none⟩ = some (.string a0_0) := (blk_cell BK101.out 0).trans rfl; have hcz11_1 : w10.cell? ⟨gb101, 1, none⟩ = some (.string a0_1) := (blk_cell BK101.out 1).trans rfl; have hcz11_2 : w10.cell? ⟨gb101, 2, none⟩ = some (.int .i64 a0_2) := (blk_cell BK101.out 2).trans rfl; have hfz11_0 := blk_frozen BK101.out 0; have hfz11_1 := blk_frozen BK101.out 1; have hfz11_2 := blk_frozen BK101.out 2) | ((with_reducible refine gate_callee (f := 51) rfl ?_); refine goesL_ (some 8) rfl rfl Tryz.func51 (by kernel_rfl) rfl #[.string a0_0] rfl aq3 ?_; (with_reducible refine (spec_tyRead.calls k a0_0 t102 t103 t104 true _ A2.out).mono ?_); rintro e w12 ⟨v105, rfl, ho0, hb⟩; refine ⟨_, rfl, ?_⟩; have n0_ := am (Kd.R_lower ho0 (below_size aq0)); have n1_ := am (blk_below (g := gb101) (o := .cells #[.string a0_0, .string a0_1, .int .i64 a0_2] 56 (0, 0)) aq2 hb); have n2_ := am (below_step aq0 hb); clear BK101; clear HB; have HO106 := n0_; have BK101 := n1_; have HB := n2_; clear n0_ n1_ n2_; (try clear hb); (try clear hb2); (try clear hk); (try clear hi); (try clear ho0)) | ((with_reducible refine gate_dst (N := 3) rfl ?_); refine box_event ?hg (N := 3) ?hd (cs := #[.int .i64 0, .int .i64 0, .slice none 0 0]) (t := 62) ?hr ?_; (case hd => rfl); (case hg => rfl); (case hr => exact aq9); intro gb108 hg w13 hbox hb; have n0_ := am (Kd.R_below aq20 hb); have n1_ := am (blk_below (g := gb101) (o := .cells #[.string a0_0, .string a0_1, .int .i64 a0_2] 56 (0, 0)) aq2 hb); have n2_ := am (below_step aq0 hb); have n3_ := am (hbox); have n4_ := am ((by rw [hg]; exact (below_size aq0) : w.heap.size ≤ gb108)); have n5_ := am ((by rw [hg]; exact (below_size aq0) : w.heap.size ≤ gb108)); have n6_ := am ((by rw [hg]; exact Nat.ne_of_lt (blk_lt (g := gb101) (o := .cells #[.string a0_0, .string a0_1, .int .i64 a0_2] 56 (0, 0)) aq2) : gb101 ≠ gb108)); have n7_ := am ((by rw [hg]; exact Nat.ne_of_gt (blk_lt (g := gb101) (o := .cells #[.string a0_0, .string a0_1, .int .i64 a0_2] 56 (0, 0)) aq2) : gb108 ≠ gb101)); clear HO106; clear BK101; clear HB; have HO106 := n0_; have BK101 := n1_; have HB := n2_; have BK108 := n3_; have GW108 := n4_; have GE108 := n5_; have NB101_108 := n6_; have NB108_101 := n7_; clear n0_ n1_ n2_ n3_ n4_ n5_ n6_ n7_; clear hb hbox hg; have hnb14 := NB108_101.out; have hnc14 := NB101_108.out; have hcz15_0 : w13.cell? ⟨gb108, 0, none⟩ = some (.int .i64 0) := (blk_cell BK108.out 0).trans rfl; have hcz15_1 : w13.cell? ⟨gb108, 1, none⟩ = some (.int .i64 0) := (blk_cell BK108.out 1).trans rfl; have hcz15_2 : w13.cell? ⟨gb108, 2, none⟩ = some (.slice none 0 0) := (blk_cell BK108.out 2).trans rfl; have hfz15_0 := blk_frozen BK108.out 0; have hfz15_1 := blk_frozen BK108.out 1; have hfz15_2 := blk_frozen BK108.out 2; obtain ⟨Ao16, co16, eo16⟩ := Kd.R_slice HO106.out; subst eo16))
     have n0_ : Aside0 (Kd.R (Kd.int .u8) 5 (((w13.setCell ⟨gb108, 0, none⟩ (.int .i64 t102)).setCell ⟨gb108, 1, none⟩ (.int .i64 t103)).setCell ⟨gb108, 2, none⟩ (.slice Ao16 t104.length co16)) w.heap.size (fun _ => True) (.slice Ao16 t104.length co16) t104) := ⟨by (with_reducible repeat (first | apply Kd.R_alloc | apply Kd.R_drewN | apply Kd.R_drew)); exact Kd.R_mono (Kd.R_far (p := ⟨gb108, 2, none⟩) (Kd.R_far (p := ⟨gb108, 1, none⟩) (Kd.R_far (p := ⟨gb108, 0, none⟩) (Kd.R_types HO106.out BK108.out (by decide)) (fun _ hk => hk.2) (.int .i64 t102)) (fun _ hk => hk.2) (.int .i64 t103)) (fun _ hk => hk.2) (.slice Ao16 t104.length co16)) (fun _ hk => trivial)⟩
     have n1_ : Aside0 ((((w13.setCell ⟨gb108, 0, none⟩ (.int .i64 t102)).setCell ⟨gb108, 1, none⟩ (.int .i64 t103)).setCell ⟨gb108, 2, none⟩ (.slice Ao16 t104.length co16)).heap[gb101]? = some (.cells #[.string a0_0, .string a0_1, .int .i64 a0_2] 56 (0, 0))) := ⟨aq32⟩
     have n2_ : Aside0 ((((w13.setCell ⟨gb108, 0, none⟩ (.int .i64 t102)).setCell ⟨gb108, 1, none⟩ (.int .i64 t103)).setCell ⟨gb108, 2, none⟩ (.slice Ao16 t104.length co16)).heap[gb108]? = some (.cells #[.int .i64 t102, .int .i64 t103, .slice Ao16 t104.length co16] 62 (0, 0))) := ⟨aq11⟩
     have n3_ : Aside0 (Below w.heap.size w (((w13.setCell ⟨gb108, 0, none⟩ (.int .i64 t102)).setCell ⟨gb108, 1, none⟩ (.int .i64 t103)).setCell ⟨gb108, 2, none⟩ (.slice Ao16 t104.length co16))) := ⟨aq14⟩
     (try clear HO106)
     (try clear BK101)
     (try clear BK108)
     (try clear HB)
     generalize (((w13.setCell ⟨gb108, 0, none⟩ (.int .i64 t102)).setCell ⟨gb108, 1, none⟩ (.int .i64 t103)).setCell ⟨gb108, 2, none⟩ (.slice Ao16 t104.length co16)) = w17 at n0_ n1_ n2_ n3_ ⊢
     have HO106 := n0_
     have BK101 := n1_
     have BK108 := n2_
     have HB := n3_
     clear n0_ n1_ n2_ n3_
     have n0_ := am (Kd.R_drew HO106.out)
     have n1_ := am (blk_drew BK101.out)
     have n2_ := am (blk_drew BK108.out)
     have n3_ := am (below_drew1 HB.out)
     clear HO106
     clear BK101
     clear BK108
     clear HB
     have HO106 := n0_
     have BK101 := n1_
     have BK108 := n2_
     have HB := n3_
     clear n0_ n1_ n2_ n3_
     refine start_ (n := 16) (S := fun w' => w'.cell? ⟨gb101, 0, none⟩ = some (.string a0_0) ∧ w'.cell? ⟨gb101, 1, none⟩ = some (.string a0_1) ∧ w'.cell? ⟨gb101, 2, none⟩ = some (.int .i64 a0_2) ∧ w'.cell? ⟨gb108, 0, none⟩ = some (.int .i64 t102) ∧ w'.cell? ⟨gb108, 1, none⟩ = some (.int .i64 t103) ∧ w'.cell? ⟨gb108, 2, none⟩ = some (.slice Ao16 t104.length co16)) (ds := []) #[false, false, false, false, false, false, false, false, false, false, false, false, false, false, false, false] (by kernel_rfl) rfl rfl ⟨(blk_cell BK101.out 0).trans rfl, (blk_cell BK101.out 1).trans rfl, (blk_cell BK101.out 2).trans rfl, (blk_cell BK108.out 0).trans rfl, (blk_cell BK108.out 1).trans rfl, (blk_cell BK108.out 2).trans rfl⟩ (fun hHeld => ?_); refine with_tabW spec_puGood.tab2 spec_puGood.bits2 (fun HT_ HW_ => ?_)
     generalize w17.drew = w18 at HO106 BK101 BK108 HB hHeld ⊢
     refine pure_ (i := 0) (N := some 11) (v := ?_) (a' := ?_) (bm 16 1) rfl rfl (any_of HT_.out (by kernel_rfl)) (fun _ _ _ h => h) (Or.inl ⟨by rfl, ?_⟩) ?_ ?_
     rotate_left
     ·intro w'
      go_simp
      with_reducible rfl
     rotate_left
     ·simp only [Act.put, ac_]
      rfl
     refine pure_ (i := 1) (N := some 12) (v := ?_) (a' := ?_) (bm 16 3) rfl rfl (any_of HT_.out (by kernel_rfl)) (fun _ _ _ h => h) (Or.inl ⟨by rfl, ?_⟩) ?_ ?_
     rotate_left
     ·intro w'
      go_simp
      with_reducible rfl
     rotate_left
     ·simp only [Act.put, ac_]
      rfl
     refine pure_ (i := 2) (N := some 13) (v := ?_) (a' := ?_) (bm 16 7) rfl rfl (any_of HT_.out (by kernel_rfl)) (fun _ _ _ h => h) (Or.inl ⟨by rfl, ?_⟩) ?_ ?_
     rotate_left
     ·intro w'
      go_simp
      with_reducible rfl
     rotate_left
     ·simp only [Act.put, ac_]
      rfl
     refine pure_ (i := 3) (N := some 14) (v := ?_) (a' := ?_) (bm 16 15) rfl rfl (any_of HT_.out (by kernel_rfl)) (fun _ _ _ h => h) (Or.inl ⟨by rfl, ?_⟩) ?_ ?_
     rotate_left
     ·intro w'
      go_simp
      with_reducible rfl
     rotate_left
     ·simp only [Act.put, ac_]
      rfl
     refine take_ (i := 4) (N := some 15) (v := ?_) (a' := ?_) (bm 16 31) rfl rfl (take_ofW HT_.out HW_.out (by kernel_rfl)) (fun _ _ _ h => h) (Or.inl ⟨by rfl, ?_⟩) hHeld ?_ ?_
     rotate_left
     ·rintro w' ⟨s0, s1, s2, s3, s4, s5⟩
      go_simp
      with_reducible rfl
     rotate_left
     ·simp only [Act.put, ac_]
      rfl
     refine one_ (i := 5) (N := some 16) (bm 16 63) rfl rfl (one_of HT_.out (by kernel_rfl)) (by decide) (fun K hK => ?_)
     refine goes_ Tryz.func122 (by kernel_rfl) rfl #[.string a0_1] (by rfl) rfl rfl aq3 ?_
     with_reducible refine (spec_reName.calls a0_1 true _ A4.out).mono ?_
     rintro e w' ⟨rfl, ⟨nd, rfl⟩⟩
     refine ⟨_, rfl, ?_⟩
     have p7 : 0 ≤ (0 : Int) := (by omega)
     have q7 : 0 < a0_1.size := (by have : (0 : Int) < (a0_1.size : Int) := of_decide_eq_true aq5; omega)
     have hx7 : ∀ h : 0 < a0_1.size, ((a0_1[0]'h).toNat : Int) = bt a0_1 0 := bt_at a0_1 0
     clear p7
     have qi7 : (0 < (a0_1.size : Int)) = True := eq_true (of_decide_eq_true aq5)
     replace q7 := eq_true q7
     refine hK.out _ _ ⟨(blk_cell BK101.out 0).trans rfl, (blk_cell BK101.out 1).trans rfl, (blk_cell BK101.out 2).trans rfl, (blk_cell BK108.out 0).trans rfl, (blk_cell BK108.out 1).trans rfl, (blk_cell BK108.out 2).trans rfl⟩ (fun hHeld => ?_)
     clear hK K
     refine norm_ (a' := ?_) ?_ ?_
     rotate_left
     ·show Act.put _ (some 16) _ = _
      simp only [Act.put, ac_]
      rfl
     refine pure_ (i := 6) (N := some 17) (v := ?_) (a' := ?_) (bm 16 127) rfl rfl (any_of HT_.out (by kernel_rfl)) (fun _ _ _ h => h) (Or.inl ⟨by rfl, ?_⟩) ?_ ?_
     rotate_left
     ·intro w'
      go_simp
      with_reducible rfl
     rotate_left
     ·simp only [Act.put, ac_]
      rfl
     refine pure_ (i := 7) (N := some 18) (v := ?_) (a' := ?_) (bm 16 255) rfl rfl (any_of HT_.out (by kernel_rfl)) (fun _ _ _ h => h) (Or.inl ⟨by rfl, ?_⟩) ?_ ?_
     rotate_left
     ·intro w'
      go_simp
      with_reducible rfl
     rotate_left
     ·simp only [Act.put, ac_]
      rfl
     refine pure_ (i := 8) (N := some 19) (v := ?_) (a' := ?_) (bm 16 511) rfl rfl (any_of HT_.out (by kernel_rfl)) (fun _ _ _ h => h) (Or.inl ⟨by rfl, ?_⟩) ?_ ?_
     rotate_left
     ·intro w'
      go_simp
      with_reducible rfl
     rotate_left
     ·simp only [Act.put, ac_]
      rfl
     refine pure_ (i := 10) (N := some 21) (v := ?_) (a' := ?_) (bm 16 1535) rfl rfl (any_of HT_.out (by kernel_rfl)) (fun _ _ _ h => h) (Or.inl ⟨by rfl, ?_⟩) ?_ ?_
     rotate_left
     ·intro w'
      go_simp
      with_reducible rfl
     rotate_left
     ·simp only [Act.put, ac_]
      rfl
     refine take_ (i := 9) (N := some 20) (v := ?_) (a' := ?_) (bm 16 2047) rfl rfl (take_ofW HT_.out HW_.out (by kernel_rfl)) (fun _ _ _ h => h) (Or.inl ⟨by rfl, ?_⟩) hHeld ?_ ?_
     rotate_left
     ·rintro w' ⟨s0, s1, s2, s3, s4, s5⟩
      go_simp
      with_reducible rfl
     rotate_left
     ·simp only [Act.put, ac_]
      rfl
     refine take_ (i := 11) (N := some 22) (v := ?_) (a' := ?_) (bm 16 4095) rfl rfl (take_ofW HT_.out HW_.out (by kernel_rfl)) (fun _ _ _ h => h) (Or.inl ⟨by rfl, ?_⟩) hHeld ?_ ?_
     rotate_left
     ·rintro w' ⟨s0, s1, s2, s3, s4, s5⟩
      go_simp
      with_reducible rfl
     rotate_left
     ·simp only [Act.put, ac_]
      rfl
     refine take_ (i := 12) (N := some 23) (v := ?_) (a' := ?_) (bm 16 8191) rfl rfl (take_ofW HT_.out HW_.out (by kernel_rfl)) (fun _ _ _ h => h) (Or.inl ⟨by rfl, ?_⟩) hHeld ?_ ?_
     rotate_left
     ·rintro w' ⟨s0, s1, s2, s3, s4, s5⟩
      go_simp
      with_reducible rfl
     rotate_left
     ·simp only [Act.put, ac_]
      rfl
     refine one_ (i := 13) (N := some 24) (bm 16 16383) rfl rfl (one_of HT_.out (by kernel_rfl)) (by decide) (fun K hK => ?_)
     refine goes_ Tryz.func123 (by kernel_rfl) rfl #[.agg #[.int .i64 t102, .int .i64 t103, .slice Ao16 t104.length co16], .int .u8 (bt a0_1 0)] (by rfl) rfl rfl aq3 ?_
     with_reducible refine (spec_tiPlace.calls k t102 t103 _ _ t104 (bt a0_1 0) t110 _ ?side1 ?side2 A8.out).mono ?_
     (case side1 => exact aq29)
     (case side2 => exact (Kd.R_reads' HO106.out).2.1)
     rintro e w19 ⟨rfl, hb⟩
     refine ⟨_, rfl, ?_⟩
     have n0_ := am (Kd.R_below aq20 hb)
     have n1_ := am (blk_below (g := gb101) (o := .cells #[.string a0_0, .string a0_1, .int .i64 a0_2] 56 (0, 0)) aq2 hb)
     have n2_ := am (blk_below (g := gb108) (o := .cells #[.int .i64 t102, .int .i64 t103, .slice Ao16 t104.length co16] 62 (0, 0)) aq51 hb)
     have n3_ := am (below_step aq14 hb)
     clear HO106
     clear BK101
     clear BK108
     clear HB
     have HO106 := n0_
     have BK101 := n1_
     have BK108 := n2_
     have HB := n3_
     clear n0_ n1_ n2_ n3_
     (try clear hb)
     (try clear hb2)
     (try clear hk)
     (try clear hi)
     refine hK.out _ _ ⟨(blk_cell BK101.out 0).trans rfl, (blk_cell BK101.out 1).trans rfl, (blk_cell BK101.out 2).trans rfl, (blk_cell BK108.out 0).trans rfl, (blk_cell BK108.out 1).trans rfl, (blk_cell BK108.out 2).trans rfl⟩ (fun hHeld => ?_)
     clear hK K
     refine norm_ (a' := ?_) ?_ ?_
     rotate_left
     ·show Act.put _ (some 24) _ = _
      simp only [Act.put, ac_]
      rfl
     refine pure_ (i := 14) (N := some 25) (v := ?_) (a' := ?_) (bm 16 32767) rfl rfl (any_of HT_.out (by kernel_rfl)) (fun _ _ _ h => h) (Or.inl ⟨by rfl, ?_⟩) ?_ ?_
     rotate_left
     ·intro w'
      go_simp
      with_reducible rfl
     rotate_left
     ·simp only [Act.put, ac_]
      rfl
     refine pure_ (i := 15) (N := some 26) (v := ?_) (a' := ?_) (bm 16 65535) rfl rfl (any_of HT_.out (by kernel_rfl)) (fun _ _ _ h => h) (Or.inl ⟨by rfl, ?_⟩) ?_ ?_
     rotate_left
     ·intro w'
      go_simp
      with_reducible rfl
     rotate_left
     ·simp only [Act.put, ac_]
      rfl
     refine done_ (done_of HT_.out (by kernel_rfl)) ?_
     try go_wp2
     go_ret
     exact ⟨aq7, aq14⟩
    ·rw [if_neg c9] at H
     have c9b0 : decide (t110 < 0) = false := decide_eq_false c9
     clear c9
     replace H := Option.bind_eq_some_iff.mp H
     obtain ⟨t111, A200, H⟩ := H
     replace H : (if t111 = true then (if 0 ≤ a0_2 then (if a0_2 < (t104.length : Int) then (some ((rd t104 a0_2) != 35)) else (none)) else (none)) else (some false)) = some r := H
     have A20 := am A200
     clear A200
     by_cases c21 : t111 = true
     ·subst c21
      have H1 : (if 0 ≤ a0_2 then (if a0_2 < (t104.length : Int) then (some ((rd t104 a0_2) != 35)) else (none)) else (none)) = some r := by rw [if_pos rfl] at H; exact H
      clear H
      have H := H1
      clear H1
      by_cases c22 : 0 ≤ a0_2
      ·rw [if_pos c22] at H
       have c22b0 : decide (0 ≤ a0_2) = true := decide_eq_true c22
       clear c22
       by_cases c23 : a0_2 < (t104.length : Int)
       ·rw [if_pos c23] at H
        have c23b0 : decide (a0_2 < (t104.length : Int)) = true := decide_eq_true c23
        clear c23
        obtain rfl := Option.some.inj H
        go_enter Tryz.func83, Tryz.ntmps83
        try go_wp2_with (first | ((with_reducible refine gate_dst (N := 1) rfl ?_); refine box_event ?hg (N := 1) ?hd (cs := #[.string a0_0, .string a0_1, .int .i64 a0_2]) (t := 56) ?hr ?_; (case hd => rfl); (case hg => rfl); (case hr => exact aq9); intro gb101 hg w24 hbox hb; have n0_ := am (below_step aq1 hb); have n1_ := am (hbox); have n2_ := am ((by rw [hg]; exact (below_size aq1) : w.heap.size ≤ gb101)); have n3_ := am ((by rw [hg]; exact (below_size aq1) : w.heap.size ≤ gb101)); clear HB; have HB := n0_; have BK101 := n1_; have GW101 := n2_; have GE101 := n3_; clear n0_ n1_ n2_ n3_; clear hb hbox hg; have hcz25_0 : w24.cell? ⟨gb101, 0, none⟩ = some (.string a0_0) := (blk_cell BK101.out 0).trans rfl; have hcz25_1 : w24.cell? ⟨gb101, 1, none⟩ = some (.string a0_1) := (blk_cell BK101.out 1).trans rfl; have hcz25_2 : w24.cell? ⟨gb101, 2, none⟩ = some (.int .i64 a0_2) := (blk_cell BK101.out 2).trans rfl; have hfz25_0 := blk_frozen BK101.out 0; have hfz25_1 := blk_frozen BK101.out 1; have hfz25_2 := blk_frozen BK101.out 2) | ((with_reducible refine gate_callee (f := 51) rfl ?_); refine goesL_ (some 8) rfl rfl Tryz.func51 (by kernel_rfl) rfl #[.string a0_0] rfl aq3 ?_; (with_reducible refine (spec_tyRead.calls k a0_0 t102 t103 t104 true _ A2.out).mono ?_); rintro e w26 ⟨v105, rfl, ho0, hb⟩; refine ⟨_, rfl, ?_⟩; have n0_ := am (Kd.R_lower ho0 (below_size aq0)); have n1_ := am (blk_below (g := gb101) (o := .cells #[.string a0_0, .string a0_1, .int .i64 a0_2] 56 (0, 0)) aq2 hb); have n2_ := am (below_step aq0 hb); clear BK101; clear HB; have HO106 := n0_; have BK101 := n1_; have HB := n2_; clear n0_ n1_ n2_; (try clear hb); (try clear hb2); (try clear hk); (try clear hi); (try clear ho0)) | ((with_reducible refine gate_dst (N := 3) rfl ?_); refine box_event ?hg (N := 3) ?hd (cs := #[.int .i64 0, .int .i64 0, .slice none 0 0]) (t := 62) ?hr ?_; (case hd => rfl); (case hg => rfl); (case hr => exact aq9); intro gb108 hg w27 hbox hb; have n0_ := am (Kd.R_below aq20 hb); have n1_ := am (blk_below (g := gb101) (o := .cells #[.string a0_0, .string a0_1, .int .i64 a0_2] 56 (0, 0)) aq2 hb); have n2_ := am (below_step aq0 hb); have n3_ := am (hbox); have n4_ := am ((by rw [hg]; exact (below_size aq0) : w.heap.size ≤ gb108)); have n5_ := am ((by rw [hg]; exact (below_size aq0) : w.heap.size ≤ gb108)); have n6_ := am ((by rw [hg]; exact Nat.ne_of_lt (blk_lt (g := gb101) (o := .cells #[.string a0_0, .string a0_1, .int .i64 a0_2] 56 (0, 0)) aq2) : gb101 ≠ gb108)); have n7_ := am ((by rw [hg]; exact Nat.ne_of_gt (blk_lt (g := gb101) (o := .cells #[.string a0_0, .string a0_1, .int .i64 a0_2] 56 (0, 0)) aq2) : gb108 ≠ gb101)); clear HO106; clear BK101; clear HB; have HO106 := n0_; have BK101 := n1_; have HB := n2_; have BK108 := n3_; have GW108 := n4_; have GE108 := n5_; have NB101_108 := n6_; have NB108_101 := n7_; clear n0_ n1_ n2_ n3_ n4_ n5_ n6_ n7_; clear hb hbox hg; have hnb28 := NB108_101.out; have hnc28 := NB101_108.out; have hcz29_0 : w27.cell? ⟨gb108, 0, none⟩ = some (.int .i64 0) := (blk_cell BK108.out 0).trans rfl; have hcz29_1 : w27.cell? ⟨gb108, 1, none⟩ = some (.int .i64 0) := (blk_cell BK108.out 1).trans rfl; have hcz29_2 : w27.cell? ⟨gb108, 2, none⟩ = some (.slice none 0 0) := (blk_cell BK108.out 2).trans rfl; have hfz29_0 := blk_frozen BK108.out 0; have hfz29_1 := blk_frozen BK108.out 1; have hfz29_2 := blk_frozen BK108.out 2; obtain ⟨Ao30, co30, eo30⟩ := Kd.R_slice HO106.out; subst eo30))
        have n0_ : Aside0 (Kd.R (Kd.int .u8) 5 (((w27.setCell ⟨gb108, 0, none⟩ (.int .i64 t102)).setCell ⟨gb108, 1, none⟩ (.int .i64 t103)).setCell ⟨gb108, 2, none⟩ (.slice Ao30 t104.length co30)) w.heap.size (fun _ => True) (.slice Ao30 t104.length co30) t104) := ⟨by (with_reducible repeat (first | apply Kd.R_alloc | apply Kd.R_drewN | apply Kd.R_drew)); exact Kd.R_mono (Kd.R_far (p := ⟨gb108, 2, none⟩) (Kd.R_far (p := ⟨gb108, 1, none⟩) (Kd.R_far (p := ⟨gb108, 0, none⟩) (Kd.R_types HO106.out BK108.out (by decide)) (fun _ hk => hk.2) (.int .i64 t102)) (fun _ hk => hk.2) (.int .i64 t103)) (fun _ hk => hk.2) (.slice Ao30 t104.length co30)) (fun _ hk => trivial)⟩
        have n1_ : Aside0 ((((w27.setCell ⟨gb108, 0, none⟩ (.int .i64 t102)).setCell ⟨gb108, 1, none⟩ (.int .i64 t103)).setCell ⟨gb108, 2, none⟩ (.slice Ao30 t104.length co30)).heap[gb101]? = some (.cells #[.string a0_0, .string a0_1, .int .i64 a0_2] 56 (0, 0))) := ⟨aq32⟩
        have n2_ : Aside0 ((((w27.setCell ⟨gb108, 0, none⟩ (.int .i64 t102)).setCell ⟨gb108, 1, none⟩ (.int .i64 t103)).setCell ⟨gb108, 2, none⟩ (.slice Ao30 t104.length co30)).heap[gb108]? = some (.cells #[.int .i64 t102, .int .i64 t103, .slice Ao30 t104.length co30] 62 (0, 0))) := ⟨aq11⟩
        have n3_ : Aside0 (Below w.heap.size w (((w27.setCell ⟨gb108, 0, none⟩ (.int .i64 t102)).setCell ⟨gb108, 1, none⟩ (.int .i64 t103)).setCell ⟨gb108, 2, none⟩ (.slice Ao30 t104.length co30))) := ⟨aq14⟩
        (try clear HO106)
        (try clear BK101)
        (try clear BK108)
        (try clear HB)
        generalize (((w27.setCell ⟨gb108, 0, none⟩ (.int .i64 t102)).setCell ⟨gb108, 1, none⟩ (.int .i64 t103)).setCell ⟨gb108, 2, none⟩ (.slice Ao30 t104.length co30)) = w31 at n0_ n1_ n2_ n3_ ⊢
        have HO106 := n0_
        have BK101 := n1_
        have BK108 := n2_
        have HB := n3_
        clear n0_ n1_ n2_ n3_
        have n0_ := am (Kd.R_drew HO106.out)
        have n1_ := am (blk_drew BK101.out)
        have n2_ := am (blk_drew BK108.out)
        have n3_ := am (below_drew1 HB.out)
        clear HO106
        clear BK101
        clear BK108
        clear HB
        have HO106 := n0_
        have BK101 := n1_
        have BK108 := n2_
        have HB := n3_
        clear n0_ n1_ n2_ n3_
        refine start_ (n := 16) (S := fun w' => w'.cell? ⟨gb101, 0, none⟩ = some (.string a0_0) ∧ w'.cell? ⟨gb101, 1, none⟩ = some (.string a0_1) ∧ w'.cell? ⟨gb101, 2, none⟩ = some (.int .i64 a0_2) ∧ w'.cell? ⟨gb108, 0, none⟩ = some (.int .i64 t102) ∧ w'.cell? ⟨gb108, 1, none⟩ = some (.int .i64 t103) ∧ w'.cell? ⟨gb108, 2, none⟩ = some (.slice Ao30 t104.length co30)) (ds := []) #[false, false, false, false, false, false, false, false, false, false, false, false, false, false, false, false] (by kernel_rfl) rfl rfl ⟨(blk_cell BK101.out 0).trans rfl, (blk_cell BK101.out 1).trans rfl, (blk_cell BK101.out 2).trans rfl, (blk_cell BK108.out 0).trans rfl, (blk_cell BK108.out 1).trans rfl, (blk_cell BK108.out 2).trans rfl⟩ (fun hHeld => ?_); refine with_tabW spec_puGood.tab2 spec_puGood.bits2 (fun HT_ HW_ => ?_)
        generalize w31.drew = w32 at HO106 BK101 BK108 HB hHeld ⊢
        refine pure_ (i := 0) (N := some 11) (v := ?_) (a' := ?_) (bm 16 1) rfl rfl (any_of HT_.out (by kernel_rfl)) (fun _ _ _ h => h) (Or.inl ⟨by rfl, ?_⟩) ?_ ?_
        rotate_left
        ·intro w'
         go_simp
         with_reducible rfl
        rotate_left
        ·simp only [Act.put, ac_]
         rfl
        refine pure_ (i := 1) (N := some 12) (v := ?_) (a' := ?_) (bm 16 3) rfl rfl (any_of HT_.out (by kernel_rfl)) (fun _ _ _ h => h) (Or.inl ⟨by rfl, ?_⟩) ?_ ?_
        rotate_left
        ·intro w'
         go_simp
         with_reducible rfl
        rotate_left
        ·simp only [Act.put, ac_]
         rfl
        refine pure_ (i := 2) (N := some 13) (v := ?_) (a' := ?_) (bm 16 7) rfl rfl (any_of HT_.out (by kernel_rfl)) (fun _ _ _ h => h) (Or.inl ⟨by rfl, ?_⟩) ?_ ?_
        rotate_left
        ·intro w'
         go_simp
         with_reducible rfl
        rotate_left
        ·simp only [Act.put, ac_]
         rfl
        refine pure_ (i := 3) (N := some 14) (v := ?_) (a' := ?_) (bm 16 15) rfl rfl (any_of HT_.out (by kernel_rfl)) (fun _ _ _ h => h) (Or.inl ⟨by rfl, ?_⟩) ?_ ?_
        rotate_left
        ·intro w'
         go_simp
         with_reducible rfl
        rotate_left
        ·simp only [Act.put, ac_]
         rfl
        refine take_ (i := 4) (N := some 15) (v := ?_) (a' := ?_) (bm 16 31) rfl rfl (take_ofW HT_.out HW_.out (by kernel_rfl)) (fun _ _ _ h => h) (Or.inl ⟨by rfl, ?_⟩) hHeld ?_ ?_
        rotate_left
        ·rintro w' ⟨s0, s1, s2, s3, s4, s5⟩
         go_simp
         with_reducible rfl
        rotate_left
        ·simp only [Act.put, ac_]
         rfl
        refine one_ (i := 5) (N := some 16) (bm 16 63) rfl rfl (one_of HT_.out (by kernel_rfl)) (by decide) (fun K hK => ?_)
        refine goes_ Tryz.func122 (by kernel_rfl) rfl #[.string a0_1] (by rfl) rfl rfl aq3 ?_
        with_reducible refine (spec_reName.calls a0_1 true _ A4.out).mono ?_
        rintro e w' ⟨rfl, ⟨nd, rfl⟩⟩
        refine ⟨_, rfl, ?_⟩
        have p7 : 0 ≤ (0 : Int) := (by omega)
        have q7 : 0 < a0_1.size := (by have : (0 : Int) < (a0_1.size : Int) := of_decide_eq_true aq5; omega)
        have hx7 : ∀ h : 0 < a0_1.size, ((a0_1[0]'h).toNat : Int) = bt a0_1 0 := bt_at a0_1 0
        clear p7
        have qi7 : (0 < (a0_1.size : Int)) = True := eq_true (of_decide_eq_true aq5)
        replace q7 := eq_true q7
        refine hK.out _ _ ⟨(blk_cell BK101.out 0).trans rfl, (blk_cell BK101.out 1).trans rfl, (blk_cell BK101.out 2).trans rfl, (blk_cell BK108.out 0).trans rfl, (blk_cell BK108.out 1).trans rfl, (blk_cell BK108.out 2).trans rfl⟩ (fun hHeld => ?_)
        clear hK K
        refine norm_ (a' := ?_) ?_ ?_
        rotate_left
        ·show Act.put _ (some 16) _ = _
         simp only [Act.put, ac_]
         rfl
        refine pure_ (i := 6) (N := some 17) (v := ?_) (a' := ?_) (bm 16 127) rfl rfl (any_of HT_.out (by kernel_rfl)) (fun _ _ _ h => h) (Or.inl ⟨by rfl, ?_⟩) ?_ ?_
        rotate_left
        ·intro w'
         go_simp
         with_reducible rfl
        rotate_left
        ·simp only [Act.put, ac_]
         rfl
        refine pure_ (i := 7) (N := some 18) (v := ?_) (a' := ?_) (bm 16 255) rfl rfl (any_of HT_.out (by kernel_rfl)) (fun _ _ _ h => h) (Or.inl ⟨by rfl, ?_⟩) ?_ ?_
        rotate_left
        ·intro w'
         go_simp
         with_reducible rfl
        rotate_left
        ·simp only [Act.put, ac_]
         rfl
        refine pure_ (i := 8) (N := some 19) (v := ?_) (a' := ?_) (bm 16 511) rfl rfl (any_of HT_.out (by kernel_rfl)) (fun _ _ _ h => h) (Or.inl ⟨by rfl, ?_⟩) ?_ ?_
        rotate_left
        ·intro w'
         go_simp
         with_reducible rfl
        rotate_left
        ·simp only [Act.put, ac_]
         rfl
        refine pure_ (i := 10) (N := some 21) (v := ?_) (a' := ?_) (bm 16 1535) rfl rfl (any_of HT_.out (by kernel_rfl)) (fun _ _ _ h => h) (Or.inl ⟨by rfl, ?_⟩) ?_ ?_
        rotate_left
        ·intro w'
         go_simp
         with_reducible rfl
        rotate_left
        ·simp only [Act.put, ac_]
         rfl
        refine take_ (i := 9) (N := some 20) (v := ?_) (a' := ?_) (bm 16 2047) rfl rfl (take_ofW HT_.out HW_.out (by kernel_rfl)) (fun _ _ _ h => h) (Or.inl ⟨by rfl, ?_⟩) hHeld ?_ ?_
        rotate_left
        ·rintro w' ⟨s0, s1, s2, s3, s4, s5⟩
         go_simp
         with_reducible rfl
        rotate_left
        ·simp only [Act.put, ac_]
         rfl
        refine take_ (i := 11) (N := some 22) (v := ?_) (a' := ?_) (bm 16 4095) rfl rfl (take_ofW HT_.out HW_.out (by kernel_rfl)) (fun _ _ _ h => h) (Or.inl ⟨by rfl, ?_⟩) hHeld ?_ ?_
        rotate_left
        ·rintro w' ⟨s0, s1, s2, s3, s4, s5⟩
         go_simp
         with_reducible rfl
        rotate_left
        ·simp only [Act.put, ac_]
         rfl
        refine take_ (i := 12) (N := some 23) (v := ?_) (a' := ?_) (bm 16 8191) rfl rfl (take_ofW HT_.out HW_.out (by kernel_rfl)) (fun _ _ _ h => h) (Or.inl ⟨by rfl, ?_⟩) hHeld ?_ ?_
        rotate_left
        ·rintro w' ⟨s0, s1, s2, s3, s4, s5⟩
         go_simp
         with_reducible rfl
        rotate_left
        ·simp only [Act.put, ac_]
         rfl
        refine one_ (i := 13) (N := some 24) (bm 16 16383) rfl rfl (one_of HT_.out (by kernel_rfl)) (by decide) (fun K hK => ?_)
        refine goes_ Tryz.func123 (by kernel_rfl) rfl #[.agg #[.int .i64 t102, .int .i64 t103, .slice Ao30 t104.length co30], .int .u8 (bt a0_1 0)] (by rfl) rfl rfl aq3 ?_
        with_reducible refine (spec_tiPlace.calls k t102 t103 _ _ t104 (bt a0_1 0) t110 _ ?side1 ?side2 A8.out).mono ?_
        (case side1 => exact aq29)
        (case side2 => exact (Kd.R_reads' HO106.out).2.1)
        rintro e w33 ⟨rfl, hb⟩
        refine ⟨_, rfl, ?_⟩
        have n0_ := am (Kd.R_below aq20 hb)
        have n1_ := am (blk_below (g := gb101) (o := .cells #[.string a0_0, .string a0_1, .int .i64 a0_2] 56 (0, 0)) aq2 hb)
        have n2_ := am (blk_below (g := gb108) (o := .cells #[.int .i64 t102, .int .i64 t103, .slice Ao30 t104.length co30] 62 (0, 0)) aq51 hb)
        have n3_ := am (below_step aq14 hb)
        clear HO106
        clear BK101
        clear BK108
        clear HB
        have HO106 := n0_
        have BK101 := n1_
        have BK108 := n2_
        have HB := n3_
        clear n0_ n1_ n2_ n3_
        (try clear hb)
        (try clear hb2)
        (try clear hk)
        (try clear hi)
        refine hK.out _ _ ⟨(blk_cell BK101.out 0).trans rfl, (blk_cell BK101.out 1).trans rfl, (blk_cell BK101.out 2).trans rfl, (blk_cell BK108.out 0).trans rfl, (blk_cell BK108.out 1).trans rfl, (blk_cell BK108.out 2).trans rfl⟩ (fun hHeld => ?_)
        clear hK K
        refine norm_ (a' := ?_) ?_ ?_
        rotate_left
        ·show Act.put _ (some 24) _ = _
         simp only [Act.put, ac_]
         rfl
        refine pure_ (i := 14) (N := some 25) (v := ?_) (a' := ?_) (bm 16 32767) rfl rfl (any_of HT_.out (by kernel_rfl)) (fun _ _ _ h => h) (Or.inl ⟨by rfl, ?_⟩) ?_ ?_
        rotate_left
        ·intro w'
         go_simp
         with_reducible rfl
        rotate_left
        ·simp only [Act.put, ac_]
         rfl
        refine pure_ (i := 15) (N := some 26) (v := ?_) (a' := ?_) (bm 16 65535) rfl rfl (any_of HT_.out (by kernel_rfl)) (fun _ _ _ h => h) (Or.inl ⟨by rfl, ?_⟩) ?_ ?_
        rotate_left
        ·intro w'
         go_simp
         with_reducible rfl
        rotate_left
        ·simp only [Act.put, ac_]
         rfl
        refine done_ (done_of HT_.out (by kernel_rfl)) ?_
        have hcz34_0 : w33.cell? ⟨gb101, 0, none⟩ = some (.string a0_0) := (blk_cell BK101.out 0).trans rfl
        have hcz34_1 : w33.cell? ⟨gb101, 1, none⟩ = some (.string a0_1) := (blk_cell BK101.out 1).trans rfl
        have hcz34_2 : w33.cell? ⟨gb101, 2, none⟩ = some (.int .i64 a0_2) := (blk_cell BK101.out 2).trans rfl
        have hfz34_0 := blk_frozen BK101.out 0
        have hfz34_1 := blk_frozen BK101.out 1
        have hfz34_2 := blk_frozen BK101.out 2
        have hcz35_0 : w33.cell? ⟨gb108, 0, none⟩ = some (.int .i64 t102) := (blk_cell BK108.out 0).trans rfl
        have hcz35_1 : w33.cell? ⟨gb108, 1, none⟩ = some (.int .i64 t103) := (blk_cell BK108.out 1).trans rfl
        have hcz35_2 : w33.cell? ⟨gb108, 2, none⟩ = some (.slice Ao30 t104.length co30) := (blk_cell BK108.out 2).trans rfl
        have hfz35_0 := blk_frozen BK108.out 0
        have hfz35_1 := blk_frozen BK108.out 1
        have hfz35_2 := blk_frozen BK108.out 2
        try go_wp2_with (first | ((with_reducible refine gate_callee (f := 52) rfl ?_); refine goesL_ (some 33) rfl rfl Tryz.func52 (by kernel_rfl) rfl #[.int .i64 a0_2, .int .i64 0, .int .i64 (wrap64 ((t104.length : Int) - 1))] rfl aq3 ?_; (with_reducible refine (spec_l1In.calls a0_2 0 (wrap64 ((t104.length : Int) - 1)) true _ A20.out).mono ?_); rintro e w' ⟨rfl, ⟨nd, rfl⟩⟩; refine ⟨_, rfl, ?_⟩; have p112 : 0 ≤ (a0_2 : Int) := of_decide_eq_true aq5; have q112 : a0_2 < (t104.length : Int) := of_decide_eq_true aq5; obtain ⟨ad112, e112, hx112_0⟩ := Kd.at_int (Kd.R_reads' HO106.out).2.2 a0_2 p112 q112; cases e112; replace p112 := eq_true p112; replace q112 := eq_true q112))
        go_ret
        exact ⟨aq7, aq14⟩
       ·rw [if_neg c23] at H
        exact absurd H (by simp)
      ·rw [if_neg c22] at H
       exact absurd H (by simp)
     ·replace c21 := Bool.eq_false_iff.mpr c21
      subst c21
      have H1 : (some false) = some r := by rw [if_neg (show ¬ (false = true) by decide)] at H; exact H
      clear H
      have H := H1
      clear H1
      obtain rfl := Option.some.inj H
      go_enter Tryz.func83, Tryz.ntmps83
      try go_wp2_with (first | ((with_reducible refine gate_dst (N := 1) rfl ?_); refine box_event ?hg (N := 1) ?hd (cs := #[.string a0_0, .string a0_1, .int .i64 a0_2]) (t := 56) ?hr ?_; (case hd => rfl); (case hg => rfl); (case hr => exact aq9); intro gb101 hg w36 hbox hb; have n0_ := am (below_step aq1 hb); have n1_ := am (hbox); have n2_ := am ((by rw [hg]; exact (below_size aq1) : w.heap.size ≤ gb101)); have n3_ := am ((by rw [hg]; exact (below_size aq1) : w.heap.size ≤ gb101)); clear HB; have HB := n0_; have BK101 := n1_; have GW101 := n2_; have GE101 := n3_; clear n0_ n1_ n2_ n3_; clear hb hbox hg; have hcz37_0 : w36.cell? ⟨gb101, 0, none⟩ = some (.string a0_0) := (blk_cell BK101.out 0).trans rfl; have hcz37_1 : w36.cell? ⟨gb101, 1, none⟩ = some (.string a0_1) := (blk_cell BK101.out 1).trans rfl; have hcz37_2 : w36.cell? ⟨gb101, 2, none⟩ = some (.int .i64 a0_2) := (blk_cell BK101.out 2).trans rfl; have hfz37_0 := blk_frozen BK101.out 0; have hfz37_1 := blk_frozen BK101.out 1; have hfz37_2 := blk_frozen BK101.out 2) | ((with_reducible refine gate_callee (f := 51) rfl ?_); refine goesL_ (some 8) rfl rfl Tryz.func51 (by kernel_rfl) rfl #[.string a0_0] rfl aq3 ?_; (with_reducible refine (spec_tyRead.calls k a0_0 t102 t103 t104 true _ A2.out).mono ?_); rintro e w38 ⟨v105, rfl, ho0, hb⟩; refine ⟨_, rfl, ?_⟩; have n0_ := am (Kd.R_lower ho0 (below_size aq0)); have n1_ := am (blk_below (g := gb101) (o := .cells #[.string a0_0, .string a0_1, .int .i64 a0_2] 56 (0, 0)) aq2 hb); have n2_ := am (below_step aq0 hb); clear BK101; clear HB; have HO106 := n0_; have BK101 := n1_; have HB := n2_; clear n0_ n1_ n2_; (try clear hb); (try clear hb2); (try clear hk); (try clear hi); (try clear ho0)) | ((with_reducible refine gate_dst (N := 3) rfl ?_); refine box_event ?hg (N := 3) ?hd (cs := #[.int .i64 0, .int .i64 0, .slice none 0 0]) (t := 62) ?hr ?_; (case hd => rfl); (case hg => rfl); (case hr => exact aq9); intro gb108 hg w39 hbox hb; have n0_ := am (Kd.R_below aq20 hb); have n1_ := am (blk_below (g := gb101) (o := .cells #[.string a0_0, .string a0_1, .int .i64 a0_2] 56 (0, 0)) aq2 hb); have n2_ := am (below_step aq0 hb); have n3_ := am (hbox); have n4_ := am ((by rw [hg]; exact (below_size aq0) : w.heap.size ≤ gb108)); have n5_ := am ((by rw [hg]; exact (below_size aq0) : w.heap.size ≤ gb108)); have n6_ := am ((by rw [hg]; exact Nat.ne_of_lt (blk_lt (g := gb101) (o := .cells #[.string a0_0, .string a0_1, .int .i64 a0_2] 56 (0, 0)) aq2) : gb101 ≠ gb108)); have n7_ := am ((by rw [hg]; exact Nat.ne_of_gt (blk_lt (g := gb101) (o := .cells #[.string a0_0, .string a0_1, .int .i64 a0_2] 56 (0, 0)) aq2) : gb108 ≠ gb101)); clear HO106; clear BK101; clear HB; have HO106 := n0_; have BK101 := n1_; have HB := n2_; have BK108 := n3_; have GW108 := n4_; have GE108 := n5_; have NB101_108 := n6_; have NB108_101 := n7_; clear n0_ n1_ n2_ n3_ n4_ n5_ n6_ n7_; clear hb hbox hg; have hnb40 := NB108_101.out; have hnc40 := NB101_108.out; have hcz41_0 : w39.cell? ⟨gb108, 0, none⟩ = some (.int .i64 0) := (blk_cell BK108.out 0).trans rfl; have hcz41_1 : w39.cell? ⟨gb108, 1, none⟩ = some (.int .i64 0) := (blk_cell BK108.out 1).trans rfl; have hcz41_2 : w39.cell? ⟨gb108, 2, none⟩ = some (.slice none 0 0) := (blk_cell BK108.out 2).trans rfl; have hfz41_0 := blk_frozen BK108.out 0; have hfz41_1 := blk_frozen BK108.out 1; have hfz41_2 := blk_frozen BK108.out 2; obtain ⟨Ao42, co42, eo42⟩ := Kd.R_slice HO106.out; subst eo42))
      have n0_ : Aside0 (Kd.R (Kd.int .u8) 5 (((w39.setCell ⟨gb108, 0, none⟩ (.int .i64 t102)).setCell ⟨gb108, 1, none⟩ (.int .i64 t103)).setCell ⟨gb108, 2, none⟩ (.slice Ao42 t104.length co42)) w.heap.size (fun _ => True) (.slice Ao42 t104.length co42) t104) := ⟨by (with_reducible repeat (first | apply Kd.R_alloc | apply Kd.R_drewN | apply Kd.R_drew)); exact Kd.R_mono (Kd.R_far (p := ⟨gb108, 2, none⟩) (Kd.R_far (p := ⟨gb108, 1, none⟩) (Kd.R_far (p := ⟨gb108, 0, none⟩) (Kd.R_types HO106.out BK108.out (by decide)) (fun _ hk => hk.2) (.int .i64 t102)) (fun _ hk => hk.2) (.int .i64 t103)) (fun _ hk => hk.2) (.slice Ao42 t104.length co42)) (fun _ hk => trivial)⟩
      have n1_ : Aside0 ((((w39.setCell ⟨gb108, 0, none⟩ (.int .i64 t102)).setCell ⟨gb108, 1, none⟩ (.int .i64 t103)).setCell ⟨gb108, 2, none⟩ (.slice Ao42 t104.length co42)).heap[gb101]? = some (.cells #[.string a0_0, .string a0_1, .int .i64 a0_2] 56 (0, 0))) := ⟨aq32⟩
      have n2_ : Aside0 ((((w39.setCell ⟨gb108, 0, none⟩ (.int .i64 t102)).setCell ⟨gb108, 1, none⟩ (.int .i64 t103)).setCell ⟨gb108, 2, none⟩ (.slice Ao42 t104.length co42)).heap[gb108]? = some (.cells #[.int .i64 t102, .int .i64 t103, .slice Ao42 t104.length co42] 62 (0, 0))) := ⟨aq11⟩
      have n3_ : Aside0 (Below w.heap.size w (((w39.setCell ⟨gb108, 0, none⟩ (.int .i64 t102)).setCell ⟨gb108, 1, none⟩ (.int .i64 t103)).setCell ⟨gb108, 2, none⟩ (.slice Ao42 t104.length co42))) := ⟨aq14⟩
      (try clear HO106)
      (try clear BK101)
      (try clear BK108)
      (try clear HB)
      generalize (((w39.setCell ⟨gb108, 0, none⟩ (.int .i64 t102)).setCell ⟨gb108, 1, none⟩ (.int .i64 t103)).setCell ⟨gb108, 2, none⟩ (.slice Ao42 t104.length co42)) = w43 at n0_ n1_ n2_ n3_ ⊢
      have HO106 := n0_
      have BK101 := n1_
      have BK108 := n2_
      have HB := n3_
      clear n0_ n1_ n2_ n3_
      have n0_ := am (Kd.R_drew HO106.out)
      have n1_ := am (blk_drew BK101.out)
      have n2_ := am (blk_drew BK108.out)
      have n3_ := am (below_drew1 HB.out)
      clear HO106
      clear BK101
      clear BK108
      clear HB
      have HO106 := n0_
      have BK101 := n1_
      have BK108 := n2_
      have HB := n3_
      clear n0_ n1_ n2_ n3_
      refine start_ (n := 16) (S := fun w' => w'.cell? ⟨gb101, 0, none⟩ = some (.string a0_0) ∧ w'.cell? ⟨gb101, 1, none⟩ = some (.string a0_1) ∧ w'.cell? ⟨gb101, 2, none⟩ = some (.int .i64 a0_2) ∧ w'.cell? ⟨gb108, 0, none⟩ = some (.int .i64 t102) ∧ w'.cell? ⟨gb108, 1, none⟩ = some (.int .i64 t103) ∧ w'.cell? ⟨gb108, 2, none⟩ = some (.slice Ao42 t104.length co42)) (ds := []) #[false, false, false, false, false, false, false, false, false, false, false, false, false, false, false, false] (by kernel_rfl) rfl rfl ⟨(blk_cell BK101.out 0).trans rfl, (blk_cell BK101.out 1).trans rfl, (blk_cell BK101.out 2).trans rfl, (blk_cell BK108.out 0).trans rfl, (blk_cell BK108.out 1).trans rfl, (blk_cell BK108.out 2).trans rfl⟩ (fun hHeld => ?_); refine with_tabW spec_puGood.tab2 spec_puGood.bits2 (fun HT_ HW_ => ?_)
      generalize w43.drew = w44 at HO106 BK101 BK108 HB hHeld ⊢
      refine pure_ (i := 0) (N := some 11) (v := ?_) (a' := ?_) (bm 16 1) rfl rfl (any_of HT_.out (by kernel_rfl)) (fun _ _ _ h => h) (Or.inl ⟨by rfl, ?_⟩) ?_ ?_
      rotate_left
      ·intro w'
       go_simp
       with_reducible rfl
      rotate_left
      ·simp only [Act.put, ac_]
       rfl
      refine pure_ (i := 1) (N := some 12) (v := ?_) (a' := ?_) (bm 16 3) rfl rfl (any_of HT_.out (by kernel_rfl)) (fun _ _ _ h => h) (Or.inl ⟨by rfl, ?_⟩) ?_ ?_
      rotate_left
      ·intro w'
       go_simp
       with_reducible rfl
      rotate_left
      ·simp only [Act.put, ac_]
       rfl
      refine pure_ (i := 2) (N := some 13) (v := ?_) (a' := ?_) (bm 16 7) rfl rfl (any_of HT_.out (by kernel_rfl)) (fun _ _ _ h => h) (Or.inl ⟨by rfl, ?_⟩) ?_ ?_
      rotate_left
      ·intro w'
       go_simp
       with_reducible rfl
      rotate_left
      ·simp only [Act.put, ac_]
       rfl
      refine pure_ (i := 3) (N := some 14) (v := ?_) (a' := ?_) (bm 16 15) rfl rfl (any_of HT_.out (by kernel_rfl)) (fun _ _ _ h => h) (Or.inl ⟨by rfl, ?_⟩) ?_ ?_
      rotate_left
      ·intro w'
       go_simp
       with_reducible rfl
      rotate_left
      ·simp only [Act.put, ac_]
       rfl
      refine take_ (i := 4) (N := some 15) (v := ?_) (a' := ?_) (bm 16 31) rfl rfl (take_ofW HT_.out HW_.out (by kernel_rfl)) (fun _ _ _ h => h) (Or.inl ⟨by rfl, ?_⟩) hHeld ?_ ?_
      rotate_left
      ·rintro w' ⟨s0, s1, s2, s3, s4, s5⟩
       go_simp
       with_reducible rfl
      rotate_left
      ·simp only [Act.put, ac_]
       rfl
      refine one_ (i := 5) (N := some 16) (bm 16 63) rfl rfl (one_of HT_.out (by kernel_rfl)) (by decide) (fun K hK => ?_)
      refine goes_ Tryz.func122 (by kernel_rfl) rfl #[.string a0_1] (by rfl) rfl rfl aq3 ?_
      with_reducible refine (spec_reName.calls a0_1 true _ A4.out).mono ?_
      rintro e w' ⟨rfl, ⟨nd, rfl⟩⟩
      refine ⟨_, rfl, ?_⟩
      have p7 : 0 ≤ (0 : Int) := (by omega)
      have q7 : 0 < a0_1.size := (by have : (0 : Int) < (a0_1.size : Int) := of_decide_eq_true aq5; omega)
      have hx7 : ∀ h : 0 < a0_1.size, ((a0_1[0]'h).toNat : Int) = bt a0_1 0 := bt_at a0_1 0
      clear p7
      have qi7 : (0 < (a0_1.size : Int)) = True := eq_true (of_decide_eq_true aq5)
      replace q7 := eq_true q7
      refine hK.out _ _ ⟨(blk_cell BK101.out 0).trans rfl, (blk_cell BK101.out 1).trans rfl, (blk_cell BK101.out 2).trans rfl, (blk_cell BK108.out 0).trans rfl, (blk_cell BK108.out 1).trans rfl, (blk_cell BK108.out 2).trans rfl⟩ (fun hHeld => ?_)
      clear hK K
      refine norm_ (a' := ?_) ?_ ?_
      rotate_left
      ·show Act.put _ (some 16) _ = _
       simp only [Act.put, ac_]
       rfl
      refine pure_ (i := 6) (N := some 17) (v := ?_) (a' := ?_) (bm 16 127) rfl rfl (any_of HT_.out (by kernel_rfl)) (fun _ _ _ h => h) (Or.inl ⟨by rfl, ?_⟩) ?_ ?_
      rotate_left
      ·intro w'
       go_simp
       with_reducible rfl
      rotate_left
      ·simp only [Act.put, ac_]
       rfl
      refine pure_ (i := 7) (N := some 18) (v := ?_) (a' := ?_) (bm 16 255) rfl rfl (any_of HT_.out (by kernel_rfl)) (fun _ _ _ h => h) (Or.inl ⟨by rfl, ?_⟩) ?_ ?_
      rotate_left
      ·intro w'
       go_simp
       with_reducible rfl
      rotate_left
      ·simp only [Act.put, ac_]
       rfl
      refine pure_ (i := 8) (N := some 19) (v := ?_) (a' := ?_) (bm 16 511) rfl rfl (any_of HT_.out (by kernel_rfl)) (fun _ _ _ h => h) (Or.inl ⟨by rfl, ?_⟩) ?_ ?_
      rotate_left
      ·intro w'
       go_simp
       with_reducible rfl
      rotate_left
      ·simp only [Act.put, ac_]
       rfl
      refine pure_ (i := 10) (N := some 21) (v := ?_) (a' := ?_) (bm 16 1535) rfl rfl (any_of HT_.out (by kernel_rfl)) (fun _ _ _ h => h) (Or.inl ⟨by rfl, ?_⟩) ?_ ?_
      rotate_left
      ·intro w'
       go_simp
       with_reducible rfl
      rotate_left
      ·simp only [Act.put, ac_]
       rfl
      refine take_ (i := 9) (N := some 20) (v := ?_) (a' := ?_) (bm 16 2047) rfl rfl (take_ofW HT_.out HW_.out (by kernel_rfl)) (fun _ _ _ h => h) (Or.inl ⟨by rfl, ?_⟩) hHeld ?_ ?_
      rotate_left
      ·rintro w' ⟨s0, s1, s2, s3, s4, s5⟩
       go_simp
       with_reducible rfl
      rotate_left
      ·simp only [Act.put, ac_]
       rfl
      refine take_ (i := 11) (N := some 22) (v := ?_) (a' := ?_) (bm 16 4095) rfl rfl (take_ofW HT_.out HW_.out (by kernel_rfl)) (fun _ _ _ h => h) (Or.inl ⟨by rfl, ?_⟩) hHeld ?_ ?_
      rotate_left
      ·rintro w' ⟨s0, s1, s2, s3, s4, s5⟩
       go_simp
       with_reducible rfl
      rotate_left
      ·simp only [Act.put, ac_]
       rfl
      refine take_ (i := 12) (N := some 23) (v := ?_) (a' := ?_) (bm 16 8191) rfl rfl (take_ofW HT_.out HW_.out (by kernel_rfl)) (fun _ _ _ h => h) (Or.inl ⟨by rfl, ?_⟩) hHeld ?_ ?_
      rotate_left
      ·rintro w' ⟨s0, s1, s2, s3, s4, s5⟩
       go_simp
       with_reducible rfl
      rotate_left
      ·simp only [Act.put, ac_]
       rfl
      refine one_ (i := 13) (N := some 24) (bm 16 16383) rfl rfl (one_of HT_.out (by kernel_rfl)) (by decide) (fun K hK => ?_)
      refine goes_ Tryz.func123 (by kernel_rfl) rfl #[.agg #[.int .i64 t102, .int .i64 t103, .slice Ao42 t104.length co42], .int .u8 (bt a0_1 0)] (by rfl) rfl rfl aq3 ?_
      with_reducible refine (spec_tiPlace.calls k t102 t103 _ _ t104 (bt a0_1 0) t110 _ ?side1 ?side2 A8.out).mono ?_
      (case side1 => exact aq29)
      (case side2 => exact (Kd.R_reads' HO106.out).2.1)
      rintro e w45 ⟨rfl, hb⟩
      refine ⟨_, rfl, ?_⟩
      have n0_ := am (Kd.R_below aq20 hb)
      have n1_ := am (blk_below (g := gb101) (o := .cells #[.string a0_0, .string a0_1, .int .i64 a0_2] 56 (0, 0)) aq2 hb)
      have n2_ := am (blk_below (g := gb108) (o := .cells #[.int .i64 t102, .int .i64 t103, .slice Ao42 t104.length co42] 62 (0, 0)) aq51 hb)
      have n3_ := am (below_step aq14 hb)
      clear HO106
      clear BK101
      clear BK108
      clear HB
      have HO106 := n0_
      have BK101 := n1_
      have BK108 := n2_
      have HB := n3_
      clear n0_ n1_ n2_ n3_
      (try clear hb)
      (try clear hb2)
      (try clear hk)
      (try clear hi)
      refine hK.out _ _ ⟨(blk_cell BK101.out 0).trans rfl, (blk_cell BK101.out 1).trans rfl, (blk_cell BK101.out 2).trans rfl, (blk_cell BK108.out 0).trans rfl, (blk_cell BK108.out 1).trans rfl, (blk_cell BK108.out 2).trans rfl⟩ (fun hHeld => ?_)
      clear hK K
      refine norm_ (a' := ?_) ?_ ?_
      rotate_left
      ·show Act.put _ (some 24) _ = _
       simp only [Act.put, ac_]
       rfl
      refine pure_ (i := 14) (N := some 25) (v := ?_) (a' := ?_) (bm 16 32767) rfl rfl (any_of HT_.out (by kernel_rfl)) (fun _ _ _ h => h) (Or.inl ⟨by rfl, ?_⟩) ?_ ?_
      rotate_left
      ·intro w'
       go_simp
       with_reducible rfl
      rotate_left
      ·simp only [Act.put, ac_]
       rfl
      refine pure_ (i := 15) (N := some 26) (v := ?_) (a' := ?_) (bm 16 65535) rfl rfl (any_of HT_.out (by kernel_rfl)) (fun _ _ _ h => h) (Or.inl ⟨by rfl, ?_⟩) ?_ ?_
      rotate_left
      ·intro w'
       go_simp
       with_reducible rfl
      rotate_left
      ·simp only [Act.put, ac_]
       rfl
      refine done_ (done_of HT_.out (by kernel_rfl)) ?_
      have hcz46_0 : w45.cell? ⟨gb101, 0, none⟩ = some (.string a0_0) := (blk_cell BK101.out 0).trans rfl
      have hcz46_1 : w45.cell? ⟨gb101, 1, none⟩ = some (.string a0_1) := (blk_cell BK101.out 1).trans rfl
      have hcz46_2 : w45.cell? ⟨gb101, 2, none⟩ = some (.int .i64 a0_2) := (blk_cell BK101.out 2).trans rfl
      have hfz46_0 := blk_frozen BK101.out 0
      have hfz46_1 := blk_frozen BK101.out 1
      have hfz46_2 := blk_frozen BK101.out 2
      have hcz47_0 : w45.cell? ⟨gb108, 0, none⟩ = some (.int .i64 t102) := (blk_cell BK108.out 0).trans rfl
      have hcz47_1 : w45.cell? ⟨gb108, 1, none⟩ = some (.int .i64 t103) := (blk_cell BK108.out 1).trans rfl
      have hcz47_2 : w45.cell? ⟨gb108, 2, none⟩ = some (.slice Ao42 t104.length co42) := (blk_cell BK108.out 2).trans rfl
      have hfz47_0 := blk_frozen BK108.out 0
      have hfz47_1 := blk_frozen BK108.out 1
      have hfz47_2 := blk_frozen BK108.out 2
      try go_wp2_with (first | ((with_reducible refine gate_callee (f := 52) rfl ?_); refine goesL_ (some 33) rfl rfl Tryz.func52 (by kernel_rfl) rfl #[.int .i64 a0_2, .int .i64 0, .int .i64 (wrap64 ((t104.length : Int) - 1))] rfl aq3 ?_; (with_reducible refine (spec_l1In.calls a0_2 0 (wrap64 ((t104.length : Int) - 1)) false _ A20.out).mono ?_); rintro e w' ⟨rfl, ⟨nd, rfl⟩⟩; refine ⟨_, rfl, ?_⟩))
      go_ret
      exact ⟨aq7, aq14⟩
   ·rw [if_neg c6] at H
    exact absurd H (by simp)
  ·replace c5 := Bool.eq_false_iff.mpr c5
   subst c5
   have H1 : (some false) = some r := by rw [if_neg (show ¬ (false = true) by decide)] at H; exact H
   clear H
   have H := H1
   clear H1
   obtain rfl := Option.some.inj H
   go_enter Tryz.func83, Tryz.ntmps83
   try go_wp2_with (first | ((with_reducible refine gate_dst (N := 1) rfl ?_); refine box_event ?hg (N := 1) ?hd (cs := #[.string a0_0, .string a0_1, .int .i64 a0_2]) (t := 56) ?hr ?_; (case hd => rfl); (case hg => rfl); (case hr => exact aq9); intro gb101 hg w48 hbox hb; have n0_ := am (below_step aq1 hb); have n1_ := am (hbox); have n2_ := am ((by rw [hg]; exact (below_size aq1) : w.heap.size ≤ gb101)); have n3_ := am ((by rw [hg]; exact (below_size aq1) : w.heap.size ≤ gb101)); clear HB; have HB := n0_; have BK101 := n1_; have GW101 := n2_; have GE101 := n3_; clear n0_ n1_ n2_ n3_; clear hb hbox hg; have hcz49_0 : w48.cell? ⟨gb101, 0, none⟩ = some (.string a0_0) := (blk_cell BK101.out 0).trans rfl; have hcz49_1 : w48.cell? ⟨gb101, 1, none⟩ = some (.string a0_1) := (blk_cell BK101.out 1).trans rfl; have hcz49_2 : w48.cell? ⟨gb101, 2, none⟩ = some (.int .i64 a0_2) := (blk_cell BK101.out 2).trans rfl; have hfz49_0 := blk_frozen BK101.out 0; have hfz49_1 := blk_frozen BK101.out 1; have hfz49_2 := blk_frozen BK101.out 2) | ((with_reducible refine gate_callee (f := 51) rfl ?_); refine goesL_ (some 8) rfl rfl Tryz.func51 (by kernel_rfl) rfl #[.string a0_0] rfl aq3 ?_; (with_reducible refine (spec_tyRead.calls k a0_0 t102 t103 t104 true _ A2.out).mono ?_); rintro e w50 ⟨v105, rfl, ho0, hb⟩; refine ⟨_, rfl, ?_⟩; have n0_ := am (Kd.R_lower ho0 (below_size aq0)); have n1_ := am (blk_below (g := gb101) (o := .cells #[.string a0_0, .string a0_1, .int .i64 a0_2] 56 (0, 0)) aq2 hb); have n2_ := am (below_step aq0 hb); clear BK101; clear HB; have HO106 := n0_; have BK101 := n1_; have HB := n2_; clear n0_ n1_ n2_; (try clear hb); (try clear hb2); (try clear hk); (try clear hi); (try clear ho0)) | ((with_reducible refine gate_dst (N := 3) rfl ?_); refine box_event ?hg (N := 3) ?hd (cs := #[.int .i64 0, .int .i64 0, .slice none 0 0]) (t := 62) ?hr ?_; (case hd => rfl); (case hg => rfl); (case hr => exact aq9); intro gb108 hg w51 hbox hb; have n0_ := am (Kd.R_below aq20 hb); have n1_ := am (blk_below (g := gb101) (o := .cells #[.string a0_0, .string a0_1, .int .i64 a0_2] 56 (0, 0)) aq2 hb); have n2_ := am (below_step aq0 hb); have n3_ := am (hbox); have n4_ := am ((by rw [hg]; exact (below_size aq0) : w.heap.size ≤ gb108)); have n5_ := am ((by rw [hg]; exact (below_size aq0) : w.heap.size ≤ gb108)); have n6_ := am ((by rw [hg]; exact Nat.ne_of_lt (blk_lt (g := gb101) (o := .cells #[.string a0_0, .string a0_1, .int .i64 a0_2] 56 (0, 0)) aq2) : gb101 ≠ gb108)); have n7_ := am ((by rw [hg]; exact Nat.ne_of_gt (blk_lt (g := gb101) (o := .cells #[.string a0_0, .string a0_1, .int .i64 a0_2] 56 (0, 0)) aq2) : gb108 ≠ gb101)); clear HO106; clear BK101; clear HB; have HO106 := n0_; have BK101 := n1_; have HB := n2_; have BK108 := n3_; have GW108 := n4_; have GE108 := n5_; have NB101_108 := n6_; have NB108_101 := n7_; clear n0_ n1_ n2_ n3_ n4_ n5_ n6_ n7_; clear hb hbox hg; have hnb52 := NB108_101.out; have hnc52 := NB101_108.out; have hcz53_0 : w51.cell? ⟨gb108, 0, none⟩ = some (.int .i64 0) := (blk_cell BK108.out 0).trans rfl; have hcz53_1 : w51.cell? ⟨gb108, 1, none⟩ = some (.int .i64 0) := (blk_cell BK108.out 1).trans rfl; have hcz53_2 : w51.cell? ⟨gb108, 2, none⟩ = some (.slice none 0 0) := (blk_cell BK108.out 2).trans rfl; have hfz53_0 := blk_frozen BK108.out 0; have hfz53_1 := blk_frozen BK108.out 1; have hfz53_2 := blk_frozen BK108.out 2; obtain ⟨Ao54, co54, eo54⟩ := Kd.R_slice HO106.out; subst eo54))
   have n0_ : Aside0 (Kd.R (Kd.int .u8) 5 (((w51.setCell ⟨gb108, 0, none⟩ (.int .i64 t102)).setCell ⟨gb108, 1, none⟩ (.int .i64 t103)).setCell ⟨gb108, 2, none⟩ (.slice Ao54 t104.length co54)) w.heap.size (fun _ => True) (.slice Ao54 t104.length co54) t104) := ⟨by (with_reducible repeat (first | apply Kd.R_alloc | apply Kd.R_drewN | apply Kd.R_drew)); exact Kd.R_mono (Kd.R_far (p := ⟨gb108, 2, none⟩) (Kd.R_far (p := ⟨gb108, 1, none⟩) (Kd.R_far (p := ⟨gb108, 0, none⟩) (Kd.R_types HO106.out BK108.out (by decide)) (fun _ hk => hk.2) (.int .i64 t102)) (fun _ hk => hk.2) (.int .i64 t103)) (fun _ hk => hk.2) (.slice Ao54 t104.length co54)) (fun _ hk => trivial)⟩
   have n1_ : Aside0 ((((w51.setCell ⟨gb108, 0, none⟩ (.int .i64 t102)).setCell ⟨gb108, 1, none⟩ (.int .i64 t103)).setCell ⟨gb108, 2, none⟩ (.slice Ao54 t104.length co54)).heap[gb101]? = some (.cells #[.string a0_0, .string a0_1, .int .i64 a0_2] 56 (0, 0))) := ⟨aq32⟩
   have n2_ : Aside0 ((((w51.setCell ⟨gb108, 0, none⟩ (.int .i64 t102)).setCell ⟨gb108, 1, none⟩ (.int .i64 t103)).setCell ⟨gb108, 2, none⟩ (.slice Ao54 t104.length co54)).heap[gb108]? = some (.cells #[.int .i64 t102, .int .i64 t103, .slice Ao54 t104.length co54] 62 (0, 0))) := ⟨aq11⟩
   have n3_ : Aside0 (Below w.heap.size w (((w51.setCell ⟨gb108, 0, none⟩ (.int .i64 t102)).setCell ⟨gb108, 1, none⟩ (.int .i64 t103)).setCell ⟨gb108, 2, none⟩ (.slice Ao54 t104.length co54))) := ⟨aq14⟩
   (try clear HO106)
   (try clear BK101)
   (try clear BK108)
   (try clear HB)
   generalize (((w51.setCell ⟨gb108, 0, none⟩ (.int .i64 t102)).setCell ⟨gb108, 1, none⟩ (.int .i64 t103)).setCell ⟨gb108, 2, none⟩ (.slice Ao54 t104.length co54)) = w55 at n0_ n1_ n2_ n3_ ⊢
   have HO106 := n0_
   have BK101 := n1_
   have BK108 := n2_
   have HB := n3_
   clear n0_ n1_ n2_ n3_
   have n0_ := am (Kd.R_drew HO106.out)
   have n1_ := am (blk_drew BK101.out)
   have n2_ := am (blk_drew BK108.out)
   have n3_ := am (below_drew1 HB.out)
   clear HO106
   clear BK101
   clear BK108
   clear HB
   have HO106 := n0_
   have BK101 := n1_
   have BK108 := n2_
   have HB := n3_
   clear n0_ n1_ n2_ n3_
   refine start_ (n := 16) (S := fun w' => w'.cell? ⟨gb101, 0, none⟩ = some (.string a0_0) ∧ w'.cell? ⟨gb101, 1, none⟩ = some (.string a0_1) ∧ w'.cell? ⟨gb101, 2, none⟩ = some (.int .i64 a0_2)) (ds := []) #[false, false, false, false, false, false, false, false, false, false, false, false, false, false, false, false] (by kernel_rfl) rfl rfl ⟨(blk_cell BK101.out 0).trans rfl, (blk_cell BK101.out 1).trans rfl, (blk_cell BK101.out 2).trans rfl⟩ (fun hHeld => ?_); refine with_tabW spec_puGood.tab2 spec_puGood.bits2 (fun HT_ HW_ => ?_)
   generalize w55.drew = w56 at HO106 BK101 BK108 HB hHeld ⊢
   refine pure_ (i := 0) (N := some 11) (v := ?_) (a' := ?_) (bm 16 1) rfl rfl (any_of HT_.out (by kernel_rfl)) (fun _ _ _ h => h) (Or.inl ⟨by rfl, ?_⟩) ?_ ?_
   rotate_left
   ·intro w'
    go_simp
    with_reducible rfl
   rotate_left
   ·simp only [Act.put, ac_]
    rfl
   refine pure_ (i := 1) (N := some 12) (v := ?_) (a' := ?_) (bm 16 3) rfl rfl (any_of HT_.out (by kernel_rfl)) (fun _ _ _ h => h) (Or.inl ⟨by rfl, ?_⟩) ?_ ?_
   rotate_left
   ·intro w'
    go_simp
    with_reducible rfl
   rotate_left
   ·simp only [Act.put, ac_]
    rfl
   refine pure_ (i := 2) (N := some 13) (v := ?_) (a' := ?_) (bm 16 7) rfl rfl (any_of HT_.out (by kernel_rfl)) (fun _ _ _ h => h) (Or.inl ⟨by rfl, ?_⟩) ?_ ?_
   rotate_left
   ·intro w'
    go_simp
    with_reducible rfl
   rotate_left
   ·simp only [Act.put, ac_]
    rfl
   refine pure_ (i := 3) (N := some 14) (v := ?_) (a' := ?_) (bm 16 15) rfl rfl (any_of HT_.out (by kernel_rfl)) (fun _ _ _ h => h) (Or.inl ⟨by rfl, ?_⟩) ?_ ?_
   rotate_left
   ·intro w'
    go_simp
    with_reducible rfl
   rotate_left
   ·simp only [Act.put, ac_]
    rfl
   refine take_ (i := 4) (N := some 15) (v := ?_) (a' := ?_) (bm 16 31) rfl rfl (take_ofW HT_.out HW_.out (by kernel_rfl)) (fun _ _ _ h => h) (Or.inl ⟨by rfl, ?_⟩) hHeld ?_ ?_
   rotate_left
   ·rintro w' ⟨s0, s1, s2⟩
    go_simp
    with_reducible rfl
   rotate_left
   ·simp only [Act.put, ac_]
    rfl
   refine one_ (i := 5) (N := some 16) (bm 16 63) rfl rfl (one_of HT_.out (by kernel_rfl)) (by decide) (fun K hK => ?_)
   refine goes_ Tryz.func122 (by kernel_rfl) rfl #[.string a0_1] (by rfl) rfl rfl aq3 ?_
   with_reducible refine (spec_reName.calls a0_1 false _ A4.out).mono ?_
   rintro e w' ⟨rfl, ⟨nd, rfl⟩⟩
   refine ⟨_, rfl, ?_⟩
   refine hK.out _ _ ⟨(blk_cell BK101.out 0).trans rfl, (blk_cell BK101.out 1).trans rfl, (blk_cell BK101.out 2).trans rfl⟩ (fun hHeld => ?_)
   clear hK K
   refine norm_ (a' := ?_) ?_ ?_
   rotate_left
   ·show Act.put _ (some 16) _ = _
    simp only [Act.put, ac_]
    rfl
   refine pure_ (i := 6) (N := some 17) (v := ?_) (a' := ?_) (bm 16 127) rfl rfl (any_of HT_.out (by kernel_rfl)) (fun _ _ _ h => h) (Or.inl ⟨by rfl, ?_⟩) ?_ ?_
   rotate_left
   ·intro w'
    go_simp
    with_reducible rfl
   rotate_left
   ·simp only [Act.put, ac_]
    rfl
   refine pure_ (i := 7) (N := some 18) (v := ?_) (a' := ?_) (bm 16 255) rfl rfl (any_of HT_.out (by kernel_rfl)) (fun _ _ _ h => h) (Or.inl ⟨by rfl, ?_⟩) ?_ ?_
   rotate_left
   ·intro w'
    go_simp
    with_reducible rfl
   rotate_left
   ·simp only [Act.put, ac_]
    rfl
   refine pure_ (i := 8) (N := some 19) (v := ?_) (a' := ?_) (bm 16 511) rfl rfl (any_of HT_.out (by kernel_rfl)) (fun _ _ _ h => h) (Or.inl ⟨by rfl, ?_⟩) ?_ ?_
   rotate_left
   ·intro w'
    go_simp
    with_reducible rfl
   rotate_left
   ·simp only [Act.put, ac_]
    rfl
   refine pure_ (i := 9) (N := some 20) (v := undef) (a' := ?_) (bm 16 1023) rfl rfl (any_of HT_.out (by kernel_rfl)) (fun _ _ _ h => h) (Or.inr ⟨by rfl, rfl⟩) ?_ ?_
   rotate_left
   ·simp only [Act.put, ac_]
    rfl
   refine pure_ (i := 10) (N := some 21) (v := undef) (a' := ?_) (bm 16 2047) rfl rfl (any_of HT_.out (by kernel_rfl)) (fun _ _ _ h => h) (Or.inr ⟨by rfl, rfl⟩) ?_ ?_
   rotate_left
   ·simp only [Act.put, ac_]
    rfl
   refine pure_ (i := 11) (N := some 22) (v := undef) (a' := ?_) (bm 16 4095) rfl rfl (any_of HT_.out (by kernel_rfl)) (fun _ _ _ h => h) (Or.inr ⟨by rfl, rfl⟩) ?_ ?_
   rotate_left
   ·simp only [Act.put, ac_]
    rfl
   refine pure_ (i := 12) (N := some 23) (v := undef) (a' := ?_) (bm 16 8191) rfl rfl (any_of HT_.out (by kernel_rfl)) (fun _ _ _ h => h) (Or.inr ⟨by rfl, rfl⟩) ?_ ?_
   rotate_left
   ·simp only [Act.put, ac_]
    rfl
   refine pure_ (i := 13) (N := some 24) (v := undef) (a' := ?_) (bm 16 16383) rfl rfl (any_of HT_.out (by kernel_rfl)) (fun _ _ _ h => h) (Or.inr ⟨by rfl, rfl⟩) ?_ ?_
   rotate_left
   ·simp only [Act.put, ac_]
    rfl
   refine pure_ (i := 14) (N := some 25) (v := undef) (a' := ?_) (bm 16 32767) rfl rfl (any_of HT_.out (by kernel_rfl)) (fun _ _ _ h => h) (Or.inr ⟨by rfl, rfl⟩) ?_ ?_
   rotate_left
   ·simp only [Act.put, ac_]
    rfl
   refine pure_ (i := 15) (N := some 26) (v := ?_) (a' := ?_) (bm 16 65535) rfl rfl (any_of HT_.out (by kernel_rfl)) (fun _ _ _ h => h) (Or.inl ⟨by rfl, ?_⟩) ?_ ?_
   rotate_left
   ·intro w'
    go_simp
    with_reducible rfl
   rotate_left
   ·simp only [Act.put, ac_]
    rfl
   refine done_ (done_of HT_.out (by kernel_rfl)) ?_
   try go_wp2
   go_ret
   exact ⟨aq7, aq14⟩
 ·replace c3 := Bool.eq_false_iff.mpr c3
  subst c3
  have H1 : (some false) = some r := by rw [if_neg (show ¬ (false = true) by decide)] at H; exact H
  clear H
  have H := H1
  clear H1
  obtain rfl := Option.some.inj H
  go_enter Tryz.func83, Tryz.ntmps83
  try go_wp2_with (first | ((with_reducible refine gate_dst (N := 1) rfl ?_); refine box_event ?hg (N := 1) ?hd (cs := #[.string a0_0, .string a0_1, .int .i64 a0_2]) (t := 56) ?hr ?_; (case hd => rfl); (case hg => rfl); (case hr => exact aq9); intro gb101 hg w57 hbox hb; have n0_ := am (below_step aq1 hb); have n1_ := am (hbox); have n2_ := am ((by rw [hg]; exact (below_size aq1) : w.heap.size ≤ gb101)); have n3_ := am ((by rw [hg]; exact (below_size aq1) : w.heap.size ≤ gb101)); clear HB; have HB := n0_; have BK101 := n1_; have GW101 := n2_; have GE101 := n3_; clear n0_ n1_ n2_ n3_; clear hb hbox hg; have hcz58_0 : w57.cell? ⟨gb101, 0, none⟩ = some (.string a0_0) := (blk_cell BK101.out 0).trans rfl; have hcz58_1 : w57.cell? ⟨gb101, 1, none⟩ = some (.string a0_1) := (blk_cell BK101.out 1).trans rfl; have hcz58_2 : w57.cell? ⟨gb101, 2, none⟩ = some (.int .i64 a0_2) := (blk_cell BK101.out 2).trans rfl; have hfz58_0 := blk_frozen BK101.out 0; have hfz58_1 := blk_frozen BK101.out 1; have hfz58_2 := blk_frozen BK101.out 2) | ((with_reducible refine gate_callee (f := 51) rfl ?_); refine goesL_ (some 8) rfl rfl Tryz.func51 (by kernel_rfl) rfl #[.string a0_0] rfl aq3 ?_; (with_reducible refine (spec_tyRead.calls k a0_0 t102 t103 t104 false _ A2.out).mono ?_); rintro e w59 ⟨v105, rfl, ho0, hb⟩; refine ⟨_, rfl, ?_⟩; have n0_ := am (Kd.R_lower ho0 (below_size aq0)); have n1_ := am (blk_below (g := gb101) (o := .cells #[.string a0_0, .string a0_1, .int .i64 a0_2] 56 (0, 0)) aq2 hb); have n2_ := am (below_step aq0 hb); clear BK101; clear HB; have HO106 := n0_; have BK101 := n1_; have HB := n2_; clear n0_ n1_ n2_; (try clear hb); (try clear hb2); (try clear hk); (try clear hi); (try clear ho0)) | ((with_reducible refine gate_dst (N := 3) rfl ?_); refine box_event ?hg (N := 3) ?hd (cs := #[.int .i64 0, .int .i64 0, .slice none 0 0]) (t := 62) ?hr ?_; (case hd => rfl); (case hg => rfl); (case hr => exact aq9); intro gb108 hg w60 hbox hb; have n0_ := am (Kd.R_below aq20 hb); have n1_ := am (blk_below (g := gb101) (o := .cells #[.string a0_0, .string a0_1, .int .i64 a0_2] 56 (0, 0)) aq2 hb); have n2_ := am (below_step aq0 hb); have n3_ := am (hbox); have n4_ := am ((by rw [hg]; exact (below_size aq0) : w.heap.size ≤ gb108)); have n5_ := am ((by rw [hg]; exact (below_size aq0) : w.heap.size ≤ gb108)); have n6_ := am ((by rw [hg]; exact Nat.ne_of_lt (blk_lt (g := gb101) (o := .cells #[.string a0_0, .string a0_1, .int .i64 a0_2] 56 (0, 0)) aq2) : gb101 ≠ gb108)); have n7_ := am ((by rw [hg]; exact Nat.ne_of_gt (blk_lt (g := gb101) (o := .cells #[.string a0_0, .string a0_1, .int .i64 a0_2] 56 (0, 0)) aq2) : gb108 ≠ gb101)); clear HO106; clear BK101; clear HB; have HO106 := n0_; have BK101 := n1_; have HB := n2_; have BK108 := n3_; have GW108 := n4_; have GE108 := n5_; have NB101_108 := n6_; have NB108_101 := n7_; clear n0_ n1_ n2_ n3_ n4_ n5_ n6_ n7_; clear hb hbox hg; have hnb61 := NB108_101.out; have hnc61 := NB101_108.out; have hcz62_0 : w60.cell? ⟨gb108, 0, none⟩ = some (.int .i64 0) := (blk_cell BK108.out 0).trans rfl; have hcz62_1 : w60.cell? ⟨gb108, 1, none⟩ = some (.int .i64 0) := (blk_cell BK108.out 1).trans rfl; have hcz62_2 : w60.cell? ⟨gb108, 2, none⟩ = some (.slice none 0 0) := (blk_cell BK108.out 2).trans rfl; have hfz62_0 := blk_frozen BK108.out 0; have hfz62_1 := blk_frozen BK108.out 1; have hfz62_2 := blk_frozen BK108.out 2; obtain ⟨Ao63, co63, eo63⟩ := Kd.R_slice HO106.out; subst eo63))
  have n0_ : Aside0 (Kd.R (Kd.int .u8) 5 (((w60.setCell ⟨gb108, 0, none⟩ (.int .i64 t102)).setCell ⟨gb108, 1, none⟩ (.int .i64 t103)).setCell ⟨gb108, 2, none⟩ (.slice Ao63 t104.length co63)) w.heap.size (fun _ => True) (.slice Ao63 t104.length co63) t104) := ⟨by (with_reducible repeat (first | apply Kd.R_alloc | apply Kd.R_drewN | apply Kd.R_drew)); exact Kd.R_mono (Kd.R_far (p := ⟨gb108, 2, none⟩) (Kd.R_far (p := ⟨gb108, 1, none⟩) (Kd.R_far (p := ⟨gb108, 0, none⟩) (Kd.R_types HO106.out BK108.out (by decide)) (fun _ hk => hk.2) (.int .i64 t102)) (fun _ hk => hk.2) (.int .i64 t103)) (fun _ hk => hk.2) (.slice Ao63 t104.length co63)) (fun _ hk => trivial)⟩
  have n1_ : Aside0 ((((w60.setCell ⟨gb108, 0, none⟩ (.int .i64 t102)).setCell ⟨gb108, 1, none⟩ (.int .i64 t103)).setCell ⟨gb108, 2, none⟩ (.slice Ao63 t104.length co63)).heap[gb101]? = some (.cells #[.string a0_0, .string a0_1, .int .i64 a0_2] 56 (0, 0))) := ⟨aq32⟩
  have n2_ : Aside0 ((((w60.setCell ⟨gb108, 0, none⟩ (.int .i64 t102)).setCell ⟨gb108, 1, none⟩ (.int .i64 t103)).setCell ⟨gb108, 2, none⟩ (.slice Ao63 t104.length co63)).heap[gb108]? = some (.cells #[.int .i64 t102, .int .i64 t103, .slice Ao63 t104.length co63] 62 (0, 0))) := ⟨aq11⟩
  have n3_ : Aside0 (Below w.heap.size w (((w60.setCell ⟨gb108, 0, none⟩ (.int .i64 t102)).setCell ⟨gb108, 1, none⟩ (.int .i64 t103)).setCell ⟨gb108, 2, none⟩ (.slice Ao63 t104.length co63))) := ⟨aq14⟩
  (try clear HO106)
  (try clear BK101)
  (try clear BK108)
  (try clear HB)
  generalize (((w60.setCell ⟨gb108, 0, none⟩ (.int .i64 t102)).setCell ⟨gb108, 1, none⟩ (.int .i64 t103)).setCell ⟨gb108, 2, none⟩ (.slice Ao63 t104.length co63)) = w64 at n0_ n1_ n2_ n3_ ⊢
  have HO106 := n0_
  have BK101 := n1_
  have BK108 := n2_
  have HB := n3_
  clear n0_ n1_ n2_ n3_
  have n0_ := am (Kd.R_drew HO106.out)
  have n1_ := am (blk_drew BK101.out)
  have n2_ := am (blk_drew BK108.out)
  have n3_ := am (below_drew1 HB.out)
  clear HO106
  clear BK101
  clear BK108
  clear HB
  have HO106 := n0_
  have BK101 := n1_
  have BK108 := n2_
  have HB := n3_
  clear n0_ n1_ n2_ n3_
  refine start_ (n := 16) (S := fun w' => True) (ds := []) #[false, false, false, false, false, false, false, false, false, false, false, false, false, false, false, false] (by kernel_rfl) rfl rfl trivial (fun hHeld => ?_); refine with_tabW spec_puGood.tab2 spec_puGood.bits2 (fun HT_ HW_ => ?_)
  generalize w64.drew = w65 at HO106 BK101 BK108 HB hHeld ⊢
  refine pure_ (i := 0) (N := some 11) (v := ?_) (a' := ?_) (bm 16 1) rfl rfl (any_of HT_.out (by kernel_rfl)) (fun _ _ _ h => h) (Or.inl ⟨by rfl, ?_⟩) ?_ ?_
  rotate_left
  ·intro w'
   go_simp
   with_reducible rfl
  rotate_left
  ·simp only [Act.put, ac_]
   rfl
  refine pure_ (i := 1) (N := some 12) (v := ?_) (a' := ?_) (bm 16 3) rfl rfl (any_of HT_.out (by kernel_rfl)) (fun _ _ _ h => h) (Or.inl ⟨by rfl, ?_⟩) ?_ ?_
  rotate_left
  ·intro w'
   go_simp
   with_reducible rfl
  rotate_left
  ·simp only [Act.put, ac_]
   rfl
  refine pure_ (i := 2) (N := some 13) (v := ?_) (a' := ?_) (bm 16 7) rfl rfl (any_of HT_.out (by kernel_rfl)) (fun _ _ _ h => h) (Or.inl ⟨by rfl, ?_⟩) ?_ ?_
  rotate_left
  ·intro w'
   go_simp
   with_reducible rfl
  rotate_left
  ·simp only [Act.put, ac_]
   rfl
  refine pure_ (i := 3) (N := some 14) (v := undef) (a' := ?_) (bm 16 15) rfl rfl (any_of HT_.out (by kernel_rfl)) (fun _ _ _ h => h) (Or.inr ⟨by rfl, rfl⟩) ?_ ?_
  rotate_left
  ·simp only [Act.put, ac_]
   rfl
  refine pure_ (i := 4) (N := some 15) (v := undef) (a' := ?_) (bm 16 31) rfl rfl (any_of HT_.out (by kernel_rfl)) (fun _ _ _ h => h) (Or.inr ⟨by rfl, rfl⟩) ?_ ?_
  rotate_left
  ·simp only [Act.put, ac_]
   rfl
  refine pure_ (i := 5) (N := some 16) (v := undef) (a' := ?_) (bm 16 63) rfl rfl (any_of HT_.out (by kernel_rfl)) (fun _ _ _ h => h) (Or.inr ⟨by rfl, rfl⟩) ?_ ?_
  rotate_left
  ·simp only [Act.put, ac_]
   rfl
  refine pure_ (i := 6) (N := some 17) (v := undef) (a' := ?_) (bm 16 127) rfl rfl (any_of HT_.out (by kernel_rfl)) (fun _ _ _ h => h) (Or.inr ⟨by rfl, rfl⟩) ?_ ?_
  rotate_left
  ·simp only [Act.put, ac_]
   rfl
  refine pure_ (i := 7) (N := some 18) (v := ?_) (a' := ?_) (bm 16 255) rfl rfl (any_of HT_.out (by kernel_rfl)) (fun _ _ _ h => h) (Or.inl ⟨by rfl, ?_⟩) ?_ ?_
  rotate_left
  ·intro w'
   go_simp
   with_reducible rfl
  rotate_left
  ·simp only [Act.put, ac_]
   rfl
  refine pure_ (i := 8) (N := some 19) (v := ?_) (a' := ?_) (bm 16 511) rfl rfl (any_of HT_.out (by kernel_rfl)) (fun _ _ _ h => h) (Or.inl ⟨by rfl, ?_⟩) ?_ ?_
  rotate_left
  ·intro w'
   go_simp
   with_reducible rfl
  rotate_left
  ·simp only [Act.put, ac_]
   rfl
  refine pure_ (i := 9) (N := some 20) (v := undef) (a' := ?_) (bm 16 1023) rfl rfl (any_of HT_.out (by kernel_rfl)) (fun _ _ _ h => h) (Or.inr ⟨by rfl, rfl⟩) ?_ ?_
  rotate_left
  ·simp only [Act.put, ac_]
   rfl
  refine pure_ (i := 10) (N := some 21) (v := undef) (a' := ?_) (bm 16 2047) rfl rfl (any_of HT_.out (by kernel_rfl)) (fun _ _ _ h => h) (Or.inr ⟨by rfl, rfl⟩) ?_ ?_
  rotate_left
  ·simp only [Act.put, ac_]
   rfl
  refine pure_ (i := 11) (N := some 22) (v := undef) (a' := ?_) (bm 16 4095) rfl rfl (any_of HT_.out (by kernel_rfl)) (fun _ _ _ h => h) (Or.inr ⟨by rfl, rfl⟩) ?_ ?_
  rotate_left
  ·simp only [Act.put, ac_]
   rfl
  refine pure_ (i := 12) (N := some 23) (v := undef) (a' := ?_) (bm 16 8191) rfl rfl (any_of HT_.out (by kernel_rfl)) (fun _ _ _ h => h) (Or.inr ⟨by rfl, rfl⟩) ?_ ?_
  rotate_left
  ·simp only [Act.put, ac_]
   rfl
  refine pure_ (i := 13) (N := some 24) (v := undef) (a' := ?_) (bm 16 16383) rfl rfl (any_of HT_.out (by kernel_rfl)) (fun _ _ _ h => h) (Or.inr ⟨by rfl, rfl⟩) ?_ ?_
  rotate_left
  ·simp only [Act.put, ac_]
   rfl
  refine pure_ (i := 14) (N := some 25) (v := undef) (a' := ?_) (bm 16 32767) rfl rfl (any_of HT_.out (by kernel_rfl)) (fun _ _ _ h => h) (Or.inr ⟨by rfl, rfl⟩) ?_ ?_
  rotate_left
  ·simp only [Act.put, ac_]
   rfl
  refine pure_ (i := 15) (N := some 26) (v := ?_) (a' := ?_) (bm 16 65535) rfl rfl (any_of HT_.out (by kernel_rfl)) (fun _ _ _ h => h) (Or.inl ⟨by rfl, ?_⟩) ?_ ?_
  rotate_left
  ·intro w'
   go_simp
   with_reducible rfl
  rotate_left
  ·simp only [Act.put, ac_]
   rfl
  refine done_ (done_of HT_.out (by kernel_rfl)) ?_
  try go_wp2
  go_ret
  exact ⟨aq7, aq14⟩
end Go.Proofs.YtdffgeoegdkiaaaGreatDoor.F

namespace Go.Proofs.YtdffgeoegdkiaaaGreatDoor.F
open Go.RowKit Go.Proofs.YtdffgeoegdkiaaaGreatDoor Go.Proofs.YtdffgeoegdkiaaaGreatDoorW.PrintWords Go.Proofs.YtdffgeoegdkiaaaGreatDoorW.PrintMore
set_option linter.unusedVariables false
set_option linter.unusedSimpArgs false
def puzB (t n : ByteArray) (goal : Int) : Bool := match tyGrid (bytesOf t) with
  | none => false
  | some g => if oneName n = true ∧ firstAt g.2.2 (bt n 0) < g.2.2.length then (if 0 ≤ goal ∧ goal < (g.2.2.length : Int) then g.2.2.getD goal.toNat 0 != 35 else false) else false
theorem tray_small {g : (Nat × Nat × List Int)} (v : Vg g) : 1 ≤ g.2.2.length ∧ g.2.2.length ≤ 36 := by
  rw [show g.2.2.length = g.1 * g.2.1 from v.len]
  exact ⟨Nat.mul_pos v.w1 v.h1, v.small⟩
theorem impl_isNumber_ev (t : ByteArray) (l : List Int) (ht : t.size < 4294967281) : Ev (fun k => impl_isNumber.f k t l) (match tyGrid (bytesOf t) with | none => false | some g => l.all (inR 0 ((g.2.2.length : Int) - 1))) := by
  have h1 := impl_IsTray_ev t ht
  cases hg : tyGrid (bytesOf t) with
  | none =>
    rw [hg] at h1
    exact Ev.bind h1 (Ev.congr (fun k => if_neg (by simp)) (Ev.now _))
  | some g =>
    rw [hg] at h1
    obtain ⟨v, _⟩ := textB_grid hg
    obtain ⟨w, h, cs⟩ := g
    have hs := tray_small v
    refine Ev.bind h1 (Ev.congr (fun k => if_pos (by simp)) (Ev.congr (fun k => ?_) (Ev.now _)))
    rw [impl_read_eq t hg, Option.bind_some]
    show (impl_areWithin.f l 0 (wrap64 ((cs.length : Int) - 1))).bind _ = _
    simp only at hs
    rw [w64 (by omega) (by omega), impl_areWithin.f, Option.bind_some]
theorem impl_IsPuzzle_ev (t n : ByteArray) (goal : Int) (ht : t.size < 4294967281) : Ev (fun k => impl_IsPuzzle.f k t n goal) (puzB t n goal) := by
  have h1 := impl_cellOf_ev t n ht
  have h2 := impl_isNumber_ev t [goal] ht
  unfold cellOfAns at h1
  unfold puzB
  cases hg : tyGrid (bytesOf t) with
  | none =>
    rw [hg] at h1
    exact Ev.bind h1 (Ev.congr (fun k => if_neg (by simp)) (Ev.now _))
  | some g =>
    rw [hg] at h1 h2
    obtain ⟨w, h, cs⟩ := g
    obtain ⟨v, _⟩ := textB_grid hg
    have hs := tray_small v
    simp only at h1 h2 hs ⊢
    by_cases hn : oneName n = true
    · rw [if_pos hn] at h1
      by_cases hf : firstAt cs (bt n 0) < cs.length
      · rw [if_pos hf] at h1
        rw [if_pos ⟨hn, hf⟩]
        refine Ev.bind h1 (Ev.congr (fun k => if_pos rfl) (Ev.bind h2 ?_))
        by_cases hq : 0 ≤ goal ∧ goal < (cs.length : Int)
        · have e : [goal].all (inR 0 ((cs.length : Int) - 1)) = true := by simp [inR]; omega
          rw [e, if_pos hq]
          refine Ev.congr (fun k => ?_) (Ev.now _)
          rw [if_pos rfl, impl_read_eq t hg, Option.bind_some, if_pos hq.1]
          exact if_pos hq.2
        · have e : [goal].all (inR 0 ((cs.length : Int) - 1)) = false := by simp [inR]; omega
          rw [e, if_neg hq]
          exact Ev.congr (fun k => if_neg Bool.false_ne_true) (Ev.now _)
      · rw [if_neg hf] at h1
        rw [if_neg (fun q => hf q.2)]
        exact Ev.bind h1 (Ev.congr (fun k => if_neg (by simp)) (Ev.now _))
    · rw [if_neg hn] at h1
      rw [if_neg (fun q => hn q.1)]
      exact Ev.bind h1 (Ev.congr (fun k => if_neg (by simp)) (Ev.now _))
theorem tiPlace_l0 {cs : List Int} (hl : cs.length ≤ 1000) (c : Int) : ∀ (d i : Nat), i + d = cs.length → (∀ j, j < i → ∀ hj : j < cs.length, cs[j] ≠ c) →
    Ev (fun k => spec_tiPlace.l0 k c cs (cs.length : Int) i) (if firstAt cs c < cs.length then (firstAt cs c : Int) else -1)
  | 0, i, hi, hn => by
    obtain rfl : i = cs.length := by omega
    rw [first_none (fun j hj => hn j hj hj), if_neg (by omega)]
    exact Ev.step (f := fun _ => some (-1)) (fun k => by rw [spec_tiPlace.l0, if_neg (by omega)]) (Ev.now _)
  | d + 1, i, hi, hn => by
    have hlt : i < cs.length := by omega
    have hrd : rd cs (i : Int) = cs[i] := by unfold rd; rw [Int.toNat_natCast, List.getD_eq_getElem?_getD, List.getElem?_eq_getElem hlt]; rfl
    by_cases he : cs[i] = c
    · rw [first_split hn hlt he, if_pos hlt]
      refine Ev.step (f := fun _ => some (i : Int)) (fun k => ?_) (Ev.now _)
      rw [spec_tiPlace.l0, if_pos (by omega), if_pos (by omega), if_pos (by omega), hrd, if_pos he]
    · have ih := tiPlace_l0 hl c d (i + 1) (by omega) (fun j hj hj' => by
        by_cases e : j = i
        · subst e; exact he
        · exact hn j (by omega) hj')
      refine Ev.step (fun k => ?_) ih
      rw [spec_tiPlace.l0, if_pos (by omega), if_pos (by omega), if_pos (by omega), hrd, if_neg he, show (i : Int) + 1 = ((i + 1 : Nat) : Int) by omega, w64t (by omega)]
theorem tiPlace_ev {cs : List Int} (hl : cs.length ≤ 1000) (w h c : Int) : Ev (fun k => spec_tiPlace.f k w h cs c) (if firstAt cs c < cs.length then (firstAt cs c : Int) else -1) := tiPlace_l0 hl c cs.length 0 (by omega) (fun j hj => by omega)
theorem reName_eq (n : ByteArray) : spec_reName.f n = some (oneName n) := by
  unfold spec_reName.f oneName isNameC
  by_cases h1 : n.size = 1
  · rw [if_pos (by omega), if_pos (by omega), decide_eq_true h1, Bool.true_and]
    by_cases h2 : bt n 0 ≥ 97
    · rw [if_pos h2, decide_eq_true (show 97 ≤ bt n 0 from h2), Bool.true_and]
    · rw [if_neg h2, decide_eq_false (show ¬ 97 ≤ bt n 0 from h2), Bool.false_and]
  · rw [if_neg (by omega), decide_eq_false h1, Bool.false_and]
theorem spec_puGood_ev (t n : ByteArray) (goal : Int) : Ev (fun k => spec_puGood.f k t n goal) (puzB t n goal) := by
  have hT := spec_tyRead_ev t
  unfold puzB
  refine Ev.bind hT ?_
  cases hg : tyGrid (bytesOf t) with
  | none => exact Ev.congr (fun k => if_neg (by simp [ansT])) (Ev.now _)
  | some g =>
    obtain ⟨w, h, cs⟩ := g
    obtain ⟨v, _⟩ := textB_grid hg
    have hs := tray_small v
    simp only at hs ⊢
    refine Ev.congr (fun k => if_pos rfl) ?_
    refine Ev.congr (fun k => by rw [reName_eq, Option.bind_some]) ?_
    by_cases hn : oneName n = true
    · have hz : n.size = 1 := by
        unfold oneName at hn
        rw [Bool.and_eq_true, decide_eq_true_iff] at hn
        exact hn.1
      refine Ev.congr (fun k => by rw [if_pos hn, if_pos (by omega)]) ?_
      refine Ev.bind (tiPlace_ev (cs := cs) (by omega) w h (bt n 0)) ?_
      by_cases hf : firstAt cs (bt n 0) < cs.length
      · rw [if_pos hf, if_pos (show oneName n = true ∧ firstAt cs (bt n 0) < cs.length from ⟨hn, hf⟩)]
        refine Ev.congr (fun k => if_neg (show ¬ ((firstAt cs (bt n 0) : Nat) : Int) < 0 by omega)) ?_
        have HW : Aside0 (wrap64 ((cs.length : Int) - 1) = (cs.length : Int) - 1) := ⟨w64 (by omega) (by omega)⟩
        refine Ev.congr (f := fun _ => some (if 0 ≤ goal ∧ goal < (cs.length : Int) then cs.getD goal.toNat 0 != 35 else false)) (fun k => ?_) (Ev.now _)
        show ((spec_l1In.f goal 0 (wrap64 ((cs.length : Int) - 1))).bind _) = _
        rw [HW.out]
        unfold spec_l1In.f
        by_cases hq : 0 ≤ goal ∧ goal < (cs.length : Int)
        · rw [if_pos hq.1, Option.bind_some, if_pos (decide_eq_true (by omega)), if_pos hq]
          rw [if_pos hq.1]
          exact if_pos hq.2
        · rw [if_neg hq]
          by_cases hq0 : goal ≥ 0
          · rw [if_pos hq0, Option.bind_some, if_neg (by simp only [decide_eq_true_eq]; omega)]
          · rw [if_neg hq0, Option.bind_some, if_neg Bool.false_ne_true]
      · rw [if_neg hf, if_neg (show ¬ (oneName n = true ∧ firstAt cs (bt n 0) < cs.length) from fun q => hf q.2)]
        exact Ev.congr (fun k => if_pos (show (-1 : Int) < 0 by decide)) (Ev.now _)
    · rw [if_neg (show ¬ (oneName n = true ∧ firstAt cs (bt n 0) < cs.length) from fun q => hn q.1)]
      exact Ev.congr (fun k => if_neg hn) (Ev.now _)
theorem puzB_grid {t n : ByteArray} {goal : Int} (h : puzB t n goal = true) : ∃ w h cs, tyGrid (bytesOf t) = some (w, h, cs) ∧ Vg (w, h, cs) ∧ textB (w, h, cs) = t := by
  unfold puzB at h
  cases hg : tyGrid (bytesOf t) with
  | none => rw [hg] at h; cases h
  | some g =>
    obtain ⟨w, h, cs⟩ := g
    obtain ⟨v, e⟩ := textB_grid hg
    exact ⟨w, h, cs, rfl, v, e⟩
end Go.Proofs.YtdffgeoegdkiaaaGreatDoor.F

namespace Go.Proofs.YtdffgeoegdkiaaaGreatDoor
set_option linter.unusedVariables false
set_option linter.unusedSimpArgs false
def isDirC (c : Int) : Bool := c == 117 || c == 114 || c == 100 || c == 108
def dirIx (c : Int) : Int := if c = 117 then 0 else if c = 114 then 1 else if c = 100 then 2 else if c = 108 then 3 else -1
theorem dirIx_neg (c : Int) : dirIx c < 0 ↔ isDirC c = false := by
  unfold dirIx isDirC
  by_cases h1 : c = 117
  · simp [h1]
  by_cases h2 : c = 114
  · simp [h2]
  by_cases h3 : c = 100
  · simp [h3]
  by_cases h4 : c = 108
  · simp [h4]
  simp [h1, h2, h3, h4]
theorem dirIx_lt (c : Int) : dirIx c < 4 := by
  unfold dirIx
  split
  · decide
  split
  · decide
  split
  · decide
  split <;> decide
def dirB (d : Nat) : Int := if d = 0 then 117 else if d = 1 then 114 else if d = 2 then 100 else 108
theorem dirB_ix {c : Int} (h : isDirC c = true) : dirB (dirIx c).toNat = c ∧ (dirIx c).toNat < 4 ∧ 0 ≤ dirIx c := by
  have : c = 117 ∨ c = 114 ∨ c = 100 ∨ c = 108 := by
    unfold isDirC at h
    simp at h
    omega
  rcases this with rfl | rfl | rfl | rfl <;> exact ⟨rfl, by decide, by decide⟩
end Go.Proofs.YtdffgeoegdkiaaaGreatDoor

namespace Go.Proofs.YtdffgeoegdkiaaaGreatDoor.F
open Go.Proofs.YtdffgeoegdkiaaaGreatDoor
open Go.RowKit Go.Proofs.YtdffgeoegdkiaaaGreatDoorW.PrintWords Go.Proofs.YtdffgeoegdkiaaaGreatDoorW.PrintLast Go.Proofs.YtdffgeoegdkiaaaGreatDoorW.PrintMore
attribute [local go_sem] max2_int min2_int max_two min_two max_three min_three max_four min_four   -- for this text's walks alone
set_option linter.unusedVariables false
set_option linter.unusedSimpArgs false
def impl_IsWord.f (a0 : ByteArray) : Option (Bool) := if (a0.size : Int) ≤ 40 then ((strings_Trim.f a0 (⟨#[117, 114, 100, 108]⟩ : ByteArray)).bind fun t101 => (some (t101.toList == ([] : List UInt8)))) else (some false)
set_option maxHeartbeats 8000000 in
set_option maxRecDepth 100000 in
theorem impl_IsWord.calls (a0 : ByteArray) (r : Bool) (w : World) (h : impl_IsWord.f a0 = some r) :
  Calls Tryz.prog 65 #[.string a0] w fun e w' => e = .returned (.bool r) ∧ Below w.heap.size w w' := by
 have HB := am (Below.refl w.heap.size w)
 have H : (if (a0.size : Int) ≤ 40 then ((strings_Trim.f a0 (⟨#[117, 114, 100, 108]⟩ : ByteArray)).bind fun t101 => (some (t101.toList == ([] : List UInt8)))) else (some false)) = some r := h
 clear h
 by_cases c2 : (a0.size : Int) ≤ 40
 ·rw [if_pos c2] at H
  have c2b0 : decide ((a0.size : Int) ≤ 40) = true := decide_eq_true c2
  have c2b1 : decide (a0.size ≤ 40) = true := decide_eq_true (by omega)
  clear c2
  replace H := Option.bind_eq_some_iff.mp H
  obtain ⟨t101, A30, H⟩ := H
  replace H : (some (t101.toList == ([] : List UInt8))) = some r := H
  have A3 := am A30
  clear A30
  obtain rfl := Option.some.inj H
  go_enter Tryz.func65, Tryz.ntmps65
  go_wp2_with (first | (go_at_call 103; (with_reducible refine (strings_Trim.calls a0 (⟨#[117, 114, 100, 108]⟩ : ByteArray) t101 _ A3.out).mono ?_); rintro e w4 ⟨rfl, hb⟩; have n0_ := am (below_step aq1 hb); clear HB; have HB := n0_; clear n0_; (try clear hb); (try clear hb2); (try clear hk); (try clear hi)))
  go_ret
  exact ⟨aq7, aq1⟩
 ·rw [if_neg c2] at H
  have c2b0 : decide ((a0.size : Int) ≤ 40) = false := decide_eq_false c2
  have c2b1 : decide (a0.size ≤ 40) = false := decide_eq_false (by omega)
  clear c2
  obtain rfl := Option.some.inj H
  go_enter Tryz.func65, Tryz.ntmps65
  go_wp2
  go_ret
  exact ⟨aq7, aq1⟩
def spec_tiDirs.f  : Option (ByteArray) := some (⟨#[117, 114, 100, 108]⟩ : ByteArray)
set_option maxHeartbeats 8000000 in
set_option maxRecDepth 100000 in
theorem spec_tiDirs.calls  (r : ByteArray) (w : World) (h : spec_tiDirs.f  = some r) :
  Calls Tryz.prog 98 #[] w fun e w' => e = .returned (.string r) ∧ Drawn0 w w' := by
 have H : (some (⟨#[117, 114, 100, 108]⟩ : ByteArray)) = some r := h
 clear h
 obtain rfl := Option.some.inj H
 go_enter Tryz.func98, Tryz.ntmps98
 go_wp2
 go_ret
 exact ⟨aq8, aq13⟩
def spec_tiDir.l0 : Nat → ByteArray → Int → Option (Int)
 | 0, _, _ => none
 | k + 1, x0, x3 => if x3 < 4 then ((spec_tiDirs.f).bind fun t101 => (if 0 ≤ x3 then (if x3 ≤ (wrap64 (x3 + 1)) then (if (wrap64 (x3 + 1)) ≤ (t101.size : Int) then (if x0.toList = (t101.extract (x3 : Int).toNat ((wrap64 (x3 + 1)) : Int).toNat).toList then (some x3) else (spec_tiDir.l0 k x0 (wrap64 (x3 + 1)))) else (none)) else (none)) else (none))) else (some (-1))
def spec_tiDir.f (k : Nat) (a0 : ByteArray) : Option (Int) := spec_tiDir.l0 k a0 0
theorem spec_tiDir.mono_l : ∀ k, (∀ y0 y1, LeO (spec_tiDir.l0 k y0 y1) (spec_tiDir.l0 (k + 1) y0 y1))
 | 0 => fun _ _ r h => by simp [spec_tiDir.l0] at h
 | k + 1 => by
  have ih0 := spec_tiDir.mono_l k
  ·intro y0 y1
   unfold spec_tiDir.l0
   repeat' first
   | (with_reducible exact ih0 _ _)
   | (with_reducible exact LeO.refl _)
   | (with_reducible exact LeO.none _)
   | (with_reducible refine LeO.ite ?_ ?_)
   | (with_reducible refine LeO.bind ?_ (fun _ => ?_))
   | exact ih0 _ _
   | exact LeO.none _
   | refine LeO.ite ?_ ?_
   | refine LeO.bind ?_ (fun _ => ?_)
theorem spec_tiDir.mono : ∀ a0 k, LeO (spec_tiDir.f k a0) (spec_tiDir.f (k + 1) a0) := by
 intro a0 k
 have ih0 := spec_tiDir.mono_l k
 unfold spec_tiDir.f
 repeat' first
   | (with_reducible exact ih0 _ _)
   | (with_reducible exact LeO.refl _)
   | (with_reducible exact LeO.none _)
   | (with_reducible refine LeO.ite ?_ ?_)
   | (with_reducible refine LeO.bind ?_ (fun _ => ?_))
   | exact ih0 _ _
   | exact LeO.none _
   | refine LeO.ite ?_ ?_
   | refine LeO.bind ?_ (fun _ => ?_)
set_option maxHeartbeats 8000000 in
set_option maxRecDepth 100000 in
theorem spec_tiDir.calls (k : Nat) (a0 : ByteArray) (r : Int) (w : World) (h : spec_tiDir.f k a0 = some r) :
  Calls Tryz.prog 86 #[.string a0] w fun e w' => e = .returned (.int .i64 r) ∧ Drawn0 w w' := by
 have H : (spec_tiDir.l0 k a0 0) = some r := h
 clear h
 have H' := am H
 clear H
 go_enter Tryz.func86, Tryz.ntmps86
 go_wp2
 go_loopg [3] k (fun kq v3 w' => ∃ (x3_1 : Int), v3 = .int .i64 x3_1 ∧ Aside0 (spec_tiDir.l0 kq a0 x3_1 = some r) ∧ Aside0 (kq ≤ k) ∧ Drawn0 w w')
 case atStart => exact ⟨(0), aq8, H', ⟨Nat.le_refl _⟩, aq13⟩
 case round =>
  clear H'
  obtain ⟨x3_1, rfl, HA, HK1, ⟨m1, rfl⟩⟩ := hrel
  cases gk with
  | zero => exact absurd HA.out (by simp [spec_tiDir.l0])
  | succ k1 =>
   have H := HA.out
   clear HA
   simp only [spec_tiDir.l0] at H
   by_cases c2 : x3_1 < 4
   ·rw [if_pos c2] at H
    have c2b0 : decide (x3_1 < 4) = true := decide_eq_true c2
    clear c2
    replace H := Option.bind_eq_some_iff.mp H
    obtain ⟨t101, A30, H⟩ := H
    replace H : (if 0 ≤ x3_1 then (if x3_1 ≤ (wrap64 (x3_1 + 1)) then (if (wrap64 (x3_1 + 1)) ≤ (t101.size : Int) then (if a0.toList = (t101.extract (x3_1 : Int).toNat ((wrap64 (x3_1 + 1)) : Int).toNat).toList then (some x3_1) else (spec_tiDir.l0 k1 a0 (wrap64 (x3_1 + 1)))) else (none)) else (none)) else (none)) = some r := H
    have A3 := am A30
    clear A30
    by_cases c4 : 0 ≤ x3_1
    ·rw [if_pos c4] at H
     have c4b0 := eq_true c4
     have c4b1 : decide (0 ≤ x3_1) = true := decide_eq_true c4
     clear c4
     by_cases c5 : x3_1 ≤ (wrap64 (x3_1 + 1))
     ·rw [if_pos c5] at H
      have c5b0 := eq_true c5
      have c5b1 : decide (x3_1 ≤ (wrap64 (x3_1 + 1))) = true := decide_eq_true c5
      by_cases c6 : (wrap64 (x3_1 + 1)) ≤ (t101.size : Int)
      ·rw [if_pos c6] at H
       have c6b0 := eq_true c6
       have c6b1 : decide ((wrap64 (x3_1 + 1)) ≤ (t101.size : Int)) = true := decide_eq_true c6
       by_cases c7 : a0.toList = (t101.extract (x3_1 : Int).toNat ((wrap64 (x3_1 + 1)) : Int).toNat).toList
       ·rw [if_pos c7] at H
        have c7b0 : (a0.toList == (t101.extract (x3_1 : Int).toNat ((wrap64 (x3_1 + 1)) : Int).toNat).toList) = true := beq_iff_eq.mpr c7
        have c7b1 : (a0.toList != (t101.extract (x3_1 : Int).toNat ((wrap64 (x3_1 + 1)) : Int).toNat).toList) = false := bne_eq_false_iff_eq.mpr c7
        clear c7
        obtain rfl := Option.some.inj H
        go_wp2_with (first | ((with_reducible refine gate_callee (f := 98) rfl ?_); refine goesL_ (some 9) rfl rfl Tryz.func98 (by kernel_rfl) rfl #[] rfl aq3 ?_; (with_reducible refine (spec_tiDirs.calls  t101 _ A3.out).mono ?_); rintro e w' ⟨rfl, ⟨nd, rfl⟩⟩; refine ⟨_, rfl, ?_⟩))
        go_ret
        exact ⟨aq8, aq13⟩
       ·rw [if_neg c7] at H
        have c7b0 : (a0.toList == (t101.extract (x3_1 : Int).toNat ((wrap64 (x3_1 + 1)) : Int).toNat).toList) = false := beq_eq_false_iff_ne.mpr c7
        have c7b1 : (a0.toList != (t101.extract (x3_1 : Int).toNat ((wrap64 (x3_1 + 1)) : Int).toNat).toList) = true := bne_iff_ne.mpr c7
        have H' := am H
        clear H
        go_wp2_with (first | ((with_reducible refine gate_callee (f := 98) rfl ?_); refine goesL_ (some 9) rfl rfl Tryz.func98 (by kernel_rfl) rfl #[] rfl aq3 ?_; (with_reducible refine (spec_tiDirs.calls  t101 _ A3.out).mono ?_); rintro e w' ⟨rfl, ⟨nd, rfl⟩⟩; refine ⟨_, rfl, ?_⟩))
        go_roundg k1
        case measure => have := HK1.out; omega
        case rel => exact ⟨(wrap64 (x3_1 + 1)), aq8, H', ⟨aq48⟩, aq13⟩
      ·rw [if_neg c6] at H
       exact absurd H (by simp)
     ·rw [if_neg c5] at H
      exact absurd H (by simp)
    ·rw [if_neg c4] at H
     exact absurd H (by simp)
   ·rw [if_neg c2] at H
    have c2b0 : decide (x3_1 < 4) = false := decide_eq_false c2
    clear c2
    obtain rfl := Option.some.inj H
    go_wp2
    go_ret
    exact ⟨aq8, aq13⟩
def spec_tiWord.l0 : Nat → ByteArray → Int → Option (Bool)
 | 0, _, _ => none
 | k + 1, x0, x3 => if x3 < (x0.size : Int) then (if 0 ≤ x3 then (if x3 ≤ (wrap64 (x3 + 1)) then (if (wrap64 (x3 + 1)) ≤ (x0.size : Int) then ((spec_tiDir.f k (x0.extract (x3 : Int).toNat ((wrap64 (x3 + 1)) : Int).toNat)).bind fun t101 => (if t101 < 0 then (some false) else (spec_tiWord.l0 k x0 (wrap64 (x3 + 1))))) else (none)) else (none)) else (none)) else (some true)
def spec_tiWord.f (k : Nat) (a0 : ByteArray) : Option (Bool) := if (a0.size : Int) > 40 then (some false) else (spec_tiWord.l0 k a0 0)
theorem spec_tiWord.mono_l : ∀ k, (∀ y0 y1, LeO (spec_tiWord.l0 k y0 y1) (spec_tiWord.l0 (k + 1) y0 y1))
 | 0 => fun _ _ r h => by simp [spec_tiWord.l0] at h
 | k + 1 => by
  have ih0 := spec_tiWord.mono_l k
  ·intro y0 y1
   unfold spec_tiWord.l0
   repeat' first
   | (with_reducible exact ih0 _ _)
   | (with_reducible exact spec_tiDir.mono _ _)
   | (with_reducible exact LeO.refl _)
   | (with_reducible exact LeO.none _)
   | (with_reducible refine LeO.ite ?_ ?_)
   | (with_reducible refine LeO.bind ?_ (fun _ => ?_))
   | exact ih0 _ _
   | exact spec_tiDir.mono _ _
   | exact LeO.none _
   | refine LeO.ite ?_ ?_
   | refine LeO.bind ?_ (fun _ => ?_)
theorem spec_tiWord.mono : ∀ a0 k, LeO (spec_tiWord.f k a0) (spec_tiWord.f (k + 1) a0) := by
 intro a0 k
 have ih0 := spec_tiWord.mono_l k
 unfold spec_tiWord.f
 repeat' first
   | (with_reducible exact ih0 _ _)
   | (with_reducible exact spec_tiDir.mono _ _)
   | (with_reducible exact LeO.refl _)
   | (with_reducible exact LeO.none _)
   | (with_reducible refine LeO.ite ?_ ?_)
   | (with_reducible refine LeO.bind ?_ (fun _ => ?_))
   | exact ih0 _ _
   | exact spec_tiDir.mono _ _
   | exact LeO.none _
   | refine LeO.ite ?_ ?_
   | refine LeO.bind ?_ (fun _ => ?_)
set_option maxHeartbeats 8000000 in
set_option maxRecDepth 100000 in
theorem spec_tiWord.calls (k : Nat) (a0 : ByteArray) (r : Bool) (w : World) (h : spec_tiWord.f k a0 = some r) :
  Calls Tryz.prog 84 #[.string a0] w fun e w' => e = .returned (.bool r) ∧ Drawn0 w w' := by
 have H : (if (a0.size : Int) > 40 then (some false) else (spec_tiWord.l0 k a0 0)) = some r := h
 clear h
 by_cases c2 : (a0.size : Int) > 40
 ·rw [if_pos c2] at H
  have c2b0 : decide (40 < (a0.size : Int)) = true := decide_eq_true c2
  have c2b1 : decide (40 < a0.size) = true := decide_eq_true (by omega)
  clear c2
  obtain rfl := Option.some.inj H
  go_enter Tryz.func84, Tryz.ntmps84
  go_wp2
  go_ret
  exact ⟨aq8, aq13⟩
 ·rw [if_neg c2] at H
  have c2b0 : decide (40 < (a0.size : Int)) = false := decide_eq_false c2
  have c2b1 : decide (40 < a0.size) = false := decide_eq_false (by omega)
  clear c2
  have H' := am H
  clear H
  go_enter Tryz.func84, Tryz.ntmps84
  go_wp2
  go_loopg [3] k (fun kq v3 w' => ∃ (x3_1 : Int), v3 = .int .i64 x3_1 ∧ Aside0 (spec_tiWord.l0 kq a0 x3_1 = some r) ∧ Aside0 (kq ≤ k) ∧ Drawn0 w w')
  case atStart => exact ⟨(0), aq8, H', ⟨Nat.le_refl _⟩, aq13⟩
  case round =>
   clear H'
   try clear c2
   try clear c2b0
   try clear c2b1
   try clear p2
   obtain ⟨x3_1, rfl, HA, HK1, ⟨m1, rfl⟩⟩ := hrel
   cases gk with
   | zero => exact absurd HA.out (by simp [spec_tiWord.l0])
   | succ k1 =>
    have H := HA.out
    clear HA
    simp only [spec_tiWord.l0] at H
    by_cases c3 : x3_1 < (a0.size : Int)
    ·rw [if_pos c3] at H
     have c3b0 : decide (x3_1 < (a0.size : Int)) = true := decide_eq_true c3
     clear c3
     by_cases c4 : 0 ≤ x3_1
     ·rw [if_pos c4] at H
      have c4b0 := eq_true c4
      have c4b1 : decide (0 ≤ x3_1) = true := decide_eq_true c4
      clear c4
      by_cases c5 : x3_1 ≤ (wrap64 (x3_1 + 1))
      ·rw [if_pos c5] at H
       have c5b0 := eq_true c5
       have c5b1 : decide (x3_1 ≤ (wrap64 (x3_1 + 1))) = true := decide_eq_true c5
       by_cases c6 : (wrap64 (x3_1 + 1)) ≤ (a0.size : Int)
       ·rw [if_pos c6] at H
        have c6b0 := eq_true c6
        have c6b1 : decide ((wrap64 (x3_1 + 1)) ≤ (a0.size : Int)) = true := decide_eq_true c6
        replace H := Option.bind_eq_some_iff.mp H
        obtain ⟨t101, A70, H⟩ := H
        replace H : (if t101 < 0 then (some false) else (spec_tiWord.l0 k1 a0 (wrap64 (x3_1 + 1)))) = some r := H
        have A7 := am A70
        clear A70
        by_cases c8 : t101 < 0
        ·rw [if_pos c8] at H
         have c8b0 : decide (t101 < 0) = true := decide_eq_true c8
         clear c8
         obtain rfl := Option.some.inj H
         go_wp2_with (first | ((with_reducible refine gate_callee (f := 86) rfl ?_); refine goesL_ (some 18) rfl rfl Tryz.func86 (by kernel_rfl) rfl #[.string (a0.extract (x3_1 : Int).toNat ((wrap64 (x3_1 + 1)) : Int).toNat)] rfl aq3 ?_; (with_reducible refine (spec_tiDir.calls k1 (a0.extract (x3_1 : Int).toNat ((wrap64 (x3_1 + 1)) : Int).toNat) t101 _ A7.out).mono ?_); rintro e w' ⟨rfl, ⟨nd, rfl⟩⟩; refine ⟨_, rfl, ?_⟩))
         go_ret
         exact ⟨aq8, aq13⟩
        ·rw [if_neg c8] at H
         have c8b0 : decide (t101 < 0) = false := decide_eq_false c8
         clear c8
         have H' := am H
         clear H
         go_wp2_with (first | ((with_reducible refine gate_callee (f := 86) rfl ?_); refine goesL_ (some 18) rfl rfl Tryz.func86 (by kernel_rfl) rfl #[.string (a0.extract (x3_1 : Int).toNat ((wrap64 (x3_1 + 1)) : Int).toNat)] rfl aq3 ?_; (with_reducible refine (spec_tiDir.calls k1 (a0.extract (x3_1 : Int).toNat ((wrap64 (x3_1 + 1)) : Int).toNat) t101 _ A7.out).mono ?_); rintro e w' ⟨rfl, ⟨nd, rfl⟩⟩; refine ⟨_, rfl, ?_⟩))
         go_roundg k1
         case measure => have := HK1.out; omega
         case rel => exact ⟨(wrap64 (x3_1 + 1)), aq8, H', ⟨aq48⟩, aq13⟩
       ·rw [if_neg c6] at H
        exact absurd H (by simp)
      ·rw [if_neg c5] at H
       exact absurd H (by simp)
     ·rw [if_neg c4] at H
      exact absurd H (by simp)
    ·rw [if_neg c3] at H
     have c3b0 : decide (x3_1 < (a0.size : Int)) = false := decide_eq_false c3
     clear c3
     obtain rfl := Option.some.inj H
     go_wp2
     go_ret
     exact ⟨aq8, aq13⟩
end Go.Proofs.YtdffgeoegdkiaaaGreatDoor.F

namespace Go.Proofs.YtdffgeoegdkiaaaGreatDoor.F
open Go.RowKit Go.Proofs.YtdffgeoegdkiaaaGreatDoor Go.Proofs.YtdffgeoegdkiaaaGreatDoorW.PrintWords Classical
set_option linter.unusedVariables false
set_option linter.unusedSimpArgs false
def isWordB (l : List Int) : Bool := decide (l.length ≤ 40) && l.all isDirC
theorem isWordB_iff (l : List Int) : isWordB l = true ↔ l.length ≤ 40 ∧ ∀ c ∈ l, isDirC c = true := by simp [isWordB]
theorem dirSet (c : Int) : c ∈ bytesOf (⟨#[117, 114, 100, 108]⟩ : ByteArray) ↔ isDirC c = true := by
  have : bytesOf (⟨#[117, 114, 100, 108]⟩ : ByteArray) = [117, 114, 100, 108] := by decide
  rw [this]
  unfold isDirC
  simp [or_assoc]
theorem impl_IsWord_eq (s : ByteArray) : impl_IsWord.f s = some (isWordB (bytesOf s)) := by
  unfold impl_IsWord.f
  by_cases h : (s.size : Int) ≤ 40
  · rw [if_pos h]
    obtain ⟨t, ht, hiff⟩ := trim_nil s (⟨#[117, 114, 100, 108]⟩ : ByteArray) ByteArray.empty (by omega) (by decide) (by decide)
    rw [ht, Option.bind_some]
    refine congrArg some ?_
    rw [Bool.eq_iff_iff, beq_iff_eq, hiff, isWordB_iff, bytesOf_length]
    simp only [dirSet]
    constructor
    · intro h2; exact ⟨by omega, h2⟩
    · intro h2; exact h2.2
  · rw [if_neg h]
    refine congrArg some ?_
    rw [Bool.eq_iff_iff, isWordB_iff, bytesOf_length]
    constructor
    · intro h2; cases h2
    · rintro ⟨h1, _⟩; omega
theorem one_extract (s : ByteArray) (i : Nat) (h : i < s.size) : (s.extract i (i + 1)).toList = [s[i]] := by
  rw [Lib.toList_data, Lib.extract_data]
  apply List.ext_getElem?
  intro j
  simp only [List.getElem?_take, List.getElem?_drop]
  have := getElem?_data s i h
  cases j with
  | zero => simpa using this
  | succ j => simp
theorem tiDir_ev (x : ByteArray) (c : Int) (h : bytesOf x = [c]) : Ev (fun k => spec_tiDir.f k x) (dirIx c) := by
  have hx : ∃ b : UInt8, x.toList = [b] ∧ c = b.toNat := by
    unfold bytesOf at h
    rw [Lib.toList_data]
    cases hl : x.data.toList with
    | nil => rw [hl] at h; cases h
    | cons b t =>
      rw [hl] at h
      cases t with
      | nil => simp at h; exact ⟨b, rfl, h.symm⟩
      | cons _ _ => simp at h
  obtain ⟨b, hb, hc⟩ := hx
  have hsz : x.size = 1 := by rw [← bytesOf_length, h]; rfl
  have key : ∀ (i : Nat) (d : UInt8) (z : Int), z = d.toNat → i < 4 → ((⟨#[117, 114, 100, 108]⟩ : ByteArray).extract i (i + 1)).toList = [d] → ∀ k, spec_tiDir.l0 (k + 1) x i = if c = z then some (i : Int) else spec_tiDir.l0 k x (i + 1 : Nat) := by
    intro i d z hz hi e k
    rw [spec_tiDir.l0, if_pos (by omega), show spec_tiDirs.f = some (⟨#[117, 114, 100, 108]⟩ : ByteArray) from rfl, Option.bind_some]
    have hw : wrap64 ((i : Int) + 1) = ((i + 1 : Nat) : Int) := by rw [w64 (by omega) (by omega)]; rfl
    have hsz4 : ((⟨#[117, 114, 100, 108]⟩ : ByteArray).size : Int) = 4 := rfl
    rw [if_pos (by omega), hw, if_pos (by omega), hsz4, if_pos (by omega), Int.toNat_natCast, Int.toNat_natCast, e, hb]
    by_cases hbd : b = d
    · subst hbd; rw [if_pos rfl, if_pos (by omega)]
    · rw [if_neg (by simpa using hbd), if_neg (fun h2 => hbd (UInt8.toNat_inj.1 (by omega)))]
  have hd : (⟨#[117, 114, 100, 108]⟩ : ByteArray).data.toList = [117, 114, 100, 108] := rfl
  have k0 := key 0 117 117 rfl (by omega) (by rw [Lib.toList_data, Lib.extract_data, hd]; rfl)
  have k1 := key 1 114 114 rfl (by omega) (by rw [Lib.toList_data, Lib.extract_data, hd]; rfl)
  have k2 := key 2 100 100 rfl (by omega) (by rw [Lib.toList_data, Lib.extract_data, hd]; rfl)
  have k3 := key 3 108 108 rfl (by omega) (by rw [Lib.toList_data, Lib.extract_data, hd]; rfl)
  have k4 : ∀ k, spec_tiDir.l0 (k + 1) x ((3 + 1 : Nat) : Int) = some (-1) := fun k => by rw [spec_tiDir.l0, if_neg (by omega)]
  clear key hd
  unfold spec_tiDir.f dirIx
  refine ⟨5, fun k hk => ?_⟩
  obtain ⟨k, rfl⟩ : ∃ m, k = m + 5 := ⟨k - 5, by omega⟩
  have e0 := k0 (k + 4)
  have e1 := k1 (k + 3)
  have e2 := k2 (k + 2)
  have e3 := k3 (k + 1)
  have e4 := k4 k
  simp only [Nat.zero_add, Nat.reduceAdd, Int.natCast_zero, Int.natCast_one, Int.cast_ofNat_Int] at e0 e1 e2 e3 e4
  show spec_tiDir.l0 (k + 4 + 1) x 0 = _
  rw [e0]
  by_cases h1 : c = 117
  · rw [if_pos h1, if_pos h1]
  rw [if_neg h1, if_neg h1, e1]
  by_cases h2 : c = 114
  · rw [if_pos h2, if_pos h2]
  rw [if_neg h2, if_neg h2, e2]
  by_cases h3 : c = 100
  · rw [if_pos h3, if_pos h3]
  rw [if_neg h3, if_neg h3, e3]
  by_cases h4 : c = 108
  · rw [if_pos h4, if_pos h4]
  rw [if_neg h4, if_neg h4, e4]
theorem bytes_extract (s : ByteArray) (i : Nat) (h : i < s.size) : bytesOf (s.extract i (i + 1)) = [bt s i] := by
  have h1 := one_extract s i h
  rw [Lib.toList_data] at h1
  unfold bytesOf
  rw [h1]
  simp [bt, h]
theorem tiWord_l0 (s : ByteArray) (hs : s.size ≤ 40) : ∀ (d i : Nat), i + d = s.size → Ev (fun k => spec_tiWord.l0 k s i) (decide (∀ c ∈ (bytesOf s).drop i, isDirC c = true)) := by
  intro d
  induction d with
  | zero =>
    intro i hi
    obtain rfl : i = s.size := by omega
    rw [bytesOf_all]
    refine Ev.step (f := fun _ => some true) (fun k => by rw [spec_tiWord.l0, if_neg (by omega)]) ?_
    simp only [List.not_mem_nil, false_implies, implies_true, decide_true]
    exact Ev.now _
  | succ d ih =>
    intro i hi
    have hlt : i < s.size := by omega
    have hw : wrap64 ((i : Int) + 1) = ((i + 1 : Nat) : Int) := by rw [w64 (by omega) (by omega)]; rfl
    rw [bytesOf_drop s i hlt]
    have hstep : ∀ k, spec_tiWord.l0 (k + 1) s i = (spec_tiDir.f k (s.extract i (i + 1))).bind fun t => if t < 0 then some false else spec_tiWord.l0 k s (i + 1 : Nat) := fun k => by
      rw [spec_tiWord.l0, if_pos (by omega), if_pos (by omega), hw, if_pos (by omega), if_pos (by omega), Int.toNat_natCast, Int.toNat_natCast]
    refine Ev.step hstep (Ev.bind (tiDir_ev _ _ (bytes_extract s i hlt)) ?_)
    by_cases hd : isDirC (bt s i) = true
    · have hn : ¬ dirIx (bt s i) < 0 := fun e => by rw [dirIx_neg, hd] at e; cases e
      simp only [if_neg hn]
      have := ih (i + 1) (by omega)
      simp only [List.mem_cons, forall_eq_or_imp, hd, true_and]
      exact this
    · have hn : dirIx (bt s i) < 0 := (dirIx_neg _).2 (by simpa using hd)
      simp only [if_pos hn]
      rw [decide_eq_false]
      · exact Ev.now _
      · intro h; exact hd (h _ (List.mem_cons_self ..))
theorem spec_tiWord_ev (s : ByteArray) : Ev (fun k => spec_tiWord.f k s) (isWordB (bytesOf s)) := by
  have hl := bytesOf_length s
  unfold spec_tiWord.f
  by_cases h : (s.size : Int) > 40
  · simp only [if_pos h]
    rw [show isWordB (bytesOf s) = false from by rw [Bool.eq_false_iff]; intro e; have := (isWordB_iff _).1 e; omega]
    exact Ev.now _
  · simp only [if_neg h]
    have h0 := tiWord_l0 s (by omega) s.size 0 (by omega)
    rw [show isWordB (bytesOf s) = decide (∀ c ∈ (bytesOf s).drop 0, isDirC c = true) from by
      rw [Bool.eq_iff_iff, isWordB_iff, decide_eq_true_iff, List.drop_zero]
      constructor
      · intro e; exact e.2
      · intro e; exact ⟨by omega, e⟩]
    exact h0
end Go.Proofs.YtdffgeoegdkiaaaGreatDoor.F

namespace Go.Proofs.YtdffgeoegdkiaaaGreatDoor
open Go.RowKit Go.Proofs.YtdffgeoegdkiaaaGreatDoorW.PrintWords Go.Proofs.YtdffgeoegdkiaaaGreatDoorW.PrintMore
set_option linter.unusedVariables false
set_option linter.unusedSimpArgs false
theorem getD_at {l : List Int} {i : Nat} (h : i < l.length) : l.getD i 0 = l[i]'h := by rw [List.getD_eq_getElem?_getD, List.getElem?_eq_getElem h]; rfl
def isOpenC (c : Int) : Bool := c != 35
def lo (f : Nat → Nat) (a : Int) (l : List Nat) : Int := l.foldl (fun a i => mn a (f i : Nat)) a
def hi (f : Nat → Nat) (a : Int) (l : List Nat) : Int := l.foldl (fun a i => mx a (f i : Nat)) a
structure Box (w h : Nat) (cs : List Int) (x1 y1 w2 h2 : Nat) : Prop where
  hx : x1 + w2 ≤ w
  hy : y1 + h2 ≤ h
  w1 : 1 ≤ w2
  h1 : 1 ≤ h2
  inside : ∀ x y, x < w → y < h → isOpenC (at_ w cs x y) = true → x1 ≤ x ∧ x < x1 + w2 ∧ y1 ≤ y ∧ y < y1 + h2
  left : ∃ y, y < h ∧ isOpenC (at_ w cs x1 y) = true
  right : ∃ y, y < h ∧ isOpenC (at_ w cs (x1 + w2 - 1) y) = true
  top : ∃ x, x < w ∧ isOpenC (at_ w cs x y1) = true
  below : ∃ x, x < w ∧ isOpenC (at_ w cs x (y1 + h2 - 1)) = true
theorem Box.one {w h : Nat} {cs : List Int} {x1 y1 w2 h2 x1' y1' w2' h2' : Nat} (a : Box w h cs x1 y1 w2 h2) (b : Box w h cs x1' y1' w2' h2') : x1 = x1' ∧ y1 = y1' ∧ w2 = w2' ∧ h2 = h2' := by
  have a1 := a.hx; have a2 := a.hy; have a3 := a.w1; have a4 := a.h1; have b1 := b.hx; have b2 := b.hy; have b3 := b.w1; have b4 := b.h1
  obtain ⟨y, c1, c2⟩ := a.left; have e1 := b.inside _ _ (by omega) c1 c2
  obtain ⟨y, c1, c2⟩ := a.right; have e2 := b.inside _ _ (by omega) c1 c2
  obtain ⟨x, c1, c2⟩ := a.top; have e3 := b.inside _ _ c1 (by omega) c2
  obtain ⟨x, c1, c2⟩ := a.below; have e4 := b.inside _ _ c1 (by omega) c2
  obtain ⟨y, c1, c2⟩ := b.left; have f1 := a.inside _ _ (by omega) c1 c2
  obtain ⟨y, c1, c2⟩ := b.right; have f2 := a.inside _ _ (by omega) c1 c2
  obtain ⟨x, c1, c2⟩ := b.top; have f3 := a.inside _ _ c1 (by omega) c2
  obtain ⟨x, c1, c2⟩ := b.below; have f4 := a.inside _ _ c1 (by omega) c2
  omega
def putAll (cs : List Int) (out : List Int) (m : List (Nat × Nat)) : List Int := m.foldl (fun o p => o.set p.2 (cs.getD p.1 0)) out
theorem putAll_nil (cs out : List Int) : putAll cs out [] = out := rfl
theorem putAll_cons (cs out : List Int) (p : Nat × Nat) (m : List (Nat × Nat)) : putAll cs out (p :: m) = putAll cs (out.set p.2 (cs.getD p.1 0)) m := rfl
theorem putAll_app (cs out : List Int) (m n : List (Nat × Nat)) : putAll cs out (m ++ n) = putAll cs (putAll cs out m) n := by unfold putAll; rw [List.foldl_append]
theorem putAll_length (cs : List Int) : ∀ (m : List (Nat × Nat)) (out : List Int), (putAll cs out m).length = out.length
  | [], out => rfl
  | p :: m, out => by rw [putAll_cons, putAll_length cs m, List.length_set]
theorem getD_set (l : List Int) (i j : Nat) (v : Int) : (l.set i v).getD j 0 = if i = j ∧ i < l.length then v else l.getD j 0 := by
  rw [List.getD_eq_getElem?_getD, List.getD_eq_getElem?_getD, List.getElem?_set]
  by_cases h : i = j
  · subst h
    by_cases h2 : i < l.length
    · rw [if_pos rfl, if_pos h2, if_pos ⟨rfl, h2⟩]; rfl
    · rw [if_pos rfl, if_neg h2, if_neg (fun h => h2 h.2), List.getElem?_eq_none (by omega)]
  · rw [if_neg h, if_neg (fun q => h q.1)]
theorem putAll_far (cs : List Int) {j : Nat} : ∀ (m : List (Nat × Nat)) (out : List Int), (∀ p ∈ m, p.2 ≠ j) → (putAll cs out m).getD j 0 = out.getD j 0
  | [], _, _ => rfl
  | p :: m, out, h => by
    rw [putAll_cons, putAll_far cs m _ (fun q hq => h q (List.mem_cons_of_mem _ hq)), getD_set, if_neg (fun e => h p List.mem_cons_self e.1)]
theorem putAll_at (cs : List Int) {p : Nat × Nat} : ∀ (m : List (Nat × Nat)) (out : List Int), (m.map Prod.snd).Nodup → p ∈ m → p.2 < out.length → (putAll cs out m).getD p.2 0 = cs.getD p.1 0
  | [], _, _, h, _ => by cases h
  | q :: m, out, hn, h, hl => by
    rw [List.map_cons, List.nodup_cons] at hn
    rw [putAll_cons]
    rcases List.mem_cons.1 h with rfl | h
    · rw [putAll_far cs m _ (fun r hr e => hn.1 (List.mem_map.2 ⟨r, hr, e⟩)), getD_set, if_pos ⟨rfl, hl⟩]
    · exact putAll_at cs m _ hn.2 h (by rw [List.length_set]; exact hl)
theorem list_ext_getD {a b : List Int} (hl : a.length = b.length) (h : ∀ i, i < a.length → a.getD i 0 = b.getD i 0) : a = b := by
  apply List.ext_getElem hl
  intro i h1 h2
  have := h i h1
  rwa [getD_at h1, getD_at h2] at this
theorem putAll_perm (cs : List Int) {m n : List (Nat × Nat)} (h : m.Perm n) (hn : (m.map Prod.snd).Nodup) (out : List Int) : putAll cs out m = putAll cs out n := by
  have hn' : (n.map Prod.snd).Nodup := (h.map Prod.snd).nodup_iff.1 hn
  refine list_ext_getD (by rw [putAll_length, putAll_length]) fun i hi => ?_
  rw [putAll_length] at hi
  by_cases hex : ∃ p ∈ m, p.2 = i
  · obtain ⟨p, hp, rfl⟩ := hex
    rw [putAll_at cs m out hn hp hi, putAll_at cs n out hn' (h.mem_iff.1 hp) hi]
  · rw [putAll_far cs m out (fun p hp e => hex ⟨p, hp, e⟩), putAll_far cs n out (fun p hp e => hex ⟨p, h.mem_iff.2 hp, e⟩)]
def mvs (b : Nat → Bool) (S : List (List Nat)) : List (Nat × Nat) := S.flatMap fun st => (st.filter b).zip st
theorem map_snd_zip : ∀ (a c : List Nat), a.length ≤ c.length → (a.zip c).map Prod.snd = c.take a.length
  | [], c, _ => by simp
  | x :: a, [], h => by simp at h
  | x :: a, y :: c, h => by
    rw [List.zip_cons_cons, List.map_cons, map_snd_zip a c (by simpa using h), List.length_cons, List.take_succ_cons]
theorem zip_snd {b : Nat → Bool} (st : List Nat) : ((st.filter b).zip st).map Prod.snd = st.take (st.filter b).length := map_snd_zip _ _ (List.length_filter_le _ _)
theorem zip_fst {b : Nat → Bool} (st : List Nat) : ((st.filter b).zip st).map Prod.fst = st.filter b :=
  List.map_fst_zip (List.length_filter_le _ _)
theorem mvs_snd_sub (b : Nat → Bool) : ∀ S : List (List Nat), ((mvs b S).map Prod.snd).Sublist S.flatten
  | [] => List.Sublist.refl _
  | st :: S => by
    unfold mvs
    rw [List.flatMap_cons, List.map_append, List.flatten_cons, zip_snd]
    exact (List.take_sublist _ _).append (mvs_snd_sub b S)
theorem mvs_fst (b : Nat → Bool) : ∀ S : List (List Nat), (mvs b S).map Prod.fst = S.flatten.filter b
  | [] => rfl
  | st :: S => by
    unfold mvs
    rw [List.flatMap_cons, List.map_append, List.flatten_cons, List.filter_append, zip_fst]
    congr 1
    exact mvs_fst b S
structure Str (n : Nat) (S : List (List Nat)) : Prop where
  nodup : S.flatten.Nodup
  lt : ∀ st ∈ S, ∀ i ∈ st, i < n
theorem Str.snd {n : Nat} {S : List (List Nat)} (h : Str n S) (b : Nat → Bool) : ((mvs b S).map Prod.snd).Nodup := (mvs_snd_sub b S).nodup h.nodup
theorem Str.fst {n : Nat} {S : List (List Nat)} (h : Str n S) (b : Nat → Bool) : ((mvs b S).map Prod.fst).Nodup := by rw [mvs_fst]; exact h.nodup.filter _
def runsF (p : Nat → Bool) : List Nat → List Nat → List (List Nat)
  | own, [] => if own = [] then [] else [own]
  | own, k :: l => if p k = true then runsF p (own ++ [k]) l else if own = [] then runsF p [] l else own :: runsF p [] l
def startsF (p : Nat → Bool) : Bool → List Nat → List (List Nat)
  | _, [] => []
  | prev, k :: l => if p k = true then (if prev = true then startsF p true l else ((k :: l).takeWhile p) :: startsF p true l) else startsF p false l
theorem runs_starts (p : Nat → Bool) : ∀ (l own : List Nat), runsF p own l = if own = [] then startsF p false l else (own ++ l.takeWhile p) :: startsF p true l
  | [], own => by
    unfold runsF startsF
    by_cases h : own = []
    · rw [if_pos h, if_pos h]
    · rw [if_neg h, if_neg h]; simp
  | k :: l, own => by
    unfold runsF startsF
    have h1 := runs_starts p l (own ++ [k])
    have h2 := runs_starts p l []
    rw [if_neg (by simp)] at h1
    rw [if_pos rfl] at h2
    rw [h1, h2, List.takeWhile_cons]
    by_cases hk : p k = true
    · by_cases h : own = []
      · subst h; simp [hk]
      · simp [hk, h]
    · by_cases h : own = []
      · subst h; simp [hk]
      · simp [hk, h]
theorem starts_range (p : Nat → Bool) (f : Nat → Nat) (K : Nat) : ∀ (d b : Nat), b + d = K → startsF p (decide (0 < b) && p (f (b - 1))) (((List.range K).map f).drop b) =
    ((List.range' b d).filter fun b => p (f b) && !(decide (0 < b) && p (f (b - 1)))).map fun b => (((List.range K).map f).drop b).takeWhile p
  | 0, b, h => by
    rw [List.drop_eq_nil_of_le (by simp; omega)]; rfl
  | d + 1, b, h => by
    have ih := starts_range p f K d (b + 1) (by omega)
    have hd : ((List.range K).map f).drop b = f b :: ((List.range K).map f).drop (b + 1) := by
      rw [List.drop_eq_getElem_cons (by simp; omega)]; simp
    rw [List.range'_succ, List.filter_cons]
    conv => lhs; rw [hd]
    unfold startsF
    rw [show (decide (0 < b + 1) && p (f (b + 1 - 1))) = p (f b) by simp] at ih
    by_cases h1 : p (f b) = true
    · rw [h1] at ih
      by_cases h2 : (decide (0 < b) && p (f (b - 1))) = true
      · rw [if_pos h1, if_pos h2, ih, h1, h2]; simp
      · have h2' : (decide (0 < b) && p (f (b - 1))) = false := by simpa using h2
        rw [if_pos h1, if_neg h2, ih, h1, h2', if_pos (by rfl), List.map_cons, hd]
    · have h1' : p (f b) = false := by simpa using h1
      rw [h1'] at ih
      rw [if_neg h1, ih, h1', if_neg (by simp)]
def leastL : List Nat → Nat
  | [] => 0
  | a :: l => l.foldl Nat.min a
theorem foldl_min_le : ∀ (l : List Nat) (a : Nat), l.foldl Nat.min a ≤ a ∧ (∀ x ∈ l, l.foldl Nat.min a ≤ x) ∧ (l.foldl Nat.min a = a ∨ l.foldl Nat.min a ∈ l)
  | [], a => ⟨Nat.le_refl _, fun _ h => (by cases h), .inl rfl⟩
  | b :: l, a => by
    obtain ⟨h1, h2, h3⟩ := foldl_min_le l (Nat.min a b)
    have m1 : Nat.min a b ≤ a := Nat.min_le_left a b
    have m2 : Nat.min a b ≤ b := Nat.min_le_right a b
    rw [List.foldl_cons]
    refine ⟨Nat.le_trans h1 m1, fun x hx => ?_, ?_⟩
    · rcases List.mem_cons.1 hx with rfl | hx
      · exact Nat.le_trans h1 m2
      · exact h2 x hx
    · rcases h3 with h3 | h3
      · rcases Nat.le_total a b with h | h
        · exact .inl (h3.trans (Nat.min_eq_left h))
        · exact .inr (List.mem_cons.2 (.inl (h3.trans (Nat.min_eq_right h))))
      · exact .inr (List.mem_cons_of_mem _ h3)
theorem leastL_mem {l : List Nat} (h : l ≠ []) : leastL l ∈ l := by
  cases l with
  | nil => exact absurd rfl h
  | cons a l =>
    rcases (foldl_min_le l a).2.2 with e | e
    · exact List.mem_cons.2 (.inl e)
    · exact List.mem_cons_of_mem _ e
def insK (x : List Nat) : List (List Nat) → List (List Nat)
  | [] => [x]
  | y :: ys => if leastL y < leastL x then y :: insK x ys else x :: y :: ys
def sortK (l : List (List Nat)) : List (List Nat) := l.foldl (fun out x => insK x out) []
theorem insK_perm (x : List Nat) : ∀ l, (insK x l).Perm (x :: l)
  | [] => List.Perm.refl _
  | y :: ys => by
    unfold insK
    split
    · exact ((insK_perm x ys).cons y).trans (List.Perm.swap _ _ _)
    · exact List.Perm.refl _
theorem insK_sorted (x : List Nat) : ∀ l, l.Pairwise (fun a b => leastL a ≤ leastL b) → (insK x l).Pairwise (fun a b => leastL a ≤ leastL b)
  | [], _ => List.pairwise_singleton _ _
  | y :: ys, h => by
    rw [List.pairwise_cons] at h
    unfold insK
    split
    · rename_i hlt
      rw [List.pairwise_cons]
      refine ⟨fun z hz => ?_, insK_sorted x ys h.2⟩
      rcases List.mem_cons.1 ((insK_perm x ys).mem_iff.1 hz) with rfl | hz
      · exact Nat.le_of_lt hlt
      · exact h.1 z hz
    · rename_i hlt
      rw [List.pairwise_cons, List.pairwise_cons]
      exact ⟨fun z hz => by
        rcases List.mem_cons.1 hz with rfl | hz
        · omega
        · have := h.1 z hz; omega, h⟩
theorem sortK_go : ∀ (l acc : List (List Nat)), acc.Pairwise (fun a b => leastL a ≤ leastL b) → (l.foldl (fun out x => insK x out) acc).Perm (l ++ acc) ∧ (l.foldl (fun out x => insK x out) acc).Pairwise (fun a b => leastL a ≤ leastL b)
  | [], acc, h => ⟨List.Perm.refl _, h⟩
  | x :: l, acc, h => by
    obtain ⟨h1, h2⟩ := sortK_go l (insK x acc) (insK_sorted x acc h)
    exact ⟨h1.trans (((insK_perm x acc).append_left l).trans List.perm_middle), h2⟩
theorem sortK_perm (l : List (List Nat)) : (sortK l).Perm l := by have := (sortK_go l [] List.Pairwise.nil).1; rwa [List.append_nil] at this
theorem sortK_sorted (l : List (List Nat)) : (sortK l).Pairwise (fun a b => leastL a ≤ leastL b) := (sortK_go l [] List.Pairwise.nil).2
theorem sorted_one : ∀ (a b : List (List Nat)), a.Perm b → (a.map leastL).Nodup → a.Pairwise (fun a b => leastL a ≤ leastL b) → b.Pairwise (fun a b => leastL a ≤ leastL b) → a = b
  | [], b, h, _, _, _ => (List.Perm.nil_eq h)
  | x :: a, [], h, _, _, _ => absurd h.length_eq (by simp)
  | x :: a, y :: b, h, hn, ha, hb => by
    rw [List.pairwise_cons] at ha hb
    rw [List.map_cons, List.nodup_cons] at hn
    have hxy : x = y := by
      rcases List.mem_cons.1 (h.mem_iff.1 List.mem_cons_self) with e | hx
      · exact e
      · rcases List.mem_cons.1 (h.mem_iff.2 (List.mem_cons_self : y ∈ y :: b)) with e | hy
        · exact e.symm
        · have h1 := hb.1 x hx
          have h2 := ha.1 y hy
          exact absurd (List.mem_map.2 ⟨y, hy, by omega⟩) hn.1
    subst hxy
    rw [sorted_one a b ((List.perm_cons x).1 h) hn.2 ha.2 hb.2]
theorem keys_nodup : ∀ {S : List (List Nat)}, S.flatten.Nodup → (∀ st ∈ S, st ≠ []) → (S.map leastL).Nodup
  | [], _, _ => List.nodup_nil
  | st :: S, h, hne => by
    rw [List.flatten_cons, List.nodup_append] at h
    rw [List.map_cons, List.nodup_cons]
    refine ⟨fun hm => ?_, keys_nodup h.2.1 (fun s hs => hne s (List.mem_cons_of_mem _ hs))⟩
    obtain ⟨s, hs, e⟩ := List.mem_map.1 hm
    have m1 := leastL_mem (hne st List.mem_cons_self)
    have m2 := leastL_mem (hne s (List.mem_cons_of_mem _ hs))
    exact h.2.2 _ m1 _ (List.mem_flatten.2 ⟨s, hs, m2⟩) e.symm
def lnM (w h d : Nat) : Nat := if d = 0 ∨ d = 2 then w else h
def lnK (w h d : Nat) : Nat := if d = 0 ∨ d = 2 then h else w
def pX (w d a b : Nat) : Nat := if d = 0 then a else if d = 1 then w - 1 - b else if d = 2 then a else b
def pY (h d a b : Nat) : Nat := if d = 0 then b else if d = 1 then a else if d = 2 then h - 1 - b else a
def pos (w h d a b : Nat) : Nat := pY h d a b * w + pX w d a b
def lnA (w d i : Nat) : Nat := if d = 0 ∨ d = 2 then i % w else i / w
def lnB (w h d i : Nat) : Nat := if d = 0 then i / w else if d = 1 then w - 1 - i % w else if d = 2 then h - 1 - i / w else i % w
theorem dir4 {d : Nat} (h : d < 4) : d = 0 ∨ d = 1 ∨ d = 2 ∨ d = 3 := by omega
theorem pos_lt {w h d a b : Nat} (hd : d < 4) (ha : a < lnM w h d) (hb : b < lnK w h d) : pX w d a b < w ∧ pY h d a b < h ∧ pos w h d a b < w * h := by
  have key : pX w d a b < w ∧ pY h d a b < h := by
    rcases dir4 hd with rfl | rfl | rfl | rfl <;> simp [lnM, lnK, pX, pY] at * <;> omega
  exact ⟨key.1, key.2, place_lt key.1 key.2⟩
theorem pos_inv {w h d a b : Nat} (hd : d < 4) (ha : a < lnM w h d) (hb : b < lnK w h d) : lnA w d (pos w h d a b) = a ∧ lnB w h d (pos w h d a b) = b := by
  obtain ⟨h1, h2, _⟩ := pos_lt hd ha hb
  have e1 : pos w h d a b % w = pX w d a b := place_mod h1
  have e2 : pos w h d a b / w = pY h d a b := place_div h1
  unfold lnA lnB
  rw [e1, e2]
  rcases dir4 hd with rfl | rfl | rfl | rfl <;> simp [lnM, lnK, pX, pY] at * <;> omega
theorem inv_pos {w h d i : Nat} (hd : d < 4) (hi : i < w * h) : lnA w d i < lnM w h d ∧ lnB w h d i < lnK w h d ∧ pos w h d (lnA w d i) (lnB w h d i) = i := by
  obtain ⟨h1, h2, h3⟩ := place_of hi
  have g : ∀ x y, x = i % w → y = i / w → y * w + x = i := fun x y hx hy => by rw [hx, hy]; exact h3
  unfold lnA lnB
  generalize i / w = q at *
  generalize i % w = r at *
  rcases dir4 hd with rfl | rfl | rfl | rfl <;> simp only [lnM, lnK, pos, pX, pY]
  · exact ⟨by simpa using h1, by simpa using h2, by simpa using h3⟩
  · exact ⟨by simpa using h2, by simp; omega, g _ _ (by simp; omega) (by simp)⟩
  · exact ⟨by simpa using h1, by simp; omega, g _ _ (by simp) (by simp; omega)⟩
  · exact ⟨by simpa using h2, by simpa using h1, by simpa using h3⟩
def lineD (w h d a : Nat) : List Nat := (List.range (lnK w h d)).map (pos w h d a)
def linesD (w h d : Nat) : List (List Nat) := (List.range (lnM w h d)).map (lineD w h d)
theorem mem_lines {w h d i : Nat} (hd : d < 4) : i ∈ (linesD w h d).flatten ↔ i < w * h := by
  constructor
  · intro hi
    obtain ⟨l, hl, hil⟩ := List.mem_flatten.1 hi
    obtain ⟨a, ha, rfl⟩ := List.mem_map.1 hl
    obtain ⟨b, hb, rfl⟩ := List.mem_map.1 hil
    exact (pos_lt hd (List.mem_range.1 ha) (List.mem_range.1 hb)).2.2
  · intro hi
    obtain ⟨h1, h2, h3⟩ := inv_pos hd hi
    exact List.mem_flatten.2 ⟨_, List.mem_map.2 ⟨_, List.mem_range.2 h1, rfl⟩, List.mem_map.2 ⟨_, List.mem_range.2 h2, h3⟩⟩
theorem nodup_map_on {α β : Type} {f : α → β} : ∀ {l : List α}, (∀ x ∈ l, ∀ y ∈ l, f x = f y → x = y) → l.Nodup → (l.map f).Nodup
  | [], _, _ => List.nodup_nil
  | a :: l, h, hn => by
    rw [List.nodup_cons] at hn
    rw [List.map_cons, List.nodup_cons]
    refine ⟨fun hm => ?_, nodup_map_on (fun x hx y hy => h x (List.mem_cons_of_mem _ hx) y (List.mem_cons_of_mem _ hy)) hn.2⟩
    obtain ⟨x, hx, e⟩ := List.mem_map.1 hm
    rw [h x (List.mem_cons_of_mem _ hx) a List.mem_cons_self e] at hx
    exact hn.1 hx
theorem flatMap_nodup {α β : Type} {f : α → List β} : ∀ {l : List α}, (∀ x ∈ l, (f x).Nodup) → (∀ x ∈ l, ∀ y ∈ l, ∀ z, z ∈ f x → z ∈ f y → x = y) → l.Nodup → (l.flatMap f).Nodup
  | [], _, _, _ => List.nodup_nil
  | a :: l, h1, h2, hn => by
    rw [List.nodup_cons] at hn
    rw [List.flatMap_cons, List.nodup_append]
    refine ⟨h1 a List.mem_cons_self, flatMap_nodup (fun x hx => h1 x (List.mem_cons_of_mem _ hx)) (fun x hx y hy => h2 x (List.mem_cons_of_mem _ hx) y (List.mem_cons_of_mem _ hy)) hn.2, ?_⟩
    rintro z hz _ hz' rfl
    obtain ⟨x, hx, hzx⟩ := List.mem_flatMap.1 hz'
    rw [h2 a List.mem_cons_self x (List.mem_cons_of_mem _ hx) z hz hzx] at hn
    exact hn.1 hx
theorem lines_nodup {w h d : Nat} (hd : d < 4) : (linesD w h d).flatten.Nodup := by
  unfold linesD
  rw [← List.flatMap_def]
  refine flatMap_nodup (fun a ha => nodup_map_on (fun x hx y hy e => ?_) List.nodup_range) (fun a ha c hc z hz hz' => ?_) List.nodup_range
  · have h1 := pos_inv hd (List.mem_range.1 ha) (List.mem_range.1 hx)
    have h2 := pos_inv hd (List.mem_range.1 ha) (List.mem_range.1 hy)
    rw [← h1.2, ← h2.2, e]
  · obtain ⟨b, hb, rfl⟩ := List.mem_map.1 hz
    obtain ⟨b', hb', e⟩ := List.mem_map.1 hz'
    have h1 := pos_inv hd (List.mem_range.1 ha) (List.mem_range.1 hb)
    have h2 := pos_inv hd (List.mem_range.1 hc) (List.mem_range.1 hb')
    rw [← h1.1, ← h2.1, e]
theorem lines_perm {w h d : Nat} (hd : d < 4) : (linesD w h d).flatten.Perm (List.range (w * h)) := by
  rw [List.perm_ext_iff_of_nodup (lines_nodup hd) List.nodup_range]
  intro i
  rw [mem_lines hd, List.mem_range]
def openAt (cs : List Int) (i : Nat) : Bool := isOpenC (cs.getD i 0)
def ballAt (cs : List Int) (i : Nat) : Bool := isBallC (cs.getD i 0)
def strI (w h d : Nat) (cs : List Int) : List (List Nat) := (linesD w h d).flatMap (runsF (openAt cs) [])
def tailD (w h d : Nat) (cs : List Int) (i : Nat) : List Nat := ((lineD w h d (lnA w d i)).drop (lnB w h d i)).takeWhile (openAt cs)
def endD (w h d : Nat) (cs : List Int) (i : Nat) : Bool := openAt cs i && !(decide (0 < lnB w h d i) && openAt cs (pos w h d (lnA w d i) (lnB w h d i - 1)))
def strS (w h d : Nat) (cs : List Int) : List (List Nat) := ((List.range (w * h)).filter (endD w h d cs)).map (tailD w h d cs)
theorem filter_congr_ {α : Type} {p q : α → Bool} {l : List α} (h : ∀ x ∈ l, p x = q x) : l.filter p = l.filter q := List.filter_congr h
theorem line_runs {w h d a : Nat} (hd : d < 4) (ha : a < lnM w h d) (cs : List Int) : runsF (openAt cs) [] (lineD w h d a) = ((lineD w h d a).filter (endD w h d cs)).map (tailD w h d cs) := by
  have h1 := runs_starts (openAt cs) (lineD w h d a) []
  rw [if_pos rfl] at h1
  have h2 := starts_range (openAt cs) (pos w h d a) (lnK w h d) (lnK w h d) 0 (by omega)
  rw [show (decide (0 < 0) && openAt cs (pos w h d a (0 - 1))) = false by simp, List.drop_zero, ← List.range_eq_range'] at h2
  rw [h1]
  refine h2.trans ?_
  unfold lineD
  rw [List.filter_map, List.map_map]
  have e : ∀ b ∈ List.range (lnK w h d), (endD w h d cs ∘ pos w h d a) b = (openAt cs (pos w h d a b) && !(decide (0 < b) && openAt cs (pos w h d a (b - 1)))) := fun b hb => by
    obtain ⟨e1, e2⟩ := pos_inv hd ha (List.mem_range.1 hb)
    show endD w h d cs (pos w h d a b) = _
    unfold endD
    rw [e1, e2]
  rw [filter_congr_ e]
  refine List.map_congr_left fun b hb => ?_
  obtain ⟨e1, e2⟩ := pos_inv hd ha (List.mem_range.1 (List.mem_filter.1 hb).1)
  show _ = tailD w h d cs (pos w h d a b)
  unfold tailD lineD
  rw [e1, e2]
theorem strI_eq {w h d : Nat} (hd : d < 4) (cs : List Int) : strI w h d cs = (((linesD w h d).flatten).filter (endD w h d cs)).map (tailD w h d cs) := by
  unfold strI
  have : ∀ l : List Nat, (∀ a ∈ l, a < lnM w h d) → (l.map (lineD w h d)).flatMap (runsF (openAt cs) []) = (((l.map (lineD w h d)).flatten).filter (endD w h d cs)).map (tailD w h d cs) := fun l => by
    induction l with
    | nil => intro _; rfl
    | cons a l ih =>
      intro hl
      rw [List.map_cons, List.flatMap_cons, List.flatten_cons, List.filter_append, List.map_append, ih (fun x hx => hl x (List.mem_cons_of_mem _ hx)), line_runs hd (hl a List.mem_cons_self)]
  exact this _ fun a ha => List.mem_range.1 ha
theorem strI_perm {w h d : Nat} (hd : d < 4) (cs : List Int) : (strI w h d cs).Perm (strS w h d cs) := by
  rw [strI_eq hd]
  exact ((lines_perm hd).filter _).map _
theorem runsF_flatten (p : Nat → Bool) : ∀ (l own : List Nat), (runsF p own l).flatten = own ++ l.filter p
  | [], own => by
    unfold runsF
    by_cases h : own = []
    · rw [if_pos h, h]; rfl
    · rw [if_neg h]; simp
  | k :: l, own => by
    unfold runsF
    rw [List.filter_cons]
    by_cases hk : p k = true
    · rw [if_pos hk, if_pos hk, runsF_flatten p l (own ++ [k]), List.append_assoc]; rfl
    · rw [if_neg hk, if_neg hk]
      by_cases h : own = []
      · rw [if_pos h, runsF_flatten p l [], h]
      · rw [if_neg h, List.flatten_cons, runsF_flatten p l []]; rfl
theorem runsF_ne (p : Nat → Bool) : ∀ (l own : List Nat), ∀ st ∈ runsF p own l, st ≠ []
  | [], own, st, hs => by
    unfold runsF at hs
    by_cases h : own = []
    · rw [if_pos h] at hs; cases hs
    · rw [if_neg h, List.mem_singleton] at hs; rw [hs]; exact h
  | k :: l, own, st, hs => by
    unfold runsF at hs
    by_cases hk : p k = true
    · rw [if_pos hk] at hs; exact runsF_ne p l _ st hs
    · rw [if_neg hk] at hs
      by_cases h : own = []
      · rw [if_pos h] at hs; exact runsF_ne p l _ st hs
      · rw [if_neg h] at hs
        rcases List.mem_cons.1 hs with rfl | hs
        · exact h
        · exact runsF_ne p l _ st hs
theorem strI_flatten (w h d : Nat) (cs : List Int) : (strI w h d cs).flatten = (linesD w h d).flatten.filter (openAt cs) := by
  unfold strI
  induction linesD w h d with
  | nil => rfl
  | cons a l ih => rw [List.flatMap_cons, List.flatten_append, List.flatten_cons, List.filter_append, ih, runsF_flatten]; rfl
theorem strI_ne {w h d : Nat} {cs : List Int} : ∀ st ∈ strI w h d cs, st ≠ [] := fun st hs => by
  obtain ⟨l, _, hl⟩ := List.mem_flatMap.1 hs
  exact runsF_ne _ _ _ st hl
def strD (w h d : Nat) (cs : List Int) : List (List Nat) := sortK (strS w h d cs)
theorem strD_perm {w h d : Nat} (hd : d < 4) (cs : List Int) : (strD w h d cs).Perm (strI w h d cs) := (sortK_perm _).trans (strI_perm hd cs).symm
theorem strI_keys {w h d : Nat} (hd : d < 4) (cs : List Int) : ((strI w h d cs).map leastL).Nodup :=
  keys_nodup (by rw [strI_flatten]; exact (lines_nodup hd).filter _) strI_ne
theorem strD_of {w h d : Nat} (hd : d < 4) {cs : List Int} {T : List (List Nat)} (hp : T.Perm (strI w h d cs)) (hs : T.Pairwise fun a b => leastL a ≤ leastL b) : T = strD w h d cs :=
  sorted_one _ _ (hp.trans (strD_perm hd cs).symm) ((hp.map leastL).nodup_iff.2 (strI_keys hd cs)) hs (sortK_sorted _)
theorem strD_ne {w h d : Nat} (hd : d < 4) {cs : List Int} : ∀ st ∈ strD w h d cs, st ≠ [] := fun st hs => strI_ne st ((strD_perm hd cs).mem_iff.1 hs)
theorem perm_flatten_ {a b : List (List Nat)} (h : a.Perm b) : a.flatten.Perm b.flatten := h.flatten
theorem strD_cells {w h d : Nat} (hd : d < 4) (cs : List Int) : (strD w h d cs).flatten.Perm ((List.range (w * h)).filter (openAt cs)) := by
  refine (perm_flatten_ (strD_perm hd cs)).trans ?_
  rw [strI_flatten]
  exact (lines_perm hd).filter _
theorem strD_mem {w h d : Nat} (hd : d < 4) {cs : List Int} {i : Nat} : i ∈ (strD w h d cs).flatten ↔ i < w * h ∧ openAt cs i = true := by
  rw [(strD_cells hd cs).mem_iff, List.mem_filter, List.mem_range]
theorem strD_Str {w h d : Nat} (hd : d < 4) (cs : List Int) : Str (w * h) (strD w h d cs) :=
  ⟨(strD_cells hd cs).nodup_iff.2 (List.nodup_range.filter _), fun st hs i hi => ((strD_mem hd).1 (List.mem_flatten.2 ⟨st, hs, hi⟩)).1⟩
def aheadI (w h : Nat) (cs : List Int) (i d : Nat) : Int :=
  let x : Int := if d = 1 then ((i % w : Nat) : Int) + 1 else if d = 0 ∨ d = 2 then ((i % w : Nat) : Int) else ((i % w : Nat) : Int) - 1
  let y : Int := if d = 0 then ((i / w : Nat) : Int) - 1 else if d = 2 then ((i / w : Nat) : Int) + 1 else ((i / w : Nat) : Int)
  if (0 ≤ x ∧ x < (w : Int)) ∧ 0 ≤ y ∧ y < (h : Int) then (if openAt cs (y.toNat * w + x.toNat) = true then ((y.toNat * w + x.toNat : Nat) : Int) else -1) else -1
theorem ahead_pos {w h d a b : Nat} (hd : d < 4) (ha : a < lnM w h d) (hb : b < lnK w h d) (cs : List Int) :
    aheadI w h cs (pos w h d a b) d = if (decide (0 < b) && openAt cs (pos w h d a (b - 1))) = true then (pos w h d a (b - 1) : Int) else -1 := by
  obtain ⟨h1, h2, _⟩ := pos_lt hd ha hb
  have e1 : pos w h d a b % w = pX w d a b := place_mod h1
  have e2 : pos w h d a b / w = pY h d a b := place_div h1
  unfold aheadI
  rw [e1, e2]
  by_cases h0 : 0 < b
  · have hx : ∀ x y : Int, x = (pX w d a (b - 1) : Nat) → y = (pY h d a (b - 1) : Nat) → (if (0 ≤ x ∧ x < (w : Int)) ∧ 0 ≤ y ∧ y < (h : Int) then (if openAt cs (y.toNat * w + x.toNat) = true then ((y.toNat * w + x.toNat : Nat) : Int) else -1) else -1) = if (decide (0 < b) && openAt cs (pos w h d a (b - 1))) = true then (pos w h d a (b - 1) : Int) else -1 := by
      rintro x y rfl rfl
      obtain ⟨q1, q2, _⟩ := pos_lt hd ha (show b - 1 < lnK w h d by omega)
      rw [if_pos (by omega), Int.toNat_natCast, Int.toNat_natCast, decide_eq_true h0, Bool.true_and]
      rfl
    refine hx _ _ ?_ ?_
    · rcases dir4 hd with rfl | rfl | rfl | rfl <;> simp [lnM, lnK, pX] at * <;> omega
    · rcases dir4 hd with rfl | rfl | rfl | rfl <;> simp [lnM, lnK, pY] at * <;> omega
  · obtain rfl : b = 0 := by omega
    rw [if_neg (show ¬ ((decide (0 < 0) && openAt cs (pos w h d a (0 - 1))) = true) by simp)]
    refine if_neg ?_
    rcases dir4 hd with rfl | rfl | rfl | rfl <;> simp [lnM, lnK, pX, pY] at * <;> omega
theorem back_pos {w h d a b : Nat} (hd : d < 4) (ha : a < lnM w h d) (hb : b < lnK w h d) (cs : List Int) :
    aheadI w h cs (pos w h d a b) ((d + 2) % 4) = if (decide (b + 1 < lnK w h d) && openAt cs (pos w h d a (b + 1))) = true then (pos w h d a (b + 1) : Int) else -1 := by
  obtain ⟨h1, h2, _⟩ := pos_lt hd ha hb
  have e1 : pos w h d a b % w = pX w d a b := place_mod h1
  have e2 : pos w h d a b / w = pY h d a b := place_div h1
  unfold aheadI
  rw [e1, e2]
  by_cases h0 : b + 1 < lnK w h d
  · have hx : ∀ x y : Int, x = (pX w d a (b + 1) : Nat) → y = (pY h d a (b + 1) : Nat) → (if (0 ≤ x ∧ x < (w : Int)) ∧ 0 ≤ y ∧ y < (h : Int) then (if openAt cs (y.toNat * w + x.toNat) = true then ((y.toNat * w + x.toNat : Nat) : Int) else -1) else -1) = if (decide (b + 1 < lnK w h d) && openAt cs (pos w h d a (b + 1))) = true then (pos w h d a (b + 1) : Int) else -1 := by
      rintro x y rfl rfl
      obtain ⟨q1, q2, _⟩ := pos_lt hd ha h0
      rw [if_pos (by omega), Int.toNat_natCast, Int.toNat_natCast, decide_eq_true h0, Bool.true_and]
      rfl
    refine hx _ _ ?_ ?_
    · rcases dir4 hd with rfl | rfl | rfl | rfl <;> simp [lnM, lnK, pX] at * <;> omega
    · rcases dir4 hd with rfl | rfl | rfl | rfl <;> simp [lnM, lnK, pY] at * <;> omega
  · rw [if_neg (show ¬ ((decide (b + 1 < lnK w h d) && openAt cs (pos w h d a (b + 1))) = true) by simp [h0])]
    refine if_neg ?_
    rcases dir4 hd with rfl | rfl | rfl | rfl <;> simp [lnM, lnK, pX, pY] at * <;> omega
theorem end_ahead {w h d i : Nat} (hd : d < 4) (hi : i < w * h) (cs : List Int) : endD w h d cs i = (openAt cs i && decide (aheadI w h cs i d < 0)) := by
  obtain ⟨h1, h2, h3⟩ := inv_pos hd hi
  have e := ahead_pos hd h1 h2 cs
  rw [h3] at e
  unfold endD
  rw [e]
  cases hq : (decide (0 < lnB w h d i) && openAt cs (pos w h d (lnA w d i) (lnB w h d i - 1)))
  · rw [if_neg Bool.false_ne_true]; simp
  · rw [if_pos rfl]
    have : ¬ (((pos w h d (lnA w d i) (lnB w h d i - 1) : Nat) : Int) < 0) := by omega
    simp [this]
def bareL (l : List Int) : List Int := l.map fun c => if isBallC c = true then 46 else c
theorem bareL_length (l : List Int) : (bareL l).length = l.length := by simp [bareL]
theorem bareL_get {l : List Int} {i : Nat} (h : i < l.length) : (bareL l).getD i 0 = if ballAt l i = true then 46 else l.getD i 0 := by
  unfold ballAt
  rw [getD_at (by rw [bareL_length]; exact h), getD_at h]
  unfold bareL
  rw [List.getElem_map]
theorem ballAt_lt {cs : List Int} {i : Nat} (h : ballAt cs i = true) : i < cs.length := by
  rcases Nat.lt_or_ge i cs.length with h1 | h1
  · exact h1
  · unfold ballAt at h
    rw [List.getD_eq_getElem?_getD, List.getElem?_eq_none h1] at h
    exact absurd h (by decide)
def mvD (w h d : Nat) (cs : List Int) : List (Nat × Nat) := mvs (ballAt cs) (strD w h d cs)
def tiltD (w h d : Nat) (cs : List Int) : List Int := putAll cs (bareL cs) (mvD w h d cs)
theorem tiltD_length (w h d : Nat) (cs : List Int) : (tiltD w h d cs).length = cs.length := by unfold tiltD; rw [putAll_length, bareL_length]
section
variable {w h d : Nat} {cs : List Int}
theorem mv_snd (hd : d < 4) : ((mvD w h d cs).map Prod.snd).Nodup := (strD_Str hd cs).snd _
theorem mv_fst (hd : d < 4) : ((mvD w h d cs).map Prod.fst).Nodup := (strD_Str hd cs).fst _
theorem mem_mvs {b : Nat → Bool} {S : List (List Nat)} {p : Nat × Nat} : p ∈ mvs b S ↔ ∃ st ∈ S, p ∈ (st.filter b).zip st := List.mem_flatMap
theorem mv_mem (hd : d < 4) {p : Nat × Nat} (hp : p ∈ mvD w h d cs) : p.1 < w * h ∧ ballAt cs p.1 = true ∧ p.2 < w * h ∧ openAt cs p.2 = true := by
  obtain ⟨st, hs, hz⟩ := mem_mvs.1 hp
  have h1 := (List.of_mem_zip hz).1
  have h2 := (List.of_mem_zip hz).2
  obtain ⟨h3, h4⟩ := List.mem_filter.1 h1
  have a1 := (strD_mem hd).1 (List.mem_flatten.2 ⟨st, hs, h3⟩)
  have a2 := (strD_mem hd).1 (List.mem_flatten.2 ⟨st, hs, h2⟩)
  exact ⟨a1.1, h4, a2.1, a2.2⟩
theorem fst_inj {m : List (Nat × Nat)} (hn : (m.map Prod.fst).Nodup) {p q : Nat × Nat} (hp : p ∈ m) (hq : q ∈ m) (e : p.1 = q.1) : p = q := by
  induction m with
  | nil => cases hp
  | cons a m ih =>
    rw [List.map_cons, List.nodup_cons] at hn
    rcases List.mem_cons.1 hp with e1 | hp'
    · rcases List.mem_cons.1 hq with e2 | hq'
      · rw [e1, e2]
      · exact absurd (List.mem_map.2 ⟨q, hq', by rw [← e, e1]⟩) hn.1
    · rcases List.mem_cons.1 hq with e2 | hq'
      · exact absurd (List.mem_map.2 ⟨p, hp', by rw [e, e2]⟩) hn.1
      · exact ih hn.2 hp' hq'
theorem tilt_to (hd : d < 4) (hl : cs.length = w * h) {p : Nat × Nat} (hp : p ∈ mvD w h d cs) : (tiltD w h d cs).getD p.2 0 = cs.getD p.1 0 :=
  putAll_at cs _ _ (mv_snd hd) hp (by rw [bareL_length, hl]; exact (mv_mem hd hp).2.2.1)
theorem tilt_far {i : Nat} (hi : i < cs.length) (hp : ∀ p ∈ mvD w h d cs, p.2 ≠ i) : (tiltD w h d cs).getD i 0 = if ballAt cs i = true then 46 else cs.getD i 0 := by
  unfold tiltD
  rw [putAll_far cs _ _ hp, bareL_get hi]
theorem tilt_cell (hd : d < 4) (hl : cs.length = w * h) {i : Nat} (hi : i < w * h) :
    (∃ k, (k, i) ∈ mvD w h d cs ∧ (tiltD w h d cs).getD i 0 = cs.getD k 0 ∧ ballAt cs k = true) ∨ ((∀ p ∈ mvD w h d cs, p.2 ≠ i) ∧ (tiltD w h d cs).getD i 0 = (if ballAt cs i = true then 46 else cs.getD i 0) ∧ ballAt (tiltD w h d cs) i = false) := by
  by_cases hex : ∃ p ∈ mvD w h d cs, p.2 = i
  · obtain ⟨p, hp, rfl⟩ := hex
    exact .inl ⟨p.1, hp, tilt_to hd hl hp, (mv_mem hd hp).2.1⟩
  · have hp : ∀ p ∈ mvD w h d cs, p.2 ≠ i := fun p hp e => hex ⟨p, hp, e⟩
    have e := tilt_far (cs := cs) (by rw [hl]; exact hi) hp
    refine .inr ⟨hp, e, ?_⟩
    unfold ballAt
    rw [e]
    by_cases hb : ballAt cs i = true
    · rw [if_pos hb]; rfl
    · rw [if_neg hb]; unfold ballAt at hb; simpa using hb
theorem tilt_ball (hd : d < 4) (hl : cs.length = w * h) {i : Nat} : ballAt (tiltD w h d cs) i = true ↔ i ∈ (mvD w h d cs).map Prod.snd := by
  constructor
  · intro hb
    have hi : i < w * h := by have := ballAt_lt hb; rw [tiltD_length, hl] at this; exact this
    rcases tilt_cell hd hl hi with ⟨k, hk, _⟩ | ⟨_, _, hf⟩
    · exact List.mem_map.2 ⟨_, hk, rfl⟩
    · rw [hf] at hb; cases hb
  · intro hi
    obtain ⟨p, hp, rfl⟩ := List.mem_map.1 hi
    unfold ballAt
    rw [tilt_to hd hl hp]
    exact (mv_mem hd hp).2.1
end
def tiltG (d : Nat) (g : (Nat × Nat × List Int)) : (Nat × Nat × List Int) := (g.1, g.2.1, tiltD g.1 g.2.1 d g.2.2)
theorem tiltG_V {g : (Nat × Nat × List Int)} (v : Vg g) {d : Nat} (hd : d < 4) : Vg (tiltG d g) := by
  have hl : g.2.2.length = g.1 * g.2.1 := v.len
  have hl' : (tiltG d g).2.2.length = g.1 * g.2.1 := by show (tiltD g.1 g.2.1 d g.2.2).length = _; rw [tiltD_length, hl]
  refine ⟨v.w1, v.w7, v.h1, v.h7, hl', v.small, ?_, ?_⟩
  · intro c hc
    obtain ⟨i, hi, rfl⟩ := List.mem_iff_getElem.1 hc
    have hi' : i < g.1 * g.2.1 := by rw [← hl']; exact hi
    have e0 : (tiltG d g).2.2[i] = (tiltD g.1 g.2.1 d g.2.2).getD i 0 := (getD_at hi).symm
    rw [e0]
    rcases tilt_cell hd hl hi' with ⟨k, hk, e, hb⟩ | ⟨_, e, _⟩
    · rw [e, getD_at (ballAt_lt hb)]; exact v.cell _ (List.getElem_mem _)
    · rw [e]
      split
      · rfl
      · rw [getD_at (by rw [hl]; exact hi')]; exact v.cell _ (List.getElem_mem _)
  · intro i hi j hj e
    rcases hb : isNameC ((tiltG d g).2.2.getD i 0) with _ | _
    · rfl
    · exfalso
      have hi' : i < g.1 * g.2.1 := by rw [← hl']; exact hi
      have hB : ∀ {c : Int}, isNameC c = true → isBallC c = true := fun h => by unfold isBallC; rw [h, Bool.or_true]
      have b1 : ballAt (tiltD g.1 g.2.1 d g.2.2) i = true := hB hb
      have b2 : ballAt (tiltD g.1 g.2.1 d g.2.2) j = true := hB (by rw [← hb]; exact congrArg isNameC e)
      obtain ⟨p, hp, hp2⟩ := List.mem_map.1 ((tilt_ball hd hl).1 b1)
      obtain ⟨q, hq, hq2⟩ := List.mem_map.1 ((tilt_ball hd hl).1 b2)
      have e1 := tilt_to hd hl hp
      have e2 := tilt_to hd hl hq
      rw [hp2] at e1
      rw [hq2] at e2
      have e3 : g.2.2.getD p.1 0 = g.2.2.getD q.1 0 := by rw [← e1, ← e2]; exact e.symm
      have hname : isNameC (g.2.2.getD p.1 0) = true := by rw [← e1]; exact hb
      have l1 : p.1 < g.2.2.length := by rw [hl]; exact (mv_mem hd hp).1
      have l2 : q.1 < g.2.2.length := by rw [hl]; exact (mv_mem hd hq).1
      rcases Nat.lt_trichotomy p.1 q.1 with h1 | h1 | h1
      · have := v.names q.1 l2 p.1 h1 e3
        rw [← e3, hname] at this; cases this
      · have := fst_inj (mv_fst hd) hp hq h1
        subst this
        omega
      · have := v.names p.1 l1 q.1 h1 e3.symm
        rw [hname] at this; cases this
section
variable {w h d : Nat} {cs : List Int}
end
def runD (w h : Nat) (cs : List Int) : List Nat → List Int
  | [] => cs
  | d :: ds => runD w h (tiltD w h d cs) ds
theorem runD_length (w h : Nat) : ∀ (ds : List Nat) (cs : List Int), (runD w h cs ds).length = cs.length
  | [], cs => rfl
  | d :: ds, cs => by unfold runD; rw [runD_length w h ds, tiltD_length]
theorem runD_snoc (w h : Nat) (d : Nat) : ∀ (ds : List Nat) (cs : List Int), runD w h cs (ds ++ [d]) = tiltD w h d (runD w h cs ds)
  | [], cs => rfl
  | e :: ds, cs => by
    show runD w h (tiltD w h e cs) (ds ++ [d]) = _
    rw [runD_snoc w h d ds]; rfl
def only (cs : List Int) (c : Int) (k : Nat) : Prop := ∀ i, i < cs.length → (cs.getD i 0 = c ↔ i = k)
def grow (l : List (List Nat)) : List (List Nat) := l.flatMap fun u => [0, 1, 2, 3].map fun d => u ++ [d]
end Go.Proofs.YtdffgeoegdkiaaaGreatDoor

namespace Go.Proofs.YtdffgeoegdkiaaaGreatDoor.F
open Go.Proofs.YtdffgeoegdkiaaaGreatDoor
open Go.RowKit Go.Proofs.YtdffgeoegdkiaaaGreatDoorW.PrintWords Go.Proofs.YtdffgeoegdkiaaaGreatDoorW.PrintLast Go.Proofs.YtdffgeoegdkiaaaGreatDoorW.PrintMore
attribute [local go_sem] max2_int min2_int max_two min_two max_three min_three max_four min_four   -- for this text's walks alone
set_option linter.unusedVariables false
set_option linter.unusedSimpArgs false
def impl_tray_number.f (a0_0 : Int) (a0_1 : Int) (l0_2 : List Int) (a1 : Int) (a2 : Int) : Option (Int) := some (wrap64 ((wrap64 (a2 * a0_0)) + a1))
set_option maxHeartbeats 8000000 in
set_option maxRecDepth 100000 in
theorem impl_tray_number.calls (a0_0 : Int) (a0_1 : Int) (A0_2 : Option Addr) (c0_2 : Nat) (l0_2 : List Int) (a1 : Int) (a2 : Int) (r : Int) (w : World) (hr0_2 : Kd.C (Kd.int .u8) w A0_2 l0_2.length l0_2) (hc0_2 : l0_2.length ≤ c0_2) (h : impl_tray_number.f a0_0 a0_1 l0_2 a1 a2 = some r) :
  Calls Tryz.prog 214 #[.agg #[.int .i64 a0_0, .int .i64 a0_1, .slice A0_2 l0_2.length c0_2], .int .i64 a1, .int .i64 a2] w fun e w' => e = .returned (.int .i64 r) ∧ Below w.heap.size w w' := by
 have hu93 := Tryz.underlying93
 have HR0_2 := am hr0_2
 have HC0_2 := am hc0_2
 clear hr0_2 hc0_2
 have HB := am (Below.refl w.heap.size w)
 have H : (some (wrap64 ((wrap64 (a2 * a0_0)) + a1))) = some r := h
 clear h
 obtain rfl := Option.some.inj H
 go_enter Tryz.func214, Tryz.ntmps214
 go_wp2_with (first | ((with_reducible refine gate_dst (N := 3) rfl ?_); refine box_event ?hg (N := 3) ?hd (cs := #[.int .i64 a0_0, .int .i64 a0_1, .slice A0_2 l0_2.length c0_2]) (t := 93) ?hr ?_; (case hd => rfl); (case hg => rfl); (case hr => exact aq9); intro gb101 hg w4 hbox hb; have n0_ := am (below_step aq1 hb); have n1_ := am (hbox); have n2_ := am ((by rw [hg]; exact (below_size aq1) : w.heap.size ≤ gb101)); have n3_ := am ((by rw [hg]; exact (below_size aq1) : w.heap.size ≤ gb101)); clear HB; have HB := n0_; have BK101 := n1_; have GW101 := n2_; have GE101 := n3_; clear n0_ n1_ n2_ n3_; clear hb hbox hg; have hcz5_0 : w4.cell? ⟨gb101, 0, none⟩ = some (.int .i64 a0_0) := (blk_cell BK101.out 0).trans rfl; have hcz5_1 : w4.cell? ⟨gb101, 1, none⟩ = some (.int .i64 a0_1) := (blk_cell BK101.out 1).trans rfl; have hcz5_2 : w4.cell? ⟨gb101, 2, none⟩ = some (.slice A0_2 l0_2.length c0_2) := (blk_cell BK101.out 2).trans rfl; have hfz5_0 := blk_frozen BK101.out 0; have hfz5_1 := blk_frozen BK101.out 1; have hfz5_2 := blk_frozen BK101.out 2))
 go_ret
 exact ⟨aq7, aq0⟩
def slices_Reverse_int_int.l0 : Nat → List Int → Int → Int → Option (List Int)
 | 0, _, _, _ => none
 | k + 1, x0, x2, x3 => if x2 < x3 then (if 0 ≤ x3 then (if x3 < (x0.length : Int) then (if 0 ≤ x2 then (if x2 < (x0.length : Int) then (slices_Reverse_int_int.l0 k ((x0.set (x2 : Int).toNat (rd x0 x3)).set (x3 : Int).toNat (rd x0 x2)) (wrap64 (x2 + 1)) (wrap64 (x3 - 1))) else (none)) else (none)) else (none)) else (none)) else (some x0)
def slices_Reverse_int_int.f (k : Nat) (l0 : List Int) : Option (List Int) := slices_Reverse_int_int.l0 k l0 0 (wrap64 ((l0.length : Int) - 1))
theorem slices_Reverse_int_int.mono_l : ∀ k, (∀ y0 y1 y2, LeO (slices_Reverse_int_int.l0 k y0 y1 y2) (slices_Reverse_int_int.l0 (k + 1) y0 y1 y2))
 | 0 => fun _ _ _ r h => by simp [slices_Reverse_int_int.l0] at h
 | k + 1 => by
  have ih0 := slices_Reverse_int_int.mono_l k
  ·intro y0 y1 y2
   unfold slices_Reverse_int_int.l0
   repeat' first
   | (with_reducible exact ih0 _ _ _)
   | (with_reducible exact LeO.refl _)
   | (with_reducible exact LeO.none _)
   | (with_reducible refine LeO.ite ?_ ?_)
   | (with_reducible refine LeO.bind ?_ (fun _ => ?_))
   | exact ih0 _ _ _
   | exact LeO.none _
   | refine LeO.ite ?_ ?_
   | refine LeO.bind ?_ (fun _ => ?_)
theorem slices_Reverse_int_int.mono : ∀ a0 k, LeO (slices_Reverse_int_int.f k a0) (slices_Reverse_int_int.f (k + 1) a0) := by
 intro a0 k
 have ih0 := slices_Reverse_int_int.mono_l k
 unfold slices_Reverse_int_int.f
 repeat' first
   | (with_reducible exact ih0 _ _ _)
   | (with_reducible exact LeO.refl _)
   | (with_reducible exact LeO.none _)
   | (with_reducible refine LeO.ite ?_ ?_)
   | (with_reducible refine LeO.bind ?_ (fun _ => ?_))
   | exact ih0 _ _ _
   | exact LeO.none _
   | refine LeO.ite ?_ ?_
   | refine LeO.bind ?_ (fun _ => ?_)
def slices_Reverse_int_int.T3 : Bool × List (List Nat × List Nat) := (true, [([], []), ([], []), ([], []), ([], []), ([], []), ([], []), ([4, 5], [4, 5]), ([6], [6]), ([], []), ([], []), ([8, 9], [8, 9]), ([10], [10]), ([0, 1, 0, 1, 4, 5, 6, 7, 11], [0, 1]), ([12, 7, 0, 1, 4, 5, 6, 7, 11], [7, 12]), ([2, 3, 0, 1, 2, 3, 4, 5, 6, 7, 8, 9, 10, 11, 12, 13], [2, 3]), ([14, 11, 13, 0, 1, 2, 3, 4, 5, 6, 7, 8, 9, 10, 11, 12, 13], [11, 14])])
def slices_Reverse_int_int.B3 : List Nat := [0, 0, 0, 0, 0, 0, 48, 112, 0, 0, 768, 1792, 4083, 8179, 16383, 32767]
theorem slices_Reverse_int_int.tab3 : rtab .any (opsOf Tryz.f215 3) = slices_Reverse_int_int.T3 := by kernel_rfl
theorem slices_Reverse_int_int.bits3 : waitsOk slices_Reverse_int_int.T3.2 slices_Reverse_int_int.B3 = true := by kernel_rfl
set_option maxHeartbeats 8000000 in
set_option maxRecDepth 100000 in
theorem slices_Reverse_int_int.calls (k : Nat) (P0_ : Nat → Prop) (u9000_ : Value) (l0 : List Int) (r : List Int) (w0 w : World) (hB : Below w0.heap.size w0 w) (ho0 : Kd.R (Kd.int .i64) 3 w w0.heap.size P0_ u9000_ l0) (h : slices_Reverse_int_int.f k l0 = some r) :
  Calls Tryz.prog 215 #[u9000_] w fun e w' => e = .returned (.tuple #[]) ∧ Kd.R (Kd.int .i64) 3 w' w0.heap.size (fun k_ => (P0_ k_ ∨ w.heap.size ≤ k_)) u9000_ r ∧ Below w0.heap.size w0 w' ∧ Kept w w' (fun k_ => P0_ k_) := by
 have HO0 := am (show Kd.R (Kd.int .i64) 3 w w0.heap.size (fun k_ => (P0_ k_ ∨ w.heap.size ≤ k_)) u9000_ l0 from Kd.R_mono ho0 (fun k_ hk => (.inl hk)))
 have HK := am (Kept.refl w (fun k_ => P0_ k_))
 have HW0 := am hB.size
 have HB := am hB
 clear hB
 have H : (slices_Reverse_int_int.l0 k l0 0 (wrap64 ((l0.length : Int) - 1))) = some r := h
 clear h
 have H' := am H
 clear H
 obtain ⟨Ao2, co2, eo2⟩ := Kd.R_slice HO0.out
 subst eo2
 go_enter Tryz.func215, Tryz.ntmps215
 go_wp2
 go_loopg [2, 3] k (fun kq v2 v3 w' => ∃ (x0_1 : List Int) (x2_1 : Int) (x3_1 : Int), v2 = .int .i64 x2_1 ∧ v3 = .int .i64 x3_1 ∧ Aside0 (slices_Reverse_int_int.l0 kq x0_1 x2_1 x3_1 = some r) ∧ Aside0 (kq ≤ k) ∧ Aside0 (Kd.R (Kd.int .i64) 3 w' w0.heap.size (fun k_ => (P0_ k_ ∨ w.heap.size ≤ k_)) (.slice Ao2 l0.length co2) x0_1) ∧ Aside0 (Kept w w' (fun k_ => P0_ k_)) ∧ Aside0 (Below w0.heap.size w0 w'))
 case atStart => exact ⟨(l0), (0), (wrap64 ((l0.length : Int) - 1)), aq8, aq8, H', ⟨Nat.le_refl _⟩, ⟨by (with_reducible repeat (first | apply Kd.R_alloc | apply Kd.R_drewN | apply Kd.R_drew)); exact HO0.out⟩, ⟨aq26⟩, ⟨aq1⟩⟩
 case round =>
  clear H'
  try clear c2
  try clear p2
  obtain ⟨x0_1, x2_1, x3_1, rfl, rfl, HA, HK1, HO_0, HK, HB⟩ := hrel
  have hl0_1 := (Kd.R_reads' HO_0.out).1
  rw [hl0_1] at HO_0
  (try simp only [hl0_1])
  cases gk with
  | zero => exact absurd HA.out (by simp [slices_Reverse_int_int.l0])
  | succ k1 =>
   have H := HA.out
   clear HA
   simp only [slices_Reverse_int_int.l0] at H
   by_cases c3 : x2_1 < x3_1
   ·rw [if_pos c3] at H
    have c3b0 : decide (x2_1 < x3_1) = true := decide_eq_true c3
    clear c3
    by_cases c4 : 0 ≤ x3_1
    ·rw [if_pos c4] at H
     have c4b0 : decide (0 ≤ x3_1) = true := decide_eq_true c4
     clear c4
     by_cases c5 : x3_1 < (x0_1.length : Int)
     ·rw [if_pos c5] at H
      have c5b0 : decide (x3_1 < (x0_1.length : Int)) = true := decide_eq_true c5
      clear c5
      by_cases c6 : 0 ≤ x2_1
      ·rw [if_pos c6] at H
       have c6b0 : decide (0 ≤ x2_1) = true := decide_eq_true c6
       clear c6
       by_cases c7 : x2_1 < (x0_1.length : Int)
       ·rw [if_pos c7] at H
        have c7b0 : decide (x2_1 < (x0_1.length : Int)) = true := decide_eq_true c7
        clear c7
        obtain ⟨y103, hy103⟩ : ∃ y_ : List Int, y_ = (x0_1.set (x2_1 : Int).toNat (rd x0_1 x3_1)) := ⟨_, rfl⟩
        replace H : (slices_Reverse_int_int.l0 k1 (y103.set (x3_1 : Int).toNat (rd x0_1 x2_1)) (wrap64 (x2_1 + 1)) (wrap64 (x3_1 - 1))) = some r := by first | (rw [hy103]; with_reducible exact H) | (have H2_ := (Option.bind_some _ _).symm.trans H; rw [hy103]; with_reducible exact H2_) | (have H2_ := (Option.bind_some _ _).symm.trans H; with_reducible exact H2_) | with_reducible exact H | (rw [hy103]; exact H) | exact H
        have Ny103 := am hy103
        clear hy103
        obtain ⟨y104, hy104⟩ : ∃ y_ : List Int, y_ = (y103.set (x3_1 : Int).toNat (rd x0_1 x2_1)) := ⟨_, rfl⟩
        replace H : (slices_Reverse_int_int.l0 k1 y104 (wrap64 (x2_1 + 1)) (wrap64 (x3_1 - 1))) = some r := by first | (rw [hy104]; with_reducible exact H) | (have H2_ := (Option.bind_some _ _).symm.trans H; rw [hy104]; with_reducible exact H2_) | (have H2_ := (Option.bind_some _ _).symm.trans H; with_reducible exact H2_) | with_reducible exact H | (rw [hy104]; exact H) | exact H
        have Ny104 := am hy104
        clear hy104
        have H' := am H
        clear H
        try go_wp2
        have n0_ := am (Kd.R_drew HO_0.out)
        have n1_ := am (Kept.drew HK.out)
        have n2_ := am (below_drew1 HB.out)
        clear HO_0
        clear HK
        clear HB
        have HO_0 := n0_
        have HK := n1_
        have HB := n2_
        clear n0_ n1_ n2_
        have p101 : 0 ≤ (x3_1 : Int) := of_decide_eq_true aq5
        have q101 : x3_1 < (x0_1.length : Int) := of_decide_eq_true aq5
        obtain ⟨ad101, e101, hx101_0⟩ := Kd.at_int (Kd.R_reads' HO_0.out).2.2 x3_1 p101 q101
        cases e101
        replace p101 := eq_true p101
        replace q101 := eq_true q101
        have p102 : 0 ≤ (x2_1 : Int) := of_decide_eq_true aq5
        have q102 : x2_1 < (x0_1.length : Int) := of_decide_eq_true aq5
        obtain ⟨ad102, e102, hx102_0⟩ := Kd.at_int (Kd.R_reads' HO_0.out).2.2 x2_1 p102 q102
        obtain rfl : ad101 = ad102 := (by injection e102)
        replace p102 := eq_true p102
        replace q102 := eq_true q102
        have p8 : 0 ≤ (x2_1 : Int) := of_decide_eq_true aq5
        have q8 : (x2_1 : Int) < ((x0_1.length : Int) : Int) := of_decide_eq_true aq5
        obtain ⟨go8, co8, eo8, gb8, gl8, cl8, HG8⟩ := Kd.R_form HO_0.out (by omega)
        (first | cases eo8 | (injection eo8 with ea_ en_ ec_; (first | subst ea_ | (injection ea_ with ea_; subst ea_)); subst ec_; clear en_))
        have GB8 := am gb8
        have GG8 := am HG8
        clear gb8 gl8 HG8
        have HMgo8 := am (show (P0_ go8 ∨ w.heap.size ≤ go8) from (HO_0.out.1 _ rfl))
        (first | simp only [add_plain] at hx101_0 | skip)
        (first | simp only [add_plain] at hx102_0 | skip)
        obtain ⟨hx8_0, hf8_0⟩ := Kd.R_celln 0 HO_0.out (x2_1 : Int) p8 q8
        replace p8 := eq_true p8
        replace q8 := eq_true q8
        have HP11 := Kd.R_putn HO_0.out (x2_1 : Int) (rd x0_1 x3_1)
        rw [← Ny103.out] at HP11
        have HQ11 := am HP11
        clear HP11
        have p9 : 0 ≤ (x3_1 : Int) := of_decide_eq_true aq5
        have q9 : (x3_1 : Int) < ((x0_1.length : Int) : Int) := of_decide_eq_true aq5
        obtain ⟨hx9_0, hf9_0⟩ := Kd.R_celln 0 HQ11.out (x3_1 : Int) p9 q9
        replace p9 := eq_true p9
        replace q9 := eq_true q9
        have HP12 := Kd.R_putn HQ11.out (x3_1 : Int) (rd x0_1 x2_1)
        rw [← Ny104.out] at HP12
        have HQ12 := am HP12
        clear HP12
        refine start_ (n := 16) (S := fun w' => w'.cell? ⟨go8, (x3_1).toNat, none⟩ = some (.int .i64 (rd x0_1 x3_1)) ∧ w'.cell? ⟨go8, (x2_1).toNat, none⟩ = some (.int .i64 (rd x0_1 x2_1))) (ds := [13, 15]) #[false, false, false, false, false, false, false, false, false, false, false, false, false, false, false, false] (by kernel_rfl) rfl rfl ⟨hx101_0, hx102_0⟩ (fun hHeld => ?_); refine with_tabW slices_Reverse_int_int.tab3 slices_Reverse_int_int.bits3 (fun HT_ HW_ => ?_)
        generalize wr.drew = w10 at HO_0 HK HB GG8 HQ11 HQ12 hf8_0 hf9_0 hx101_0 hx102_0 hx8_0 hx9_0 hHeld ⊢
        refine pure_ (i := 0) (N := some 14) (v := ?_) (a' := ?_) (bm 16 1) rfl rfl (any_of HT_.out (by kernel_rfl)) (fun _ _ _ h => h) (Or.inl ⟨by rfl, ?_⟩) ?_ ?_
        rotate_left
        ·intro w'
         go_simp
         with_reducible rfl
        rotate_left
        ·simp only [Act.put, ac_]
         rfl
        refine pure_ (i := 1) (N := some 15) (v := ?_) (a' := ?_) (bm 16 3) rfl rfl (any_of HT_.out (by kernel_rfl)) (fun _ _ _ h => h) (Or.inl ⟨by rfl, ?_⟩) ?_ ?_
        rotate_left
        ·intro w'
         go_simp
         with_reducible rfl
        rotate_left
        ·simp only [Act.put, ac_]
         rfl
        refine pure_ (i := 2) (N := some 16) (v := ?_) (a' := ?_) (bm 16 7) rfl rfl (any_of HT_.out (by kernel_rfl)) (fun _ _ _ h => h) (Or.inl ⟨by rfl, ?_⟩) ?_ ?_
        rotate_left
        ·intro w'
         go_simp
         with_reducible rfl
        rotate_left
        ·simp only [Act.put, ac_]
         rfl
        refine pure_ (i := 3) (N := some 17) (v := ?_) (a' := ?_) (bm 16 15) rfl rfl (any_of HT_.out (by kernel_rfl)) (fun _ _ _ h => h) (Or.inl ⟨by rfl, ?_⟩) ?_ ?_
        rotate_left
        ·intro w'
         go_simp
         with_reducible rfl
        rotate_left
        ·simp only [Act.put, ac_]
         rfl
        refine pure_ (i := 4) (N := some 18) (v := ?_) (a' := ?_) (bm 16 31) rfl rfl (any_of HT_.out (by kernel_rfl)) (fun _ _ _ h => h) (Or.inl ⟨by rfl, ?_⟩) ?_ ?_
        rotate_left
        ·intro w'
         go_simp
         with_reducible rfl
        rotate_left
        ·simp only [Act.put, ac_]
         rfl
        refine pure_ (i := 5) (N := some 19) (v := ?_) (a' := ?_) (bm 16 63) rfl rfl (any_of HT_.out (by kernel_rfl)) (fun _ _ _ h => h) (Or.inl ⟨by rfl, ?_⟩) ?_ ?_
        rotate_left
        ·intro w'
         go_simp
         with_reducible rfl
        rotate_left
        ·simp only [Act.put, ac_]
         rfl
        refine pure_ (i := 6) (N := some 20) (v := ?_) (a' := ?_) (bm 16 127) rfl rfl (any_of HT_.out (by kernel_rfl)) (fun _ _ _ h => h) (Or.inl ⟨by rfl, ?_⟩) ?_ ?_
        rotate_left
        ·intro w'
         go_simp
         with_reducible rfl
        rotate_left
        ·simp only [Act.put, ac_]
         rfl
        refine pure_ (i := 8) (N := some 22) (v := ?_) (a' := ?_) (bm 16 383) rfl rfl (any_of HT_.out (by kernel_rfl)) (fun _ _ _ h => h) (Or.inl ⟨by rfl, ?_⟩) ?_ ?_
        rotate_left
        ·intro w'
         go_simp
         with_reducible rfl
        rotate_left
        ·simp only [Act.put, ac_]
         rfl
        refine pure_ (i := 9) (N := some 23) (v := ?_) (a' := ?_) (bm 16 895) rfl rfl (any_of HT_.out (by kernel_rfl)) (fun _ _ _ h => h) (Or.inl ⟨by rfl, ?_⟩) ?_ ?_
        rotate_left
        ·intro w'
         go_simp
         with_reducible rfl
        rotate_left
        ·simp only [Act.put, ac_]
         rfl
        refine pure_ (i := 10) (N := some 24) (v := ?_) (a' := ?_) (bm 16 1919) rfl rfl (any_of HT_.out (by kernel_rfl)) (fun _ _ _ h => h) (Or.inl ⟨by rfl, ?_⟩) ?_ ?_
        rotate_left
        ·intro w'
         go_simp
         with_reducible rfl
        rotate_left
        ·simp only [Act.put, ac_]
         rfl
        refine take_ (i := 7) (N := some 21) (v := ?_) (a' := ?_) (bm 16 2047) rfl rfl (take_ofW HT_.out HW_.out (by kernel_rfl)) (fun _ _ _ h => h) (Or.inl ⟨by rfl, ?_⟩) hHeld ?_ ?_
        rotate_left
        ·rintro w' ⟨s0, s1⟩
         go_simp
         with_reducible rfl
        rotate_left
        ·simp only [Act.put, ac_]
         rfl
        refine take_ (i := 11) (N := some 25) (v := ?_) (a' := ?_) (bm 16 4095) rfl rfl (take_ofW HT_.out HW_.out (by kernel_rfl)) (fun _ _ _ h => h) (Or.inl ⟨by rfl, ?_⟩) hHeld ?_ ?_
        rotate_left
        ·rintro w' ⟨s0, s1⟩
         go_simp
         with_reducible rfl
        rotate_left
        ·simp only [Act.put, ac_]
         rfl
        refine pure_ (i := 12) (N := some 26) (v := ?_) (a' := ?_) (bm 16 8191) rfl rfl (any_of HT_.out (by kernel_rfl)) (fun _ _ _ h => h) (Or.inl ⟨by rfl, ?_⟩) ?_ ?_
        rotate_left
        ·intro w'
         go_simp
         with_reducible rfl
        rotate_left
        ·simp only [Act.put, ac_]
         rfl
        refine last_ (i := 13) (N := none) (bm 16 16383) rfl rfl (one_of HT_.out (by kernel_rfl)) (by decide) (fun K hK => ?_)
        refine skip_ (w1 := ?_) (by rfl) rfl ?_ ?_
        rotate_left
        ·go_simp
         rfl
        refine hK.out _ _ ?_
        clear hK K
        refine pure_ (i := 14) (N := some 27) (v := ?_) (a' := ?_) (bm 16 32767) rfl rfl (any_of HT_.out (by kernel_rfl)) (fun _ _ _ h => h) (Or.inl ⟨by rfl, ?_⟩) ?_ ?_
        rotate_left
        ·intro w'
         go_simp
         with_reducible rfl
        rotate_left
        ·simp only [Act.put, ac_]
         rfl
        refine last_ (i := 15) (N := none) (bm 16 65535) rfl rfl (one_of HT_.out (by kernel_rfl)) (by decide) (fun K hK => ?_)
        refine skip_ (w1 := ?_) (by rfl) rfl ?_ ?_
        rotate_left
        ·go_simp
         rfl
        refine hK.out _ _ ?_
        clear hK K
        refine done_ (done_of HT_.out (by kernel_rfl)) ?_
        try go_wp2
        (try simp only [← hl0_1])
        go_roundg k1
        case measure => have := HK1.out; omega
        case rel => exact ⟨(y104), (wrap64 (x2_1 + 1)), (wrap64 (x3_1 - 1)), aq8, aq8, H', ⟨aq48⟩, ⟨by (try simp only [hl0_1]); (with_reducible repeat (first | apply Kd.R_alloc | apply Kd.R_drewN | apply Kd.R_drew)); exact HQ12.out⟩, ⟨by repeat (first | (with_reducible first | exact HK.out | apply Kept.alloc | apply Kept.drewN | apply Kept.drew | refine Kept.setCell ?_ HMgo8.out _ | refine Kept.setCell ?_ HMgo8.out _) | exact HK.out)⟩, ⟨by repeat (first | (with_reducible first | exact HB.out | apply below_alloc | apply pw_below_drewN | apply below_drew1 | refine below_set ?_ GB8.out | refine below_set ?_ GB8.out) | exact HB.out)⟩⟩
       ·rw [if_neg c7] at H
        exact absurd H (by simp)
      ·rw [if_neg c6] at H
       exact absurd H (by simp)
     ·rw [if_neg c5] at H
      exact absurd H (by simp)
    ·rw [if_neg c4] at H
     exact absurd H (by simp)
   ·rw [if_neg c3] at H
    have c3b0 : decide (x2_1 < x3_1) = false := decide_eq_false c3
    clear c3
    obtain rfl := Option.some.inj H
    go_wp2
    first | go_end0 | ((try simp only [Exit.inBlock, Exit.then]); refine bodyPost_ret (results_none rfl _ _ _) rfl ?_)
    exact ⟨aq7, (by first | exact aq39 | (simp only [hl0_1]; exact aq39)), aq1, aq26⟩
end Go.Proofs.YtdffgeoegdkiaaaGreatDoor.F
