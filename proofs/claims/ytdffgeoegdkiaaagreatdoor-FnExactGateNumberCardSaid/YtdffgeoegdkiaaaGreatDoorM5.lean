/- The proof that the law's row holds, part 5: the kit's words, the printed walks and the plain law. No conditions beyond the card's own. -/
import Derived.Test.YtdffgeoegdkiaaaGreatDoorM0
import Derived.Test.YtdffgeoegdkiaaaGreatDoorM1
import Derived.Test.YtdffgeoegdkiaaaGreatDoorM2
import Derived.Test.YtdffgeoegdkiaaaGreatDoorM3
import Derived.Test.YtdffgeoegdkiaaaGreatDoorM4
namespace Go.Proofs.YtdffgeoegdkiaaaGreatDoor.F
open Go.RowKit Go.Proofs.YtdffgeoegdkiaaaGreatDoor Go.Proofs.YtdffgeoegdkiaaaGreatDoorW.PrintWords Go.Proofs.YtdffgeoegdkiaaaGreatDoorW.PrintMore
set_option linter.unusedVariables false
set_option linter.unusedSimpArgs false
theorem shr_and : ∀ n : Fin 8, ∀ s : Fin 3, Go.bits .and .i64 (shr .i64 ((n.1 : Nat) : Int) ((s.1 : Nat) : Int)) 1 = ((n.1 / 2 ^ s.1 % 2 : Nat) : Int) := by decide
theorem shr_mod : ∀ n : Fin 8, ∀ s : Fin 3, Int.tmod (shr .i64 ((n.1 : Nat) : Int) ((s.1 : Nat) : Int)) 2 = ((n.1 / 2 ^ s.1 % 2 : Nat) : Int) := by decide
theorem shl_one : ∀ n : Fin 4, shl .i64 1 ((n.1 : Nat) : Int) = ((2 ^ n.1 : Nat) : Int) := by decide
def setIn (cs l : List Int) (n m : Nat) : List Int := (List.range m).foldl (fun o i => if n / 2 ^ (l.length - 1 - i) % 2 = 1 then o.set (l.getD i 0).toNat 111 else o) cs
theorem setIn_succ (cs l : List Int) (n m : Nat) : setIn cs l n (m + 1) = if n / 2 ^ (l.length - 1 - m) % 2 = 1 then (setIn cs l n m).set (l.getD m 0).toNat 111 else setIn cs l n m := by
  unfold setIn; rw [List.range_succ, List.foldl_append]; rfl
theorem setIn_length (cs l : List Int) (n : Nat) : ∀ m, (setIn cs l n m).length = cs.length
  | 0 => rfl
  | m + 1 => by
    rw [setIn_succ]
    split
    · rw [List.length_set, setIn_length cs l n m]
    · exact setIn_length cs l n m
def outN (cs l : List Int) (m : Nat) : Nat := (List.range m).foldl (fun a i => 2 * a + if ballAt cs (l.getD i 0).toNat = true then 1 else 0) 0
theorem outN_succ (cs l : List Int) (m : Nat) : outN cs l (m + 1) = 2 * outN cs l m + if ballAt cs (l.getD m 0).toNat = true then 1 else 0 := by
  unfold outN; rw [List.range_succ, List.foldl_append]; rfl
theorem outN_lt (cs l : List Int) : ∀ m, outN cs l m < 2 ^ m
  | 0 => by unfold outN; simp
  | m + 1 => by
    have := outN_lt cs l m
    rw [outN_succ, Nat.pow_succ]
    split <;> omega
def tableN (w h : Nat) (cs l1 l2 : List Int) (ds : List Nat) (n : Nat) : Int := ((outN (runD w h (setIn cs l1 n l1.length) ds) l2 l2.length : Nat) : Int)
def tableL (w h : Nat) (cs l1 l2 : List Int) (ds : List Nat) (m : Nat) : List Int := (List.range m).map (tableN w h cs l1 l2 ds)
theorem tableL_length (w h : Nat) (cs l1 l2 : List Int) (ds : List Nat) (m : Nat) : (tableL w h cs l1 l2 ds m).length = m := by simp [tableL]
theorem tableL_succ (w h : Nat) (cs l1 l2 : List Int) (ds : List Nat) (m : Nat) : tableL w h cs l1 l2 ds (m + 1) = tableL w h cs l1 l2 ds m ++ [tableN w h cs l1 l2 ds m] := by
  unfold tableL; rw [List.range_succ, List.map_append]; rfl
theorem pow_le8 {m : Nat} (h : m ≤ 3) : 2 ^ m ≤ 8 := by
  have : m = 0 ∨ m = 1 ∨ m = 2 ∨ m = 3 := by omega
  rcases this with rfl | rfl | rfl | rfl <;> decide
theorem ok_in {p : Int → Bool} {cs l : List Int} (h : cellsOk p cs l = true) : (1 ≤ l.length ∧ l.length ≤ 3) ∧ ∀ j, j < l.length → 0 ≤ l.getD j 0 ∧ l.getD j 0 < (cs.length : Int) :=
  ⟨(of_decide_eq_true h).1, fun j hj => ((of_decide_eq_true h).2 j hj).1⟩
section
variable {t wd : ByteArray} {w h : Nat} {cs l1 l2 : List Int} (hg : tyGrid (bytesOf t) = some (w, h, cs)) (hs : isWordB (bytesOf wd) = true) (h1 : (1 ≤ l1.length ∧ l1.length ≤ 3) ∧ ∀ j, j < l1.length → 0 ≤ l1.getD j 0 ∧ l1.getD j 0 < (cs.length : Int)) (h2 : (1 ≤ l2.length ∧ l2.length ≤ 3) ∧ ∀ j, j < l2.length → 0 ≤ l2.getD j 0 ∧ l2.getD j 0 < (cs.length : Int))
include hg hs h1 h2
omit hg hs h1 in
theorem impl_table_l2 (x9 : List Int) (hx9 : x9.length < 100) (n : Nat) (hn : n < 8) (x20 : Int) (r : List Int) (ds : List Int) (hds : ds.length = cs.length) : ∀ (d m : Nat), m + d = l2.length →
    Ev (fun k => impl_table.l0 k t l1 l2 wd (x9 ++ [((outN ds l2 l2.length : Nat) : Int)]) x20 ((n + 1 : Nat) : Int)) r →
    Ev (fun k => impl_table.l2 k t l1 l2 wd x9 ((outN ds l2 m : Nat) : Int) x20 (n : Int) l2 (l2.length : Int) (m : Int) w h ds) r
  | 0, m, hm, hr => by
    obtain rfl : m = l2.length := by omega
    have HN : Aside0 (wrap64 ((n : Int) + 1) = ((n + 1 : Nat) : Int)) := ⟨by rw [w64 (by omega) (by omega)]; rfl⟩
    refine Ev.step (fun k => ?_) hr
    rw [impl_table.l2, if_neg (by omega), if_pos (by omega), HN.out]
  | d + 1, m, hm, hr => by
    have hml : m < l2.length := by omega
    have HW : Aside0 (wrap64 ((m : Int) + 1) = ((m + 1 : Nat) : Int)) := ⟨by rw [w64 (by omega) (by omega)]; rfl⟩
    obtain ⟨q1, q2⟩ := h2.2 m hml
    have ih := impl_table_l2 x9 hx9 n hn x20 r ds hds d (m + 1) (by omega) hr
    have hlt := outN_lt ds l2 m
    have h8 := pow_le8 (show m ≤ 3 by omega)
    rw [outN_succ] at ih
    refine Ev.step (fun k => ?_) ih
    have hb : impl_isBall.f (rd ds (rd l2 (m : Int))) = some (ballAt ds (l2.getD m 0).toNat) := by rw [impl_isBall_is, rdN]; rfl
    rw [impl_table.l2, if_pos (by omega), if_pos (by omega), if_pos (by omega), hb, rdN, if_pos q1, if_pos (by rw [hds]; exact q2), Option.bind_some, HW.out]
    generalize outN ds l2 m = a at *
    cases ballAt ds (l2.getD m 0).toNat with
    | true =>
      rw [impl_bit.f, if_pos rfl, Option.bind_some, w64 (n := 2 * (a : Int)) (by omega) (by omega), w64 (n := 2 * (a : Int) + 1) (by omega) (by omega), if_pos rfl]
      congr 1
    | false =>
      rw [impl_bit.f, if_neg Bool.false_ne_true, Option.bind_some, w64 (n := 2 * (a : Int)) (by omega) (by omega), w64 (n := 2 * (a : Int) + 0) (by omega) (by omega), if_neg Bool.false_ne_true]
      congr 1
theorem impl_table_l1 (x9 : List Int) (hx9 : x9.length < 100) (n : Nat) (hn : n < 8) (x20 : Int) (r : List Int) : ∀ (d m : Nat), m + d = l1.length →
    Ev (fun k => impl_table.l0 k t l1 l2 wd (x9 ++ [tableN w h cs l1 l2 (wordD wd) n]) x20 ((n + 1 : Nat) : Int)) r →
    Ev (fun k => impl_table.l1 k t l1 l2 wd x9 (n : Int) x20 (n : Int) l1 (l1.length : Int) (m : Int) w h (setIn cs l1 n m)) r
  | 0, m, hm, hr => by
    obtain rfl : m = l1.length := by omega
    obtain ⟨v, _⟩ := textB_grid hg
    have hA := tiltedAll_ev ⟨v.w1, v.w7⟩ ⟨v.h1, v.h7⟩ hs (cs := setIn cs l1 n l1.length) (by rw [setIn_length]; exact v.len)
    have hl2 := impl_table_l2 (t := t) (wd := wd) (w := w) (h := h) (l1 := l1) h2 x9 hx9 n hn x20 r (runD w h (setIn cs l1 n l1.length) (wordD wd)) (by rw [runD_length, setIn_length]) l2.length 0 (by omega) hr
    refine Ev.step (fun k => by rw [impl_table.l1, if_neg (by omega)]) (Ev.bind hA ?_)
    exact hl2
  | d + 1, m, hm, hr => by
    have hml : m < l1.length := by omega
    have HW : Aside0 (wrap64 ((m : Int) + 1) = ((m + 1 : Nat) : Int)) := ⟨by rw [w64 (by omega) (by omega)]; rfl⟩
    have HS : Aside0 (wrap64 (wrap64 ((l1.length : Int) - 1) - (m : Int)) = ((l1.length - 1 - m : Nat) : Int)) := ⟨by rw [w64 (n := (l1.length : Int) - 1) (by omega) (by omega), w64 (by omega) (by omega)]; omega⟩
    obtain ⟨q1, q2⟩ := h1.2 m hml
    have ih := impl_table_l1 x9 hx9 n hn x20 r d (m + 1) (by omega) hr
    have hbit := shr_and ⟨n, hn⟩ ⟨l1.length - 1 - m, by omega⟩
    simp only at hbit
    rw [setIn_succ] at ih
    refine Ev.step (fun k => ?_) ih
    rw [impl_table.l1, if_pos (by omega), if_pos (by omega), if_pos (by omega), HS.out, if_pos (by omega), hbit, rdN, HW.out]
    by_cases hb : n / 2 ^ (l1.length - 1 - m) % 2 = 1
    · rw [if_pos (by rw [hb]; rfl), if_pos q1, if_pos (by rw [setIn_length]; exact q2), if_pos hb]
    · rw [if_neg (by omega), if_neg hb]
theorem impl_table_l0 : ∀ (d n : Nat), n + d = 2 ^ l1.length →
    Ev (fun k => impl_table.l0 k t l1 l2 wd (tableL w h cs l1 l2 (wordD wd) n) ((2 ^ l1.length : Nat) : Int) (n : Int)) (tableL w h cs l1 l2 (wordD wd) (2 ^ l1.length))
  | 0, n, hn => by
    obtain rfl : n = 2 ^ l1.length := by omega
    exact Ev.step (fun k => by rw [impl_table.l0, if_neg (by omega)]) (Ev.now _)
  | d + 1, n, hn => by
    have h8 := pow_le8 h1.1.2
    have ih := impl_table_l0 d (n + 1) (by omega)
    rw [tableL_succ] at ih
    have hl1 := impl_table_l1 hg hs h1 h2 (tableL w h cs l1 l2 (wordD wd) n) (by rw [tableL_length]; omega) n (by omega) ((2 ^ l1.length : Nat) : Int) _ l1.length 0 (by omega) ih
    refine Ev.step (fun k => ?_) hl1
    rw [impl_table.l0, if_pos (by omega), show impl_readS.f t = some ((w : Int), (h : Int), cs) from impl_read_eq t hg, Option.bind_some]; rfl
theorem impl_table_ev : Ev (fun k => impl_table.f k t l1 l2 wd) (tableL w h cs l1 l2 (wordD wd) (2 ^ l1.length)) := by
  have h0 := impl_table_l0 hg hs h1 h2 (2 ^ l1.length) 0 (by omega)
  refine Ev.congr (fun k => ?_) h0
  unfold impl_table.f
  have hsl := shl_one ⟨l1.length, by omega⟩
  simp only at hsl
  rw [hsl]; rfl
omit hg hs h1 in
theorem spec_table_l2 (x9 : List Int) (hx9 : x9.length < 100) (n : Nat) (hn : n < 8) (r : List Int) (ds : List Int) (hds : ds.length = cs.length) : ∀ (d m : Nat), m + d = l2.length →
    Ev (fun k => spec_mcTable.l0 k l1 l2 wd (x9 ++ [((outN ds l2 l2.length : Nat) : Int)]) ((n + 1 : Nat) : Int) w h cs) r →
    Ev (fun k => spec_mcTable.l2 k l1 l2 wd x9 (n : Int) ((outN ds l2 m : Nat) : Int) l2 (l2.length : Int) (m : Int) w h cs w h ds) r
  | 0, m, hm, hr => by
    obtain rfl : m = l2.length := by omega
    have HN : Aside0 (wrap64 ((n : Int) + 1) = ((n + 1 : Nat) : Int)) := ⟨by rw [w64 (by omega) (by omega)]; rfl⟩
    refine Ev.step (fun k => ?_) hr
    rw [spec_mcTable.l2, if_neg (by omega), if_pos (by omega), HN.out]
  | d + 1, m, hm, hr => by
    have hml : m < l2.length := by omega
    have HW : Aside0 (wrap64 ((m : Int) + 1) = ((m + 1 : Nat) : Int)) := ⟨by rw [w64 (by omega) (by omega)]; rfl⟩
    obtain ⟨q1, q2⟩ := h2.2 m hml
    have ih := spec_table_l2 x9 hx9 n hn r ds hds d (m + 1) (by omega) hr
    have hlt := outN_lt ds l2 m
    have h8 := pow_le8 (show m ≤ 3 by omega)
    rw [outN_succ] at ih
    refine Ev.step (fun k => ?_) ih
    have hb : spec_tyBall.f (rd ds (rd l2 (m : Int))) = some (ballAt ds (l2.getD m 0).toNat) := by rw [spec_tyBall_is, rdN]; rfl
    rw [spec_mcTable.l2, if_pos (by omega), if_pos (by omega), if_pos (by omega), hb, rdN, if_pos q1, if_pos (by rw [hds]; exact q2), Option.bind_some, HW.out]
    generalize outN ds l2 m = a at *
    cases ballAt ds (l2.getD m 0).toNat with
    | true =>
      rw [if_pos rfl, w64 (n := (a : Int) * 2) (by omega) (by omega), w64 (n := (a : Int) * 2 + 1) (by omega) (by omega), if_pos rfl]
      congr 1
      omega
    | false =>
      rw [if_neg Bool.false_ne_true, w64 (n := (a : Int) * 2) (by omega) (by omega), if_neg Bool.false_ne_true]
      congr 1
      omega
theorem spec_table_l1 (x9 : List Int) (hx9 : x9.length < 100) (n : Nat) (hn : n < 8) (r : List Int) : ∀ (d m : Nat), m + d = l1.length →
    Ev (fun k => spec_mcTable.l0 k l1 l2 wd (x9 ++ [tableN w h cs l1 l2 (wordD wd) n]) ((n + 1 : Nat) : Int) w h cs) r →
    Ev (fun k => spec_mcTable.l1 k l1 l2 wd x9 (n : Int) l1 (l1.length : Int) (m : Int) w h cs w h (setIn cs l1 n m)) r
  | 0, m, hm, hr => by
    obtain rfl : m = l1.length := by omega
    obtain ⟨v, _⟩ := textB_grid hg
    have hA := tiRun_ev ⟨v.w1, v.w7⟩ ⟨v.h1, v.h7⟩ hs (cs := setIn cs l1 n l1.length) (by rw [setIn_length]; exact v.len)
    have hl2 := spec_table_l2 (wd := wd) (w := w) (h := h) (l1 := l1) h2 x9 hx9 n hn r (runD w h (setIn cs l1 n l1.length) (wordD wd)) (by rw [runD_length, setIn_length]) l2.length 0 (by omega) hr
    refine Ev.step (fun k => by rw [spec_mcTable.l1, if_neg (by omega)]) (Ev.bind hA ?_)
    exact hl2
  | d + 1, m, hm, hr => by
    have hml : m < l1.length := by omega
    have HW : Aside0 (wrap64 ((m : Int) + 1) = ((m + 1 : Nat) : Int)) := ⟨by rw [w64 (by omega) (by omega)]; rfl⟩
    have HS : Aside0 (wrap64 (wrap64 ((l1.length : Int) - 1) - (m : Int)) = ((l1.length - 1 - m : Nat) : Int)) := ⟨by rw [w64 (n := (l1.length : Int) - 1) (by omega) (by omega), w64 (by omega) (by omega)]; omega⟩
    obtain ⟨q1, q2⟩ := h1.2 m hml
    have ih := spec_table_l1 x9 hx9 n hn r d (m + 1) (by omega) hr
    have hbit := shr_mod ⟨n, hn⟩ ⟨l1.length - 1 - m, by omega⟩
    simp only at hbit
    rw [setIn_succ] at ih
    refine Ev.step (fun k => ?_) ih
    rw [spec_mcTable.l1, if_pos (by omega), if_pos (by omega), if_pos (by omega), HS.out, if_pos (by omega), hbit, rdN, HW.out]
    by_cases hb : n / 2 ^ (l1.length - 1 - m) % 2 = 1
    · rw [if_pos (by rw [hb]; rfl), if_pos q1, if_pos (by rw [setIn_length]; exact q2), if_pos hb]
    · rw [if_neg (by omega), if_neg hb]
theorem spec_table_l0 : ∀ (d n : Nat), n + d = 2 ^ l1.length →
    Ev (fun k => spec_mcTable.l0 k l1 l2 wd (tableL w h cs l1 l2 (wordD wd) n) (n : Int) w h cs) (tableL w h cs l1 l2 (wordD wd) (2 ^ l1.length))
  | 0, n, hn => by
    obtain rfl : n = 2 ^ l1.length := by omega
    have hsl := shl_one ⟨l1.length, by omega⟩
    simp only at hsl
    exact Ev.step (fun k => by rw [spec_mcTable.l0, hsl, if_neg (by omega)]) (Ev.now _)
  | d + 1, n, hn => by
    obtain ⟨v, _⟩ := textB_grid hg
    have hsm := tray_small v
    simp only at hsm
    have h8 := pow_le8 h1.1.2
    have hsl := shl_one ⟨l1.length, by omega⟩
    simp only at hsl
    have ih := spec_table_l0 d (n + 1) (by omega)
    rw [tableL_succ] at ih
    have hl1 := spec_table_l1 hg hs h1 h2 (tableL w h cs l1 l2 (wordD wd) n) (by rw [tableL_length]; omega) n (by omega) _ l1.length 0 (by omega) ih
    refine Ev.step (fun k => ?_) hl1
    have hcp : spec_tyCopy.f (w : Int) (h : Int) cs = some ((w : Int), (h : Int), cs) := by
      unfold spec_tyCopy.f
      rw [Option.bind_some, if_pos (by rw [List.length_nil]; omega), List.nil_append]
    rw [spec_mcTable.l0, hsl, if_pos (by omega), hcp, Option.bind_some]; rfl
theorem spec_table_ev : Ev (fun k => spec_mcTable.f k w h cs l1 l2 wd) (tableL w h cs l1 l2 (wordD wd) (2 ^ l1.length)) := by
  have h0 := spec_table_l0 hg hs h1 h2 (2 ^ l1.length) 0 (by omega)
  exact h0
end
end Go.Proofs.YtdffgeoegdkiaaaGreatDoor.F

namespace Go.Proofs.YtdffgeoegdkiaaaGreatDoor.F
open Go.Proofs.YtdffgeoegdkiaaaGreatDoor
open Go.RowKit Go.Proofs.YtdffgeoegdkiaaaGreatDoorW.PrintWords Go.Proofs.YtdffgeoegdkiaaaGreatDoorW.PrintLast Go.Proofs.YtdffgeoegdkiaaaGreatDoorW.PrintMore
attribute [local go_sem] max2_int min2_int max_two min_two max_three min_three max_four min_four   -- for this text's walks alone
set_option linter.unusedVariables false
set_option linter.unusedSimpArgs false
def spec_mcTwo.f (k : Nat) (a0 : ByteArray) (l1 : List Int) (a2 : Int) (a3 : ByteArray) : Option (Int × Int × List Int × Bool) := (spec_mcGate.f k a0 l1 (([a2] : List Int)) a3).bind fun bt105 => (if bt105.2.2.2 = true then (some (bt105.1, bt105.2.1, bt105.2.2.1, ((l1.length : Int) == 2))) else (some (bt105.1, bt105.2.1, bt105.2.2.1, false)))
theorem spec_mcTwo.mono : ∀ a0 a1 a2 a3 k, LeO (spec_mcTwo.f k a0 a1 a2 a3) (spec_mcTwo.f (k + 1) a0 a1 a2 a3) := by
 intro a0 a1 a2 a3 k
 unfold spec_mcTwo.f
 have im0 := @spec_mcGate.mono; exact mo
set_option maxHeartbeats 8000000 in
set_option maxRecDepth 100000 in
theorem spec_mcTwo.calls (k : Nat) (a0 : ByteArray) (A1 : Option Addr) (c1 : Nat) (l1 : List Int) (a2 : Int) (a3 : ByteArray) (r1 : Int) (r2 : Int) (r3 : List Int) (r4 : Bool) (w : World) (hr1 : Kd.C (Kd.int .i64) w A1 l1.length l1) (hc1 : l1.length ≤ c1) (h : spec_mcTwo.f k a0 l1 a2 a3 = some (r1, r2, r3, r4)) :
  Calls Tryz.prog 71 #[.string a0, .slice A1 l1.length c1, .int .i64 a2, .string a3] w fun e w' => ∃ v2_ : Value, e = .returned (.tuple #[.agg #[.int .i64 r1, .int .i64 r2, v2_], .bool r4]) ∧ Kd.R (Kd.int .u8) 5 w' w.heap.size (fun _ => True) v2_ r3 ∧ Below w.heap.size w w' := by
 have hu62 := Tryz.underlying62
 have HR1 := am hr1
 have HC1 := am hc1
 clear hr1 hc1
 have HB := am (Below.refl w.heap.size w)
 have H : ((spec_mcGate.f k a0 l1 (([a2] : List Int)) a3).bind fun bt105 => (if bt105.2.2.2 = true then (some (bt105.1, bt105.2.1, bt105.2.2.1, ((l1.length : Int) == 2))) else (some (bt105.1, bt105.2.1, bt105.2.2.1, false)))) = some (r1, r2, r3, r4) := h
 clear h
 obtain ⟨y102, hy102⟩ : ∃ y_ : List Int, y_ = (([a2] : List Int)) := ⟨_, rfl⟩
 replace H : ((spec_mcGate.f k a0 l1 y102 a3).bind fun bt105 => (if bt105.2.2.2 = true then (some (bt105.1, bt105.2.1, bt105.2.2.1, ((l1.length : Int) == 2))) else (some (bt105.1, bt105.2.1, bt105.2.2.1, false)))) = some (r1, r2, r3, r4) := by first | (rw [hy102]; with_reducible exact H) | (have H2_ := (Option.bind_some _ _).symm.trans H; rw [hy102]; with_reducible exact H2_) | (have H2_ := (Option.bind_some _ _).symm.trans H; with_reducible exact H2_) | with_reducible exact H | (rw [hy102]; exact H) | exact H
 have Ny102 := am hy102
 clear hy102
 replace H := Option.bind_eq_some_iff.mp H
 obtain ⟨⟨t105, t106, t107, t110⟩, A50, H⟩ := H
 replace H : (if t110 = true then (some (t105, t106, t107, ((l1.length : Int) == 2))) else (some (t105, t106, t107, false))) = some (r1, r2, r3, r4) := H
 have A5 := am A50
 clear A50
 by_cases c6 : t110 = true
 ·subst c6
  have H1 : (some (t105, t106, t107, ((l1.length : Int) == 2))) = some (r1, r2, r3, r4) := by rw [if_pos rfl] at H; exact H
  clear H
  have H := H1
  clear H1
  simp only [Option.some.injEq, Prod.mk.injEq] at H
  obtain ⟨rfl, rfl, rfl, rfl⟩ := H
  go_enter Tryz.func71, Tryz.ntmps71
  go_wp2_with (first | ((with_reducible refine gate_dst (N := 8) rfl ?_); (try (refine gate_guard (by rfl) ?_; dsimp only)); refine box_event ?hg (N := 8) ?hd (cs := #[.int .i64 0, .int .i64 0, .slice none 0 0]) (t := 62) ?hr ?_; (case hd => rfl); (case hg => rfl); (case hr => exact aq14); intro gb101 hg w7 hbox hb; have n0_ := am (below_step aq1 hb); have n1_ := am (hbox); have n2_ := am ((by rw [hg]; exact (below_size aq1) : w.heap.size ≤ gb101)); have n3_ := am ((by rw [hg]; exact (below_size aq1) : w.heap.size ≤ gb101)); clear HB; have HB := n0_; have BK101 := n1_; have GW101 := n2_; have GE101 := n3_; clear n0_ n1_ n2_ n3_; clear hb hbox hg) | ((with_reducible refine gate_dst (N := 16) rfl ?_); (try (refine gate_guard (by rfl) ?_; dsimp only)); refine Kd.R_lit (Kd.int .i64) _ 3 ?hg (N := 16) ?hd (xs := ([a2] : List Int)) (inner := [.int .i64 a2]) (ok := fun _ => True) (okp := fun _ => True) ?hr ?hp (fun _ hk => hk) trivial (Below.refl _ _) (Nat.le_refl _) (by simp) ?_; (case hd => rfl); (case hg => rfl); (case hr => exact aq14); (case hp => exact aq65); intro v103 w8 ho9 hb hg_ hnew_; clear hg_ hnew_; (first | rw [← Ny102.out] at ho9 | (simp only [Int.reduceToNat] at ho9; rw [← Ny102.out] at ho9)); have n0_ := am (Kd.R_lower ho9 (below_size aq0)); have n1_ := am (blk_below (g := gb101) (o := .cells #[.int .i64 0, .int .i64 0, .slice none 0 0] 62 (0, 0)) aq2 hb); have n2_ := am (below_step aq0 hb); clear BK101; clear HB; have HO104 := n0_; have BK101 := n1_; have HB := n2_; clear n0_ n1_ n2_; clear hb ho9; obtain ⟨Ao10, co10, eo10⟩ := Kd.R_slice HO104.out; subst eo10) | ((with_reducible refine gate_callee (f := 62) rfl ?_); refine goesL_ (some 18) rfl rfl Tryz.func62 (by kernel_rfl) rfl #[.string a0, .slice A1 l1.length c1, .slice Ao10 y102.length co10, .string a3] rfl aq3 ?_; (with_reducible refine (spec_mcGate.calls k a0 _ _ l1 _ _ y102 a3 t105 t106 t107 true _ ?side1 ?side2 ?side3 ?side4 A5.out).mono ?_); (case side1 => exact aq15); (case side2 => exact HC1.out); (case side3 => exact aq48); (case side4 => exact (Kd.R_reads' HO104.out).2.1); rintro e w11 ⟨v108, rfl, ho0, hb⟩; refine ⟨_, rfl, ?_⟩; have n0_ := am (Kd.R_below aq26 hb); have n1_ := am (Kd.R_lower ho0 (below_size aq0)); have n2_ := am (blk_below (g := gb101) (o := .cells #[.int .i64 0, .int .i64 0, .slice none 0 0] 62 (0, 0)) aq2 hb); have n3_ := am (below_step aq0 hb); clear HO104; clear BK101; clear HB; have HO104 := n0_; have HO109 := n1_; have BK101 := n2_; have HB := n3_; clear n0_ n1_ n2_ n3_; (try clear hb); (try clear hb2); (try clear hk); (try clear hi); (try clear ho0)) | ((with_reducible refine gate_dst (N := 10) rfl ?_); (try (refine gate_guard (by rfl) ?_; dsimp only)); refine box_event ?hg (N := 10) ?hd (cs := #[.int .i64 0, .int .i64 0, .slice none 0 0]) (t := 62) ?hr ?_; (case hd => rfl); (case hg => rfl); (case hr => exact aq14); intro gb111 hg w12 hbox hb; have n0_ := am (Kd.R_below aq26 hb); have n1_ := am (Kd.R_below (by (with_reducible repeat (first | apply Kd.R_alloc | apply Kd.R_drewN | apply Kd.R_drew)); exact HO109.out) hb); have n2_ := am (blk_below (g := gb101) (o := .cells #[.int .i64 0, .int .i64 0, .slice none 0 0] 62 (0, 0)) aq2 hb); have n3_ := am (below_step aq0 hb); have n4_ := am (hbox); have n5_ := am ((by rw [hg]; exact (below_size aq0) : w.heap.size ≤ gb111)); have n6_ := am ((by rw [hg]; exact (below_size aq0) : w.heap.size ≤ gb111)); have n7_ := am ((by rw [hg]; exact Nat.ne_of_lt (blk_lt (g := gb101) (o := .cells #[.int .i64 0, .int .i64 0, .slice none 0 0] 62 (0, 0)) aq2) : gb101 ≠ gb111)); have n8_ := am ((by rw [hg]; exact Nat.ne_of_gt (blk_lt (g := gb101) (o := .cells #[.int .i64 0, .int .i64 0, .slice none 0 0] 62 (0, 0)) aq2) : gb111 ≠ gb101)); clear HO104; clear HO109; clear BK101; clear HB; have HO104 := n0_; have HO109 := n1_; have BK101 := n2_; have HB := n3_; have BK111 := n4_; have GW111 := n5_; have GE111 := n6_; have NB101_111 := n7_; have NB111_101 := n8_; clear n0_ n1_ n2_ n3_ n4_ n5_ n6_ n7_ n8_; clear hb hbox hg; have hnb13 := NB111_101.out; have hnc13 := NB101_111.out; have hcz14_0 : w12.cell? ⟨gb111, 0, none⟩ = some (.int .i64 0) := (blk_cell BK111.out 0).trans rfl; have hcz14_1 : w12.cell? ⟨gb111, 1, none⟩ = some (.int .i64 0) := (blk_cell BK111.out 1).trans rfl; have hcz14_2 : w12.cell? ⟨gb111, 2, none⟩ = some (.slice none 0 0) := (blk_cell BK111.out 2).trans rfl; have hfz14_0 := blk_frozen BK111.out 0; have hfz14_1 := blk_frozen BK111.out 1; have hfz14_2 := blk_frozen BK111.out 2; obtain ⟨Ao15, co15, eo15⟩ := Kd.R_slice HO109.out; subst eo15; have hcz16_0 : w12.cell? ⟨gb101, 0, none⟩ = some (.int .i64 0) := (blk_cell BK101.out 0).trans rfl; have hcz16_1 : w12.cell? ⟨gb101, 1, none⟩ = some (.int .i64 0) := (blk_cell BK101.out 1).trans rfl; have hcz16_2 : w12.cell? ⟨gb101, 2, none⟩ = some (.slice none 0 0) := (blk_cell BK101.out 2).trans rfl; have hfz16_0 := blk_frozen BK101.out 0; have hfz16_1 := blk_frozen BK101.out 1; have hfz16_2 := blk_frozen BK101.out 2))
  refine bodyPost_ret (results_ct rfl _ _ gb101 62 #[.int .i64 t105, .int .i64 t106, .slice Ao15 t107.length co15] (0, 0) _ rfl aq34 Tryz.underlying62 rfl (by kernel_rfl)) rfl ?_
  exact ⟨_, aq7, by (with_reducible repeat (first | apply Kd.R_alloc | apply Kd.R_drewN | apply Kd.R_drew)); exact Kd.R_mono (Kd.R_far (p := ⟨gb101, 2, none⟩) (Kd.R_far (p := ⟨gb101, 1, none⟩) (Kd.R_far (p := ⟨gb101, 0, none⟩) (Kd.R_far (p := ⟨gb111, 2, none⟩) (Kd.R_far (p := ⟨gb111, 1, none⟩) (Kd.R_far (p := ⟨gb111, 0, none⟩) (Kd.R_types (Kd.R_types HO109.out BK111.out (by decide)) BK101.out (by decide)) (fun _ hk => hk.1.2) (.int .i64 t105)) (fun _ hk => hk.1.2) (.int .i64 t106)) (fun _ hk => hk.1.2) (.slice Ao15 t107.length co15)) (fun _ hk => hk.2) (.int .i64 t105)) (fun _ hk => hk.2) (.int .i64 t106)) (fun _ hk => hk.2) (.slice Ao15 t107.length co15)) (fun _ hk => trivial), aq81⟩
 ·replace c6 := Bool.eq_false_iff.mpr c6
  subst c6
  have H1 : (some (t105, t106, t107, false)) = some (r1, r2, r3, r4) := by rw [if_neg (show ¬ (false = true) by decide)] at H; exact H
  clear H
  have H := H1
  clear H1
  simp only [Option.some.injEq, Prod.mk.injEq] at H
  obtain ⟨rfl, rfl, rfl, rfl⟩ := H
  go_enter Tryz.func71, Tryz.ntmps71
  go_wp2_with (first | ((with_reducible refine gate_dst (N := 8) rfl ?_); (try (refine gate_guard (by rfl) ?_; dsimp only)); refine box_event ?hg (N := 8) ?hd (cs := #[.int .i64 0, .int .i64 0, .slice none 0 0]) (t := 62) ?hr ?_; (case hd => rfl); (case hg => rfl); (case hr => exact aq14); intro gb101 hg w17 hbox hb; have n0_ := am (below_step aq1 hb); have n1_ := am (hbox); have n2_ := am ((by rw [hg]; exact (below_size aq1) : w.heap.size ≤ gb101)); have n3_ := am ((by rw [hg]; exact (below_size aq1) : w.heap.size ≤ gb101)); clear HB; have HB := n0_; have BK101 := n1_; have GW101 := n2_; have GE101 := n3_; clear n0_ n1_ n2_ n3_; clear hb hbox hg) | ((with_reducible refine gate_dst (N := 16) rfl ?_); (try (refine gate_guard (by rfl) ?_; dsimp only)); refine Kd.R_lit (Kd.int .i64) _ 3 ?hg (N := 16) ?hd (xs := ([a2] : List Int)) (inner := [.int .i64 a2]) (ok := fun _ => True) (okp := fun _ => True) ?hr ?hp (fun _ hk => hk) trivial (Below.refl _ _) (Nat.le_refl _) (by simp) ?_; (case hd => rfl); (case hg => rfl); (case hr => exact aq14); (case hp => exact aq65); intro v103 w18 ho19 hb hg_ hnew_; clear hg_ hnew_; (first | rw [← Ny102.out] at ho19 | (simp only [Int.reduceToNat] at ho19; rw [← Ny102.out] at ho19)); have n0_ := am (Kd.R_lower ho19 (below_size aq0)); have n1_ := am (blk_below (g := gb101) (o := .cells #[.int .i64 0, .int .i64 0, .slice none 0 0] 62 (0, 0)) aq2 hb); have n2_ := am (below_step aq0 hb); clear BK101; clear HB; have HO104 := n0_; have BK101 := n1_; have HB := n2_; clear n0_ n1_ n2_; clear hb ho19; obtain ⟨Ao20, co20, eo20⟩ := Kd.R_slice HO104.out; subst eo20) | ((with_reducible refine gate_callee (f := 62) rfl ?_); refine goesL_ (some 18) rfl rfl Tryz.func62 (by kernel_rfl) rfl #[.string a0, .slice A1 l1.length c1, .slice Ao20 y102.length co20, .string a3] rfl aq3 ?_; (with_reducible refine (spec_mcGate.calls k a0 _ _ l1 _ _ y102 a3 t105 t106 t107 false _ ?side1 ?side2 ?side3 ?side4 A5.out).mono ?_); (case side1 => exact aq15); (case side2 => exact HC1.out); (case side3 => exact aq48); (case side4 => exact (Kd.R_reads' HO104.out).2.1); rintro e w21 ⟨v108, rfl, ho0, hb⟩; refine ⟨_, rfl, ?_⟩; have n0_ := am (Kd.R_below aq26 hb); have n1_ := am (Kd.R_lower ho0 (below_size aq0)); have n2_ := am (blk_below (g := gb101) (o := .cells #[.int .i64 0, .int .i64 0, .slice none 0 0] 62 (0, 0)) aq2 hb); have n3_ := am (below_step aq0 hb); clear HO104; clear BK101; clear HB; have HO104 := n0_; have HO109 := n1_; have BK101 := n2_; have HB := n3_; clear n0_ n1_ n2_ n3_; (try clear hb); (try clear hb2); (try clear hk); (try clear hi); (try clear ho0)) | ((with_reducible refine gate_dst (N := 10) rfl ?_); (try (refine gate_guard (by rfl) ?_; dsimp only)); refine box_event ?hg (N := 10) ?hd (cs := #[.int .i64 0, .int .i64 0, .slice none 0 0]) (t := 62) ?hr ?_; (case hd => rfl); (case hg => rfl); (case hr => exact aq14); intro gb111 hg w22 hbox hb; have n0_ := am (Kd.R_below aq26 hb); have n1_ := am (Kd.R_below (by (with_reducible repeat (first | apply Kd.R_alloc | apply Kd.R_drewN | apply Kd.R_drew)); exact HO109.out) hb); have n2_ := am (blk_below (g := gb101) (o := .cells #[.int .i64 0, .int .i64 0, .slice none 0 0] 62 (0, 0)) aq2 hb); have n3_ := am (below_step aq0 hb); have n4_ := am (hbox); have n5_ := am ((by rw [hg]; exact (below_size aq0) : w.heap.size ≤ gb111)); have n6_ := am ((by rw [hg]; exact (below_size aq0) : w.heap.size ≤ gb111)); have n7_ := am ((by rw [hg]; exact Nat.ne_of_lt (blk_lt (g := gb101) (o := .cells #[.int .i64 0, .int .i64 0, .slice none 0 0] 62 (0, 0)) aq2) : gb101 ≠ gb111)); have n8_ := am ((by rw [hg]; exact Nat.ne_of_gt (blk_lt (g := gb101) (o := .cells #[.int .i64 0, .int .i64 0, .slice none 0 0] 62 (0, 0)) aq2) : gb111 ≠ gb101)); clear HO104; clear HO109; clear BK101; clear HB; have HO104 := n0_; have HO109 := n1_; have BK101 := n2_; have HB := n3_; have BK111 := n4_; have GW111 := n5_; have GE111 := n6_; have NB101_111 := n7_; have NB111_101 := n8_; clear n0_ n1_ n2_ n3_ n4_ n5_ n6_ n7_ n8_; clear hb hbox hg; have hnb23 := NB111_101.out; have hnc23 := NB101_111.out; have hcz24_0 : w22.cell? ⟨gb111, 0, none⟩ = some (.int .i64 0) := (blk_cell BK111.out 0).trans rfl; have hcz24_1 : w22.cell? ⟨gb111, 1, none⟩ = some (.int .i64 0) := (blk_cell BK111.out 1).trans rfl; have hcz24_2 : w22.cell? ⟨gb111, 2, none⟩ = some (.slice none 0 0) := (blk_cell BK111.out 2).trans rfl; have hfz24_0 := blk_frozen BK111.out 0; have hfz24_1 := blk_frozen BK111.out 1; have hfz24_2 := blk_frozen BK111.out 2; obtain ⟨Ao25, co25, eo25⟩ := Kd.R_slice HO109.out; subst eo25; have hcz26_0 : w22.cell? ⟨gb101, 0, none⟩ = some (.int .i64 0) := (blk_cell BK101.out 0).trans rfl; have hcz26_1 : w22.cell? ⟨gb101, 1, none⟩ = some (.int .i64 0) := (blk_cell BK101.out 1).trans rfl; have hcz26_2 : w22.cell? ⟨gb101, 2, none⟩ = some (.slice none 0 0) := (blk_cell BK101.out 2).trans rfl; have hfz26_0 := blk_frozen BK101.out 0; have hfz26_1 := blk_frozen BK101.out 1; have hfz26_2 := blk_frozen BK101.out 2))
  refine bodyPost_ret (results_ct rfl _ _ gb101 62 #[.int .i64 t105, .int .i64 t106, .slice Ao25 t107.length co25] (0, 0) _ rfl aq34 Tryz.underlying62 rfl (by kernel_rfl)) rfl ?_
  exact ⟨_, aq7, by (with_reducible repeat (first | apply Kd.R_alloc | apply Kd.R_drewN | apply Kd.R_drew)); exact Kd.R_mono (Kd.R_far (p := ⟨gb101, 2, none⟩) (Kd.R_far (p := ⟨gb101, 1, none⟩) (Kd.R_far (p := ⟨gb101, 0, none⟩) (Kd.R_far (p := ⟨gb111, 2, none⟩) (Kd.R_far (p := ⟨gb111, 1, none⟩) (Kd.R_far (p := ⟨gb111, 0, none⟩) (Kd.R_types (Kd.R_types HO109.out BK111.out (by decide)) BK101.out (by decide)) (fun _ hk => hk.1.2) (.int .i64 t105)) (fun _ hk => hk.1.2) (.int .i64 t106)) (fun _ hk => hk.1.2) (.slice Ao25 t107.length co25)) (fun _ hk => hk.2) (.int .i64 t105)) (fun _ hk => hk.2) (.int .i64 t106)) (fun _ hk => hk.2) (.slice Ao25 t107.length co25)) (fun _ hk => trivial), aq81⟩
def spec_mcNumber.l0 : Nat → Int → List Int → Int → Int → Option (Int)
 | 0, _, _, _, _ => none
 | k + 1, x9, x17, x18, x19 => if x19 < x18 then (if 0 ≤ x19 then (if x19 < (x17.length : Int) then (spec_mcNumber.l0 k (wrap64 ((wrap64 (2 * x9)) + (rd x17 x19))) x17 x18 (wrap64 (x19 + 1))) else (none)) else (none)) else (some x9)
def spec_mcNumber.f (k : Nat) (a0_0 : Int) (a0_1 : Int) (l0_2 : List Int) (l1 : List Int) (a2 : Int) (a3 : ByteArray) : Option (Int) := (spec_mcTable.f k a0_0 a0_1 l0_2 l1 (([a2] : List Int)) a3).bind fun t105 => (spec_mcNumber.l0 k 0 t105 (t105.length : Int) 0)
theorem spec_mcNumber.mono_l : ∀ k, (∀ y0 y1 y2 y3, LeO (spec_mcNumber.l0 k y0 y1 y2 y3) (spec_mcNumber.l0 (k + 1) y0 y1 y2 y3))
 | 0 => fun _ _ _ _ r h => by simp [spec_mcNumber.l0] at h
 | k + 1 => by
  have ih0 := spec_mcNumber.mono_l k
  ·intro y0 y1 y2 y3
   unfold spec_mcNumber.l0
   have im0 := @spec_mcTable.mono; exact mo
theorem spec_mcNumber.mono : ∀ a0 a1 a2 a3 a4 a5 k, LeO (spec_mcNumber.f k a0 a1 a2 a3 a4 a5) (spec_mcNumber.f (k + 1) a0 a1 a2 a3 a4 a5) := by
 intro a0 a1 a2 a3 a4 a5 k
 have ih0 := spec_mcNumber.mono_l k
 unfold spec_mcNumber.f
 have im0 := @spec_mcTable.mono; exact mo
set_option maxHeartbeats 8000000 in
set_option maxRecDepth 100000 in
theorem spec_mcNumber.calls (k : Nat) (a0_0 : Int) (a0_1 : Int) (A0_2 : Option Addr) (c0_2 : Nat) (l0_2 : List Int) (A1 : Option Addr) (c1 : Nat) (l1 : List Int) (a2 : Int) (a3 : ByteArray) (r : Int) (w : World) (hr0_2 : Kd.C (Kd.int .u8) w A0_2 l0_2.length l0_2) (hc0_2 : l0_2.length ≤ c0_2) (hr1 : Kd.C (Kd.int .i64) w A1 l1.length l1) (hc1 : l1.length ≤ c1) (h : spec_mcNumber.f k a0_0 a0_1 l0_2 l1 a2 a3 = some r) :
  Calls Tryz.prog 72 #[.agg #[.int .i64 a0_0, .int .i64 a0_1, .slice A0_2 l0_2.length c0_2], .slice A1 l1.length c1, .int .i64 a2, .string a3] w fun e w' => e = .returned (.int .i64 r) ∧ Below w.heap.size w w' := by
 have hu62 := Tryz.underlying62
 have HR0_2 := am hr0_2
 have HC0_2 := am hc0_2
 clear hr0_2 hc0_2
 have HR1 := am hr1
 have HC1 := am hc1
 clear hr1 hc1
 have HB := am (Below.refl w.heap.size w)
 have H : ((spec_mcTable.f k a0_0 a0_1 l0_2 l1 (([a2] : List Int)) a3).bind fun t105 => (spec_mcNumber.l0 k 0 t105 (t105.length : Int) 0)) = some r := h
 clear h
 obtain ⟨y102, hy102⟩ : ∃ y_ : List Int, y_ = (([a2] : List Int)) := ⟨_, rfl⟩
 replace H : ((spec_mcTable.f k a0_0 a0_1 l0_2 l1 y102 a3).bind fun t105 => (spec_mcNumber.l0 k 0 t105 (t105.length : Int) 0)) = some r := by first | (rw [hy102]; with_reducible exact H) | (have H2_ := (Option.bind_some _ _).symm.trans H; rw [hy102]; with_reducible exact H2_) | (have H2_ := (Option.bind_some _ _).symm.trans H; with_reducible exact H2_) | with_reducible exact H | (rw [hy102]; exact H) | exact H
 have Ny102 := am hy102
 clear hy102
 replace H := Option.bind_eq_some_iff.mp H
 obtain ⟨t105, A50, H⟩ := H
 replace H : (spec_mcNumber.l0 k 0 t105 (t105.length : Int) 0) = some r := H
 have A5 := am A50
 clear A50
 have H' := am H
 clear H
 go_enter Tryz.func72, Tryz.ntmps72
 go_wp2_with (first | ((with_reducible refine gate_dst (N := 4) rfl ?_); refine box_event ?hg (N := 4) ?hd (cs := #[.int .i64 a0_0, .int .i64 a0_1, .slice A0_2 l0_2.length c0_2]) (t := 62) ?hr ?_; (case hd => rfl); (case hg => rfl); (case hr => exact aq14); intro gb101 hg w6 hbox hb; have n0_ := am (below_step aq1 hb); have n1_ := am (hbox); have n2_ := am ((by rw [hg]; exact (below_size aq1) : w.heap.size ≤ gb101)); have n3_ := am ((by rw [hg]; exact (below_size aq1) : w.heap.size ≤ gb101)); clear HB; have HB := n0_; have BK101 := n1_; have GW101 := n2_; have GE101 := n3_; clear n0_ n1_ n2_ n3_; clear hb hbox hg; have hcz7_0 : w6.cell? ⟨gb101, 0, none⟩ = some (.int .i64 a0_0) := (blk_cell BK101.out 0).trans rfl; have hcz7_1 : w6.cell? ⟨gb101, 1, none⟩ = some (.int .i64 a0_1) := (blk_cell BK101.out 1).trans rfl; have hcz7_2 : w6.cell? ⟨gb101, 2, none⟩ = some (.slice A0_2 l0_2.length c0_2) := (blk_cell BK101.out 2).trans rfl; have hfz7_0 := blk_frozen BK101.out 0; have hfz7_1 := blk_frozen BK101.out 1; have hfz7_2 := blk_frozen BK101.out 2) | ((with_reducible refine gate_dst (N := 15) rfl ?_); refine Kd.R_lit (Kd.int .i64) _ 3 ?hg (N := 15) ?hd (xs := ([a2] : List Int)) (inner := [.int .i64 a2]) (ok := fun _ => True) (okp := fun _ => True) ?hr ?hp (fun _ hk => hk) trivial (Below.refl _ _) (Nat.le_refl _) (by simp) ?_; (case hd => rfl); (case hg => rfl); (case hr => exact aq14); (case hp => exact aq65); intro v103 w8 ho9 hb hg_ hnew_; clear hg_ hnew_; (first | rw [← Ny102.out] at ho9 | (simp only [Int.reduceToNat] at ho9; rw [← Ny102.out] at ho9)); have n0_ := am (Kd.R_lower ho9 (below_size aq0)); have n1_ := am (blk_below (g := gb101) (o := .cells #[.int .i64 a0_0, .int .i64 a0_1, .slice A0_2 l0_2.length c0_2] 62 (0, 0)) aq2 hb); have n2_ := am (below_step aq0 hb); clear BK101; clear HB; have HO104 := n0_; have BK101 := n1_; have HB := n2_; clear n0_ n1_ n2_; clear hb ho9; obtain ⟨Ao10, co10, eo10⟩ := Kd.R_slice HO104.out; subst eo10) | ((with_reducible refine gate_callee (f := 63) rfl ?_); refine goesL_ (some 17) rfl rfl Tryz.func63 (by kernel_rfl) rfl #[.agg #[.int .i64 a0_0, .int .i64 a0_1, .slice A0_2 l0_2.length c0_2], .slice A1 l1.length c1, .slice Ao10 y102.length co10, .string a3] rfl aq3 ?_; (with_reducible refine (spec_mcTable.calls k a0_0 a0_1 _ _ l0_2 _ _ l1 _ _ y102 a3 t105 _ ?side1 ?side2 ?side3 ?side4 ?side5 ?side6 A5.out).mono ?_); (case side1 => exact aq8); (case side2 => exact HC0_2.out); (case side3 => exact aq15); (case side4 => exact HC1.out); (case side5 => exact aq48); (case side6 => exact (Kd.R_reads' HO104.out).2.1); rintro e w11 ⟨v106, rfl, ho0, hb⟩; refine ⟨_, rfl, ?_⟩; have n0_ := am (Kd.R_elder' aq26 (Kd.R_base ho0) hb); have n1_ := am (Kd.R_lower (Kd.R_new' ho0 (Kd.R_lt aq26)) (below_size aq0)); have n2_ := am (blk_below (g := gb101) (o := .cells #[.int .i64 a0_0, .int .i64 a0_1, .slice A0_2 l0_2.length c0_2] 62 (0, 0)) aq2 hb); have n3_ := am (below_step aq0 hb); clear HO104; clear BK101; clear HB; have HO104 := n0_; have HO107 := n1_; have BK101 := n2_; have HB := n3_; clear n0_ n1_ n2_ n3_; (try clear hb); (try clear hb2); (try clear hk); (try clear hi); (try clear ho0); obtain ⟨Ao12, co12, eo12⟩ := Kd.R_slice HO107.out; subst eo12))
 go_loopg [9, 19] k (fun kq v9 v19 w' => ∃ (x9_1 : Int) (x19_1 : Int), v9 = .int .i64 x9_1 ∧ v19 = .int .i64 x19_1 ∧ Aside0 (spec_mcNumber.l0 kq x9_1 t105 (t105.length : Int) x19_1 = some r) ∧ Aside0 (kq ≤ k) ∧ Aside0 (Kd.R (Kd.int .i64) 3 w' w.heap.size (fun _ => True) (.slice Ao12 t105.length co12) t105) ∧ Aside0 (w'.heap[gb101]? = some (.cells #[.int .i64 a0_0, .int .i64 a0_1, (.slice A0_2 l0_2.length c0_2)] 62 (0, 0))) ∧ Aside0 (Below w.heap.size w w'))
 case atStart => exact ⟨(0), (0), aq6, aq6, H', ⟨Nat.le_refl _⟩, ⟨by (with_reducible repeat (first | apply Kd.R_alloc | apply Kd.R_drewN | apply Kd.R_drew)); exact Kd.R_mono HO107.out (fun _ hk => trivial)⟩, ⟨aq2⟩, ⟨aq0⟩⟩
 case round =>
  clear H'
  try clear c1
  try clear p2
  try clear c6
  try clear c7
  try clear hcz7_0
  try clear hcz7_1
  try clear hcz7_2
  try clear hfz7_0
  try clear hfz7_1
  try clear hfz7_2
  obtain ⟨x9_1, x19_1, rfl, rfl, HA, HK1, HO_17, BK101, HB⟩ := hrel
  cases gk with
  | zero => exact absurd HA.out (by simp [spec_mcNumber.l0])
  | succ k1 =>
   have H := HA.out
   clear HA
   simp only [spec_mcNumber.l0] at H
   by_cases c13 : x19_1 < (t105.length : Int)
   ·rw [if_pos c13] at H
    have c13b0 : decide (x19_1 < (t105.length : Int)) = true := decide_eq_true c13
    clear c13
    by_cases c14 : 0 ≤ x19_1
    ·rw [if_pos c14] at H
     have c14b0 : decide (0 ≤ x19_1) = true := decide_eq_true c14
     clear c14
     by_cases c15 : x19_1 < (t105.length : Int)
     ·rw [if_pos c15] at H
      have c15b0 : decide (x19_1 < (t105.length : Int)) = true := decide_eq_true c15
      clear c15
      have H' := am H
      clear H
      have p108 : 0 ≤ (x19_1 : Int) := of_decide_eq_true aq4
      have q108 : x19_1 < (t105.length : Int) := of_decide_eq_true aq4
      obtain ⟨ad108, e108, hx108_0⟩ := Kd.at_int (Kd.R_reads' HO_17.out).2.2 x19_1 p108 q108
      cases e108
      replace p108 := eq_true p108
      replace q108 := eq_true q108
      go_wp2
      go_roundg k1
      case measure => have := HK1.out; omega
      case rel => exact ⟨(wrap64 ((wrap64 (2 * x9_1)) + (rd t105 x19_1))), (wrap64 (x19_1 + 1)), aq6, aq6, H', ⟨aq68⟩, ⟨aq52⟩, ⟨aq2⟩, ⟨aq0⟩⟩
     ·rw [if_neg c15] at H
      exact absurd H (by simp)
    ·rw [if_neg c14] at H
     exact absurd H (by simp)
   ·rw [if_neg c13] at H
    have c13b0 : decide (x19_1 < (t105.length : Int)) = false := decide_eq_false c13
    clear c13
    obtain rfl := Option.some.inj H
    go_wp2
    go_ret
    exact ⟨aq7, aq0⟩
def spec_GateNumber.f (k : Nat) (a0 : ByteArray) (l1 : List Int) (a2 : Int) (a3 : ByteArray) : Option (Int × Bool) := (spec_mcTwo.f k a0 l1 a2 a3).bind fun bt101 => (if bt101.2.2.2 = true then ((spec_mcNumber.f k bt101.1 bt101.2.1 bt101.2.2.1 l1 a2 a3).bind fun t108 => (some (t108, true))) else (some (0, false)))
theorem spec_GateNumber.mono : ∀ a0 a1 a2 a3 k, LeO (spec_GateNumber.f k a0 a1 a2 a3) (spec_GateNumber.f (k + 1) a0 a1 a2 a3) := by
 intro a0 a1 a2 a3 k
 unfold spec_GateNumber.f
 have im0 := @spec_mcNumber.mono; have im1 := @spec_mcTwo.mono; exact mo
set_option maxHeartbeats 8000000 in
set_option maxRecDepth 100000 in
theorem spec_GateNumber.calls (k : Nat) (a0 : ByteArray) (A1 : Option Addr) (c1 : Nat) (l1 : List Int) (a2 : Int) (a3 : ByteArray) (r1 : Int) (r2 : Bool) (w : World) (hr1 : Kd.C (Kd.int .i64) w A1 l1.length l1) (hc1 : l1.length ≤ c1) (h : spec_GateNumber.f k a0 l1 a2 a3 = some (r1, r2)) :
  Calls Tryz.prog 30 #[.string a0, .slice A1 l1.length c1, .int .i64 a2, .string a3] w fun e w' => e = .returned (.tuple #[.int .i64 r1, .bool r2]) ∧ Below w.heap.size w w' := by
 have hu62 := Tryz.underlying62
 have HR1 := am hr1
 have HC1 := am hc1
 clear hr1 hc1
 have HB := am (Below.refl w.heap.size w)
 have H : ((spec_mcTwo.f k a0 l1 a2 a3).bind fun bt101 => (if bt101.2.2.2 = true then ((spec_mcNumber.f k bt101.1 bt101.2.1 bt101.2.2.1 l1 a2 a3).bind fun t108 => (some (t108, true))) else (some (0, false)))) = some (r1, r2) := h
 clear h
 replace H := Option.bind_eq_some_iff.mp H
 obtain ⟨⟨t101, t102, t103, t106⟩, A50, H⟩ := H
 replace H : (if t106 = true then ((spec_mcNumber.f k t101 t102 t103 l1 a2 a3).bind fun t108 => (some (t108, true))) else (some (0, false))) = some (r1, r2) := H
 have A5 := am A50
 clear A50
 by_cases c6 : t106 = true
 ·subst c6
  have H1 : ((spec_mcNumber.f k t101 t102 t103 l1 a2 a3).bind fun t108 => (some (t108, true))) = some (r1, r2) := by rw [if_pos rfl] at H; exact H
  clear H
  have H := H1
  clear H1
  replace H := Option.bind_eq_some_iff.mp H
  obtain ⟨t108, A70, H⟩ := H
  replace H : (some (t108, true)) = some (r1, r2) := H
  have A7 := am A70
  clear A70
  simp only [Option.some.injEq, Prod.mk.injEq] at H
  obtain ⟨rfl, rfl⟩ := H
  go_enter Tryz.func30, Tryz.ntmps30
  go_wp2_with (first | ((with_reducible refine gate_callee (f := 71) rfl ?_); refine goesL_ (some 17) rfl rfl Tryz.func71 (by kernel_rfl) rfl #[.string a0, .slice A1 l1.length c1, .int .i64 a2, .string a3] rfl aq3 ?_; (with_reducible refine (spec_mcTwo.calls k a0 _ _ l1 a2 a3 t101 t102 t103 true _ ?side1 ?side2 A5.out).mono ?_); (case side1 => exact aq35); (case side2 => exact HC1.out); rintro e w8 ⟨v104, rfl, ho0, hb⟩; refine ⟨_, rfl, ?_⟩; have n0_ := am (Kd.R_lower ho0 (below_size aq1)); have n1_ := am (below_step aq1 hb); clear HB; have HO105 := n0_; have HB := n1_; clear n0_ n1_; (try clear hb); (try clear hb2); (try clear hk); (try clear hi); (try clear ho0)) | ((with_reducible refine gate_dst (N := 10) rfl ?_); refine box_event ?hg (N := 10) ?hd (cs := #[.int .i64 0, .int .i64 0, .slice none 0 0]) (t := 62) ?hr ?_; (case hd => rfl); (case hg => rfl); (case hr => exact aq14); intro gb107 hg w9 hbox hb; have n0_ := am (Kd.R_below aq79 hb); have n1_ := am (below_step aq1 hb); have n2_ := am (hbox); have n3_ := am ((by rw [hg]; exact (below_size aq1) : w.heap.size ≤ gb107)); have n4_ := am ((by rw [hg]; exact (below_size aq1) : w.heap.size ≤ gb107)); clear HO105; clear HB; have HO105 := n0_; have HB := n1_; have BK107 := n2_; have GW107 := n3_; have GE107 := n4_; clear n0_ n1_ n2_ n3_ n4_; clear hb hbox hg; have hcz10_0 : w9.cell? ⟨gb107, 0, none⟩ = some (.int .i64 0) := (blk_cell BK107.out 0).trans rfl; have hcz10_1 : w9.cell? ⟨gb107, 1, none⟩ = some (.int .i64 0) := (blk_cell BK107.out 1).trans rfl; have hcz10_2 : w9.cell? ⟨gb107, 2, none⟩ = some (.slice none 0 0) := (blk_cell BK107.out 2).trans rfl; have hfz10_0 := blk_frozen BK107.out 0; have hfz10_1 := blk_frozen BK107.out 1; have hfz10_2 := blk_frozen BK107.out 2; obtain ⟨Ao11, co11, eo11⟩ := Kd.R_slice HO105.out; subst eo11) | ((with_reducible refine gate_callee (f := 72) rfl ?_); refine goesL_ (some 26) rfl rfl Tryz.func72 (by kernel_rfl) rfl #[.agg #[.int .i64 t101, .int .i64 t102, .slice Ao11 t103.length co11], .slice A1 l1.length c1, .int .i64 a2, .string a3] rfl aq3 ?_; (with_reducible refine (spec_mcNumber.calls k t101 t102 _ _ t103 _ _ l1 a2 a3 t108 _ ?side1 ?side2 ?side3 ?side4 A7.out).mono ?_); (case side1 => refine (Kd.R_reads' (e := 5) (base := w.heap.size) (ok := fun k_ => True) (n := t103.length) (c := co11) ?_).2.2; exact aq58); (case side2 => exact (Kd.R_reads' HO105.out).2.1); (case side3 => exact Kd.C_below HR1.out aq46); (case side4 => exact HC1.out); rintro e w12 ⟨rfl, hb⟩; refine ⟨_, rfl, ?_⟩; have n0_ := am (Kd.R_below aq58 hb); have n1_ := am (blk_below (g := gb107) (o := .cells #[.int .i64 t101, .int .i64 t102, .slice Ao11 t103.length co11] 62 (0, 0)) (by (with_reducible repeat (first | refine blk_drewN ?_ _ | refine blk_drew ?_ | refine blk_alloc ?_ _)); refine blk_put (cs := #[.int .i64 t101, .int .i64 t102, .slice none 0 0]) ?_ 2 _ rfl; (with_reducible repeat (first | refine blk_drewN ?_ _ | refine blk_drew ?_ | refine blk_alloc ?_ _)); refine blk_put (cs := #[.int .i64 t101, .int .i64 0, .slice none 0 0]) ?_ 1 _ rfl; (with_reducible repeat (first | refine blk_drewN ?_ _ | refine blk_drew ?_ | refine blk_alloc ?_ _)); refine blk_put (cs := #[.int .i64 0, .int .i64 0, .slice none 0 0]) ?_ 0 _ rfl; (with_reducible repeat (first | refine blk_drewN ?_ _ | refine blk_drew ?_ | refine blk_alloc ?_ _)); exact BK107.out) hb); have n2_ := am (below_step aq46 hb); clear HO105; clear BK107; clear HB; have HO105 := n0_; have BK107 := n1_; have HB := n2_; clear n0_ n1_ n2_; (try clear hb); (try clear hb2); (try clear hk); (try clear hi)))
  go_ret2
  exact ⟨aq7, aq46⟩
 ·replace c6 := Bool.eq_false_iff.mpr c6
  subst c6
  have H1 : (some (0, false)) = some (r1, r2) := by rw [if_neg (show ¬ (false = true) by decide)] at H; exact H
  clear H
  have H := H1
  clear H1
  simp only [Option.some.injEq, Prod.mk.injEq] at H
  obtain ⟨rfl, rfl⟩ := H
  go_enter Tryz.func30, Tryz.ntmps30
  go_wp2_with (first | ((with_reducible refine gate_callee (f := 71) rfl ?_); refine goesL_ (some 17) rfl rfl Tryz.func71 (by kernel_rfl) rfl #[.string a0, .slice A1 l1.length c1, .int .i64 a2, .string a3] rfl aq3 ?_; (with_reducible refine (spec_mcTwo.calls k a0 _ _ l1 a2 a3 t101 t102 t103 false _ ?side1 ?side2 A5.out).mono ?_); (case side1 => exact aq35); (case side2 => exact HC1.out); rintro e w13 ⟨v104, rfl, ho0, hb⟩; refine ⟨_, rfl, ?_⟩; have n0_ := am (Kd.R_lower ho0 (below_size aq1)); have n1_ := am (below_step aq1 hb); clear HB; have HO105 := n0_; have HB := n1_; clear n0_ n1_; (try clear hb); (try clear hb2); (try clear hk); (try clear hi); (try clear ho0)) | ((with_reducible refine gate_dst (N := 10) rfl ?_); refine box_event ?hg (N := 10) ?hd (cs := #[.int .i64 0, .int .i64 0, .slice none 0 0]) (t := 62) ?hr ?_; (case hd => rfl); (case hg => rfl); (case hr => exact aq14); intro gb107 hg w14 hbox hb; have n0_ := am (Kd.R_below aq79 hb); have n1_ := am (below_step aq1 hb); have n2_ := am (hbox); have n3_ := am ((by rw [hg]; exact (below_size aq1) : w.heap.size ≤ gb107)); have n4_ := am ((by rw [hg]; exact (below_size aq1) : w.heap.size ≤ gb107)); clear HO105; clear HB; have HO105 := n0_; have HB := n1_; have BK107 := n2_; have GW107 := n3_; have GE107 := n4_; clear n0_ n1_ n2_ n3_ n4_; clear hb hbox hg; have hcz15_0 : w14.cell? ⟨gb107, 0, none⟩ = some (.int .i64 0) := (blk_cell BK107.out 0).trans rfl; have hcz15_1 : w14.cell? ⟨gb107, 1, none⟩ = some (.int .i64 0) := (blk_cell BK107.out 1).trans rfl; have hcz15_2 : w14.cell? ⟨gb107, 2, none⟩ = some (.slice none 0 0) := (blk_cell BK107.out 2).trans rfl; have hfz15_0 := blk_frozen BK107.out 0; have hfz15_1 := blk_frozen BK107.out 1; have hfz15_2 := blk_frozen BK107.out 2; obtain ⟨Ao16, co16, eo16⟩ := Kd.R_slice HO105.out; subst eo16))
  go_ret2
  exact ⟨aq7, aq46⟩
def impl_isTwo.f (k : Nat) (a0 : ByteArray) (l1 : List Int) (a2 : Int) : Option (Bool) := if (l1.length : Int) = 2 then ((impl_isGate.f k a0 l1 (([a2] : List Int))).bind fun t104 => (some t104)) else (some false)
theorem impl_isTwo.mono : ∀ a0 a1 a2 k, LeO (impl_isTwo.f k a0 a1 a2) (impl_isTwo.f (k + 1) a0 a1 a2) := by
 intro a0 a1 a2 k
 unfold impl_isTwo.f
 have im0 := @impl_isGate.mono; exact mo
set_option maxHeartbeats 8000000 in
set_option maxRecDepth 100000 in
theorem impl_isTwo.calls (k : Nat) (a0 : ByteArray) (A1 : Option Addr) (c1 : Nat) (l1 : List Int) (a2 : Int) (r : Bool) (w : World) (hr1 : Kd.C (Kd.int .i64) w A1 l1.length l1) (hc1 : l1.length ≤ c1) (h : impl_isTwo.f k a0 l1 a2 = some r) :
  Calls Tryz.prog 73 #[.string a0, .slice A1 l1.length c1, .int .i64 a2] w fun e w' => e = .returned (.bool r) ∧ Below w.heap.size w w' := by
 have HR1 := am hr1
 have HC1 := am hc1
 clear hr1 hc1
 have HB := am (Below.refl w.heap.size w)
 have H : (if (l1.length : Int) = 2 then ((impl_isGate.f k a0 l1 (([a2] : List Int))).bind fun t104 => (some t104)) else (some false)) = some r := h
 clear h
 by_cases c4 : (l1.length : Int) = 2
 ·rw [if_pos c4] at H
  have c4b0 : ((l1.length : Int) == 2) = true := beq_iff_eq.mpr c4
  have c4b1 : ((l1.length : Int) != 2) = false := bne_eq_false_iff_eq.mpr c4
  clear c4
  obtain ⟨y101, hy101⟩ : ∃ y_ : List Int, y_ = (([a2] : List Int)) := ⟨_, rfl⟩
  replace H : ((impl_isGate.f k a0 l1 y101).bind fun t104 => (some t104)) = some r := by first | (rw [hy101]; with_reducible exact H) | (have H2_ := (Option.bind_some _ _).symm.trans H; rw [hy101]; with_reducible exact H2_) | (have H2_ := (Option.bind_some _ _).symm.trans H; with_reducible exact H2_) | with_reducible exact H | (rw [hy101]; exact H) | exact H
  have Ny101 := am hy101
  clear hy101
  replace H := Option.bind_eq_some_iff.mp H
  obtain ⟨t104, A50, H⟩ := H
  replace H : (some t104) = some r := H
  have A5 := am A50
  clear A50
  obtain rfl := Option.some.inj H
  go_enter Tryz.func73, Tryz.ntmps73
  go_wp2_with (first | ((with_reducible refine gate_dst (N := 14) rfl ?_); (try (refine gate_guard (by rfl) ?_; dsimp only)); refine Kd.R_lit (Kd.int .i64) _ 3 ?hg (N := 14) ?hd (xs := ([a2] : List Int)) (inner := [.int .i64 a2]) (ok := fun _ => True) (okp := fun _ => True) ?hr ?hp (fun _ hk => hk) trivial (Below.refl _ _) (Nat.le_refl _) (by simp) ?_; (case hd => rfl); (case hg => rfl); (case hr => exact aq14); (case hp => exact aq65); intro v102 w6 ho7 hb hg_ hnew_; clear hg_ hnew_; (first | rw [← Ny101.out] at ho7 | (simp only [Int.reduceToNat] at ho7; rw [← Ny101.out] at ho7)); have n0_ := am (Kd.R_lower ho7 (below_size aq1)); have n1_ := am (below_step aq1 hb); clear HB; have HO103 := n0_; have HB := n1_; clear n0_ n1_; clear hb ho7; obtain ⟨Ao8, co8, eo8⟩ := Kd.R_slice HO103.out; subst eo8) | (go_at_call 64; (with_reducible refine (impl_isGate.calls k a0 _ _ l1 _ _ y101 t104 _ ?side1 ?side2 ?side3 ?side4 A5.out).mono ?_); (case side1 => exact aq15); (case side2 => exact HC1.out); (case side3 => exact aq62); (case side4 => exact (Kd.R_reads' HO103.out).2.1); rintro e w9 ⟨rfl, hb⟩; have n0_ := am (Kd.R_below aq24 hb); have n1_ := am (below_step aq1 hb); clear HO103; clear HB; have HO103 := n0_; have HB := n1_; clear n0_ n1_; (try clear hb); (try clear hb2); (try clear hk); (try clear hi)))
  go_ret
  exact ⟨aq7, aq1⟩
 ·rw [if_neg c4] at H
  have c4b0 : ((l1.length : Int) == 2) = false := beq_eq_false_iff_ne.mpr c4
  have c4b1 : ((l1.length : Int) != 2) = true := bne_iff_ne.mpr c4
  obtain rfl := Option.some.inj H
  go_enter Tryz.func73, Tryz.ntmps73
  go_wp2
  go_ret
  exact ⟨aq7, aq1⟩
def impl_gate.l0 : Nat → Int → List Int → Int → Int → Option (Int)
 | 0, _, _, _, _ => none
 | k + 1, x9, x17, x18, x19 => if x19 < x18 then (if 0 ≤ x19 then (if x19 < (x17.length : Int) then (impl_gate.l0 k (wrap64 ((wrap64 (2 * x9)) + (rd x17 x19))) x17 x18 (wrap64 (x19 + 1))) else (none)) else (none)) else (some x9)
def impl_gate.f (k : Nat) (a0 : ByteArray) (l1 : List Int) (a2 : Int) (a3 : ByteArray) : Option (Int) := (impl_table.f k a0 l1 (([a2] : List Int)) a3).bind fun t104 => (impl_gate.l0 k 0 t104 (t104.length : Int) 0)
theorem impl_gate.mono_l : ∀ k, (∀ y0 y1 y2 y3, LeO (impl_gate.l0 k y0 y1 y2 y3) (impl_gate.l0 (k + 1) y0 y1 y2 y3))
 | 0 => fun _ _ _ _ r h => by simp [impl_gate.l0] at h
 | k + 1 => by
  have ih0 := impl_gate.mono_l k
  ·intro y0 y1 y2 y3
   unfold impl_gate.l0
   have im0 := @impl_table.mono; exact mo
theorem impl_gate.mono : ∀ a0 a1 a2 a3 k, LeO (impl_gate.f k a0 a1 a2 a3) (impl_gate.f (k + 1) a0 a1 a2 a3) := by
 intro a0 a1 a2 a3 k
 have ih0 := impl_gate.mono_l k
 unfold impl_gate.f
 have im0 := @impl_table.mono; exact mo
set_option maxHeartbeats 8000000 in
set_option maxRecDepth 100000 in
theorem impl_gate.calls (k : Nat) (a0 : ByteArray) (A1 : Option Addr) (c1 : Nat) (l1 : List Int) (a2 : Int) (a3 : ByteArray) (r : Int) (w : World) (hr1 : Kd.C (Kd.int .i64) w A1 l1.length l1) (hc1 : l1.length ≤ c1) (h : impl_gate.f k a0 l1 a2 a3 = some r) :
  Calls Tryz.prog 74 #[.string a0, .slice A1 l1.length c1, .int .i64 a2, .string a3] w fun e w' => e = .returned (.int .i64 r) ∧ Below w.heap.size w w' := by
 have HR1 := am hr1
 have HC1 := am hc1
 clear hr1 hc1
 have HB := am (Below.refl w.heap.size w)
 have H : ((impl_table.f k a0 l1 (([a2] : List Int)) a3).bind fun t104 => (impl_gate.l0 k 0 t104 (t104.length : Int) 0)) = some r := h
 clear h
 obtain ⟨y101, hy101⟩ : ∃ y_ : List Int, y_ = (([a2] : List Int)) := ⟨_, rfl⟩
 replace H : ((impl_table.f k a0 l1 y101 a3).bind fun t104 => (impl_gate.l0 k 0 t104 (t104.length : Int) 0)) = some r := by first | (rw [hy101]; with_reducible exact H) | (have H2_ := (Option.bind_some _ _).symm.trans H; rw [hy101]; with_reducible exact H2_) | (have H2_ := (Option.bind_some _ _).symm.trans H; with_reducible exact H2_) | with_reducible exact H | (rw [hy101]; exact H) | exact H
 have Ny101 := am hy101
 clear hy101
 replace H := Option.bind_eq_some_iff.mp H
 obtain ⟨t104, A50, H⟩ := H
 replace H : (impl_gate.l0 k 0 t104 (t104.length : Int) 0) = some r := H
 have A5 := am A50
 clear A50
 have H' := am H
 clear H
 go_enter Tryz.func74, Tryz.ntmps74
 go_wp2_with (first | ((with_reducible refine gate_dst (N := 15) rfl ?_); refine Kd.R_lit (Kd.int .i64) _ 3 ?hg (N := 15) ?hd (xs := ([a2] : List Int)) (inner := [.int .i64 a2]) (ok := fun _ => True) (okp := fun _ => True) ?hr ?hp (fun _ hk => hk) trivial (Below.refl _ _) (Nat.le_refl _) (by simp) ?_; (case hd => rfl); (case hg => rfl); (case hr => exact aq14); (case hp => exact aq65); intro v102 w6 ho7 hb hg_ hnew_; clear hg_ hnew_; (first | rw [← Ny101.out] at ho7 | (simp only [Int.reduceToNat] at ho7; rw [← Ny101.out] at ho7)); have n0_ := am (Kd.R_lower ho7 (below_size aq1)); have n1_ := am (below_step aq1 hb); clear HB; have HO103 := n0_; have HB := n1_; clear n0_ n1_; clear hb ho7; obtain ⟨Ao8, co8, eo8⟩ := Kd.R_slice HO103.out; subst eo8) | ((with_reducible refine gate_callee (f := 66) rfl ?_); refine goesL_ (some 17) rfl rfl Tryz.func66 (by kernel_rfl) rfl #[.string a0, .slice A1 l1.length c1, .slice Ao8 y101.length co8, .string a3] rfl aq3 ?_; (with_reducible refine (impl_table.calls k a0 _ _ l1 _ _ y101 a3 t104 _ ?side1 ?side2 ?side3 ?side4 A5.out).mono ?_); (case side1 => exact aq15); (case side2 => exact HC1.out); (case side3 => exact aq62); (case side4 => exact (Kd.R_reads' HO103.out).2.1); rintro e w9 ⟨v105, rfl, ho0, hb⟩; refine ⟨_, rfl, ?_⟩; have n0_ := am (Kd.R_elder' aq24 (Kd.R_base ho0) hb); have n1_ := am (Kd.R_lower (Kd.R_new' ho0 (Kd.R_lt aq24)) (below_size aq1)); have n2_ := am (below_step aq1 hb); clear HO103; clear HB; have HO103 := n0_; have HO106 := n1_; have HB := n2_; clear n0_ n1_ n2_; (try clear hb); (try clear hb2); (try clear hk); (try clear hi); (try clear ho0); obtain ⟨Ao10, co10, eo10⟩ := Kd.R_slice HO106.out; subst eo10))
 go_loopg [9, 19] k (fun kq v9 v19 w' => ∃ (x9_1 : Int) (x19_1 : Int), v9 = .int .i64 x9_1 ∧ v19 = .int .i64 x19_1 ∧ Aside0 (impl_gate.l0 kq x9_1 t104 (t104.length : Int) x19_1 = some r) ∧ Aside0 (kq ≤ k) ∧ Aside0 (Kd.R (Kd.int .i64) 3 w' w.heap.size (fun _ => True) (.slice Ao10 t104.length co10) t104) ∧ Aside0 (Below w.heap.size w w'))
 case atStart => exact ⟨(0), (0), aq6, aq6, H', ⟨Nat.le_refl _⟩, ⟨by (with_reducible repeat (first | apply Kd.R_alloc | apply Kd.R_drewN | apply Kd.R_drew)); exact Kd.R_mono HO106.out (fun _ hk => trivial)⟩, ⟨aq1⟩⟩
 case round =>
  clear H'
  try clear c1
  try clear p2
  try clear c6
  try clear c7
  obtain ⟨x9_1, x19_1, rfl, rfl, HA, HK1, HO_17, HB⟩ := hrel
  cases gk with
  | zero => exact absurd HA.out (by simp [impl_gate.l0])
  | succ k1 =>
   have H := HA.out
   clear HA
   simp only [impl_gate.l0] at H
   by_cases c11 : x19_1 < (t104.length : Int)
   ·rw [if_pos c11] at H
    have c11b0 : decide (x19_1 < (t104.length : Int)) = true := decide_eq_true c11
    clear c11
    by_cases c12 : 0 ≤ x19_1
    ·rw [if_pos c12] at H
     have c12b0 : decide (0 ≤ x19_1) = true := decide_eq_true c12
     clear c12
     by_cases c13 : x19_1 < (t104.length : Int)
     ·rw [if_pos c13] at H
      have c13b0 : decide (x19_1 < (t104.length : Int)) = true := decide_eq_true c13
      clear c13
      have H' := am H
      clear H
      have p107 : 0 ≤ (x19_1 : Int) := of_decide_eq_true aq4
      have q107 : x19_1 < (t104.length : Int) := of_decide_eq_true aq4
      obtain ⟨ad107, e107, hx107_0⟩ := Kd.at_int (Kd.R_reads' HO_17.out).2.2 x19_1 p107 q107
      cases e107
      replace p107 := eq_true p107
      replace q107 := eq_true q107
      go_wp2
      go_roundg k1
      case measure => have := HK1.out; omega
      case rel => exact ⟨(wrap64 ((wrap64 (2 * x9_1)) + (rd t104 x19_1))), (wrap64 (x19_1 + 1)), aq6, aq6, H', ⟨aq68⟩, ⟨aq52⟩, ⟨aq1⟩⟩
     ·rw [if_neg c13] at H
      exact absurd H (by simp)
    ·rw [if_neg c12] at H
     exact absurd H (by simp)
   ·rw [if_neg c11] at H
    have c11b0 : decide (x19_1 < (t104.length : Int)) = false := decide_eq_false c11
    clear c11
    obtain rfl := Option.some.inj H
    go_wp2
    go_ret
    exact ⟨aq7, aq1⟩
def impl_GateNumber.f (k : Nat) (a0 : ByteArray) (l1 : List Int) (a2 : Int) (a3 : ByteArray) : Option (Int × Bool) := (impl_isTwo.f k a0 l1 a2).bind fun t101 => (if t101 = true then ((impl_IsWord.f a3).bind fun t102 => (if t102 = true then ((impl_gate.f k a0 l1 a2 a3).bind fun t103 => (some (t103, true))) else (some (0, false)))) else (some (0, false)))
theorem impl_GateNumber.mono : ∀ a0 a1 a2 a3 k, LeO (impl_GateNumber.f k a0 a1 a2 a3) (impl_GateNumber.f (k + 1) a0 a1 a2 a3) := by
 intro a0 a1 a2 a3 k
 unfold impl_GateNumber.f
 have im0 := @impl_gate.mono; have im1 := @impl_isTwo.mono; exact mo
set_option maxHeartbeats 8000000 in
set_option maxRecDepth 100000 in
theorem impl_GateNumber.calls (k : Nat) (a0 : ByteArray) (A1 : Option Addr) (c1 : Nat) (l1 : List Int) (a2 : Int) (a3 : ByteArray) (r1 : Int) (r2 : Bool) (w : World) (hr1 : Kd.C (Kd.int .i64) w A1 l1.length l1) (hc1 : l1.length ≤ c1) (h : impl_GateNumber.f k a0 l1 a2 a3 = some (r1, r2)) :
  Calls Tryz.prog 31 #[.string a0, .slice A1 l1.length c1, .int .i64 a2, .string a3] w fun e w' => e = .returned (.tuple #[.int .i64 r1, .bool r2]) ∧ Below w.heap.size w w' := by
 have HR1 := am hr1
 have HC1 := am hc1
 clear hr1 hc1
 have HB := am (Below.refl w.heap.size w)
 have H : ((impl_isTwo.f k a0 l1 a2).bind fun t101 => (if t101 = true then ((impl_IsWord.f a3).bind fun t102 => (if t102 = true then ((impl_gate.f k a0 l1 a2 a3).bind fun t103 => (some (t103, true))) else (some (0, false)))) else (some (0, false)))) = some (r1, r2) := h
 clear h
 replace H := Option.bind_eq_some_iff.mp H
 obtain ⟨t101, A50, H⟩ := H
 replace H : (if t101 = true then ((impl_IsWord.f a3).bind fun t102 => (if t102 = true then ((impl_gate.f k a0 l1 a2 a3).bind fun t103 => (some (t103, true))) else (some (0, false)))) else (some (0, false))) = some (r1, r2) := H
 have A5 := am A50
 clear A50
 by_cases c6 : t101 = true
 ·subst c6
  have H1 : ((impl_IsWord.f a3).bind fun t102 => (if t102 = true then ((impl_gate.f k a0 l1 a2 a3).bind fun t103 => (some (t103, true))) else (some (0, false)))) = some (r1, r2) := by rw [if_pos rfl] at H; exact H
  clear H
  have H := H1
  clear H1
  replace H := Option.bind_eq_some_iff.mp H
  obtain ⟨t102, A70, H⟩ := H
  replace H : (if t102 = true then ((impl_gate.f k a0 l1 a2 a3).bind fun t103 => (some (t103, true))) else (some (0, false))) = some (r1, r2) := H
  have A7 := am A70
  clear A70
  by_cases c8 : t102 = true
  ·subst c8
   have H1 : ((impl_gate.f k a0 l1 a2 a3).bind fun t103 => (some (t103, true))) = some (r1, r2) := by rw [if_pos rfl] at H; exact H
   clear H
   have H := H1
   clear H1
   replace H := Option.bind_eq_some_iff.mp H
   obtain ⟨t103, A90, H⟩ := H
   replace H : (some (t103, true)) = some (r1, r2) := H
   have A9 := am A90
   clear A90
   simp only [Option.some.injEq, Prod.mk.injEq] at H
   obtain ⟨rfl, rfl⟩ := H
   go_enter Tryz.func31, Tryz.ntmps31
   go_wp2_with (first | ((with_reducible refine gate_callee (f := 73) rfl ?_); refine goesL_ (some 13) rfl rfl Tryz.func73 (by kernel_rfl) rfl #[.string a0, .slice A1 l1.length c1, .int .i64 a2] rfl aq3 ?_; (with_reducible refine (impl_isTwo.calls k a0 _ _ l1 a2 true _ ?side1 ?side2 A5.out).mono ?_); (case side1 => exact aq35); (case side2 => exact HC1.out); rintro e w10 ⟨rfl, hb⟩; refine ⟨_, rfl, ?_⟩; have n0_ := am (below_step aq1 hb); clear HB; have HB := n0_; clear n0_; (try clear hb); (try clear hb2); (try clear hk); (try clear hi)) | (go_at_call 65; (with_reducible refine (impl_IsWord.calls a3 true _ A7.out).mono ?_); rintro e w11 ⟨rfl, hb⟩; have n0_ := am (below_step aq1 hb); clear HB; have HB := n0_; clear n0_; (try clear hb); (try clear hb2); (try clear hk); (try clear hi)) | ((with_reducible refine gate_callee (f := 74) rfl ?_); refine goesL_ (some 24) rfl rfl Tryz.func74 (by kernel_rfl) rfl #[.string a0, .slice A1 l1.length c1, .int .i64 a2, .string a3] rfl aq3 ?_; (with_reducible refine (impl_gate.calls k a0 _ _ l1 a2 a3 t103 _ ?side1 ?side2 A9.out).mono ?_); (case side1 => exact aq15); (case side2 => exact HC1.out); rintro e w12 ⟨rfl, hb⟩; refine ⟨_, rfl, ?_⟩; have n0_ := am (below_step aq1 hb); clear HB; have HB := n0_; clear n0_; (try clear hb); (try clear hb2); (try clear hk); (try clear hi)))
   go_ret2
   exact ⟨aq7, aq1⟩
  ·replace c8 := Bool.eq_false_iff.mpr c8
   subst c8
   have H1 : (some (0, false)) = some (r1, r2) := by rw [if_neg (show ¬ (false = true) by decide)] at H; exact H
   clear H
   have H := H1
   clear H1
   simp only [Option.some.injEq, Prod.mk.injEq] at H
   obtain ⟨rfl, rfl⟩ := H
   go_enter Tryz.func31, Tryz.ntmps31
   go_wp2_with (first | ((with_reducible refine gate_callee (f := 73) rfl ?_); refine goesL_ (some 13) rfl rfl Tryz.func73 (by kernel_rfl) rfl #[.string a0, .slice A1 l1.length c1, .int .i64 a2] rfl aq3 ?_; (with_reducible refine (impl_isTwo.calls k a0 _ _ l1 a2 true _ ?side1 ?side2 A5.out).mono ?_); (case side1 => exact aq35); (case side2 => exact HC1.out); rintro e w13 ⟨rfl, hb⟩; refine ⟨_, rfl, ?_⟩; have n0_ := am (below_step aq1 hb); clear HB; have HB := n0_; clear n0_; (try clear hb); (try clear hb2); (try clear hk); (try clear hi)) | (go_at_call 65; (with_reducible refine (impl_IsWord.calls a3 false _ A7.out).mono ?_); rintro e w14 ⟨rfl, hb⟩; have n0_ := am (below_step aq1 hb); clear HB; have HB := n0_; clear n0_; (try clear hb); (try clear hb2); (try clear hk); (try clear hi)))
   go_ret2
   exact ⟨aq7, aq1⟩
 ·replace c6 := Bool.eq_false_iff.mpr c6
  subst c6
  have H1 : (some (0, false)) = some (r1, r2) := by rw [if_neg (show ¬ (false = true) by decide)] at H; exact H
  clear H
  have H := H1
  clear H1
  simp only [Option.some.injEq, Prod.mk.injEq] at H
  obtain ⟨rfl, rfl⟩ := H
  go_enter Tryz.func31, Tryz.ntmps31
  go_wp2_with (first | ((with_reducible refine gate_callee (f := 73) rfl ?_); refine goesL_ (some 13) rfl rfl Tryz.func73 (by kernel_rfl) rfl #[.string a0, .slice A1 l1.length c1, .int .i64 a2] rfl aq3 ?_; (with_reducible refine (impl_isTwo.calls k a0 _ _ l1 a2 false _ ?side1 ?side2 A5.out).mono ?_); (case side1 => exact aq35); (case side2 => exact HC1.out); rintro e w15 ⟨rfl, hb⟩; refine ⟨_, rfl, ?_⟩; have n0_ := am (below_step aq1 hb); clear HB; have HB := n0_; clear n0_; (try clear hb); (try clear hb2); (try clear hk); (try clear hi)))
  go_ret2
  exact ⟨aq7, aq1⟩
def laws_FnExactGateNumber.j0 : Nat → List Int → List Int → Bool → Option (Bool)
 | 0, _, _, _ => none
 | k + 1, x1, x11, x49 => if x49 = true then (some false) else ((laws_toIntS.f k x1).bind fun t111 => ((laws_eqIntS.f k x11 t111).bind fun t114 => (if t114 = true then (some true) else (some false))))
def laws_FnExactGateNumber.f (k : Nat) (a0 : ByteArray) (l1 : List Int) (a2 : Int) (a3 : ByteArray) : Option (Bool) := if (a0.size : Int) > 1048576 then (some true) else (if (l1.length : Int) > 1048576 then (some true) else (if (a3.size : Int) > 1048576 then (some true) else ((laws_toIntS.f k l1).bind fun t101 => ((spec_GateNumber.f k a0 t101 a2 a3).bind fun bt104 => ((laws_toIntS.f k l1).bind fun t106 => ((impl_GateNumber.f k a0 t106 a2 a3).bind fun bt109 => (if bt109.1 = bt104.1 then (laws_FnExactGateNumber.j0 k l1 t106 (bt109.2 != bt104.2)) else (laws_FnExactGateNumber.j0 k l1 t106 true))))))))
theorem laws_FnExactGateNumber.mono_l : ∀ k, (∀ y0 y1 y2, LeO (laws_FnExactGateNumber.j0 k y0 y1 y2) (laws_FnExactGateNumber.j0 (k + 1) y0 y1 y2))
 | 0 => fun _ _ _ r h => by simp [laws_FnExactGateNumber.j0] at h
 | k + 1 => by
  have ih0 := laws_FnExactGateNumber.mono_l k
  ·intro y0 y1 y2
   unfold laws_FnExactGateNumber.j0
   have im0 := @impl_GateNumber.mono; have im1 := @laws_eqIntS.mono; have im2 := @laws_toIntS.mono; have im3 := @spec_GateNumber.mono; exact mo
set_option maxHeartbeats 8000000 in
set_option maxRecDepth 100000 in
theorem laws_FnExactGateNumber.calls (k : Nat) (a0 : ByteArray) (A1 : Option Addr) (c1 : Nat) (l1 : List Int) (a2 : Int) (a3 : ByteArray) (r : Bool) (w : World) (hr1 : Kd.C (Kd.int .i64) w A1 l1.length l1) (hc1 : l1.length ≤ c1) (h : laws_FnExactGateNumber.f k a0 l1 a2 a3 = some r) :
  Calls Tryz.prog 7 #[.string a0, .slice A1 l1.length c1, .int .i64 a2, .string a3] w fun e w' => e = .returned (.bool r) ∧ Below w.heap.size w w' := by
 have HR1 := am hr1
 have HC1 := am hc1
 clear hr1 hc1
 have HB := am (Below.refl w.heap.size w)
 have H : (if (a0.size : Int) > 1048576 then (some true) else (if (l1.length : Int) > 1048576 then (some true) else (if (a3.size : Int) > 1048576 then (some true) else ((laws_toIntS.f k l1).bind fun t101 => ((spec_GateNumber.f k a0 t101 a2 a3).bind fun bt104 => ((laws_toIntS.f k l1).bind fun t106 => ((impl_GateNumber.f k a0 t106 a2 a3).bind fun bt109 => (if bt109.1 = bt104.1 then (laws_FnExactGateNumber.j0 k l1 t106 (bt109.2 != bt104.2)) else (laws_FnExactGateNumber.j0 k l1 t106 true))))))))) = some r := h
 clear h
 by_cases c5 : (a0.size : Int) > 1048576
 ·rw [if_pos c5] at H
  have c5b0 : decide (1048576 < (a0.size : Int)) = true := decide_eq_true c5
  have c5b1 : decide (1048576 < a0.size) = true := decide_eq_true (by omega)
  clear c5
  obtain rfl := Option.some.inj H
  go_enter Tryz.func7, Tryz.ntmps7
  go_wp2
  go_ret
  exact ⟨aq7, aq1⟩
 ·rw [if_neg c5] at H
  have c5b0 : decide (1048576 < (a0.size : Int)) = false := decide_eq_false c5
  have c5b1 : decide (1048576 < a0.size) = false := decide_eq_false (by omega)
  clear c5
  by_cases c6 : (l1.length : Int) > 1048576
  ·rw [if_pos c6] at H
   have c6b0 : decide (1048576 < (l1.length : Int)) = true := decide_eq_true c6
   have c6b1 : decide (1048576 < l1.length) = true := decide_eq_true (by omega)
   clear c6
   obtain rfl := Option.some.inj H
   go_enter Tryz.func7, Tryz.ntmps7
   go_wp2
   go_ret
   exact ⟨aq7, aq1⟩
  ·rw [if_neg c6] at H
   have c6b0 : decide (1048576 < (l1.length : Int)) = false := decide_eq_false c6
   have c6b1 : decide (1048576 < l1.length) = false := decide_eq_false (by omega)
   clear c6
   by_cases c7 : (a3.size : Int) > 1048576
   ·rw [if_pos c7] at H
    have c7b0 : decide (1048576 < (a3.size : Int)) = true := decide_eq_true c7
    have c7b1 : decide (1048576 < a3.size) = true := decide_eq_true (by omega)
    clear c7
    obtain rfl := Option.some.inj H
    go_enter Tryz.func7, Tryz.ntmps7
    go_wp2
    go_ret
    exact ⟨aq7, aq1⟩
   ·rw [if_neg c7] at H
    have c7b0 : decide (1048576 < (a3.size : Int)) = false := decide_eq_false c7
    have c7b1 : decide (1048576 < a3.size) = false := decide_eq_false (by omega)
    clear c7
    replace H := Option.bind_eq_some_iff.mp H
    obtain ⟨t101, A80, H⟩ := H
    replace H : ((spec_GateNumber.f k a0 t101 a2 a3).bind fun bt104 => ((laws_toIntS.f k l1).bind fun t106 => ((impl_GateNumber.f k a0 t106 a2 a3).bind fun bt109 => (if bt109.1 = bt104.1 then (laws_FnExactGateNumber.j0 k l1 t106 (bt109.2 != bt104.2)) else (laws_FnExactGateNumber.j0 k l1 t106 true))))) = some r := H
    have A8 := am A80
    clear A80
    replace H := Option.bind_eq_some_iff.mp H
    obtain ⟨⟨t104, t105⟩, A90, H⟩ := H
    replace H : ((laws_toIntS.f k l1).bind fun t106 => ((impl_GateNumber.f k a0 t106 a2 a3).bind fun bt109 => (if bt109.1 = t104 then (laws_FnExactGateNumber.j0 k l1 t106 (bt109.2 != t105)) else (laws_FnExactGateNumber.j0 k l1 t106 true)))) = some r := H
    have A9 := am A90
    clear A90
    replace H := Option.bind_eq_some_iff.mp H
    obtain ⟨t106, A100, H⟩ := H
    replace H : ((impl_GateNumber.f k a0 t106 a2 a3).bind fun bt109 => (if bt109.1 = t104 then (laws_FnExactGateNumber.j0 k l1 t106 (bt109.2 != t105)) else (laws_FnExactGateNumber.j0 k l1 t106 true))) = some r := H
    have A10 := am A100
    clear A100
    replace H := Option.bind_eq_some_iff.mp H
    obtain ⟨⟨t109, t110⟩, A110, H⟩ := H
    replace H : (if t109 = t104 then (laws_FnExactGateNumber.j0 k l1 t106 (t110 != t105)) else (laws_FnExactGateNumber.j0 k l1 t106 true)) = some r := H
    have A11 := am A110
    clear A110
    have HC12 := am H
    clear H
    go_enter Tryz.func7, Tryz.ntmps7
    go_upto_region 10 with (first | ((with_reducible refine gate_callee (f := 21) rfl ?_); refine goesL_ (some 26) rfl rfl Tryz.func21 (by kernel_rfl) rfl #[.slice A1 l1.length c1] rfl aq3 ?_; (with_reducible refine (laws_toIntS.calls k _ _ l1 t101 _ ?side1 ?side2 A8.out).mono ?_); (case side1 => exact aq35); (case side2 => exact HC1.out); rintro e w13 ⟨v102, rfl, ho0, hb⟩; refine ⟨_, rfl, ?_⟩; have n0_ := am (Kd.R_lower ho0 (below_size aq1)); have n1_ := am (below_step aq1 hb); clear HB; have HO103 := n0_; have HB := n1_; clear n0_ n1_; (try clear hb); (try clear hb2); (try clear hk); (try clear hi); (try clear ho0); obtain ⟨Ao14, co14, eo14⟩ := Kd.R_slice HO103.out; subst eo14) | ((with_reducible refine gate_callee (f := 30) rfl ?_); refine goesL_ (some 29) rfl rfl Tryz.func30 (by kernel_rfl) rfl #[.string a0, .slice Ao14 t101.length co14, .int .i64 a2, .string a3] rfl aq3 ?_; (with_reducible refine (spec_GateNumber.calls k a0 _ _ t101 a2 a3 t104 t105 _ ?side1 ?side2 A9.out).mono ?_); (case side1 => exact aq62); (case side2 => exact (Kd.R_reads' HO103.out).2.1); rintro e w15 ⟨rfl, hb⟩; refine ⟨_, rfl, ?_⟩; have n0_ := am (Kd.R_below aq24 hb); have n1_ := am (below_step aq1 hb); clear HO103; clear HB; have HO103 := n0_; have HB := n1_; clear n0_ n1_; (try clear hb); (try clear hb2); (try clear hk); (try clear hi)) | ((with_reducible refine gate_callee (f := 21) rfl ?_); refine goesL_ (some 33) rfl rfl Tryz.func21 (by kernel_rfl) rfl #[.slice A1 l1.length c1] rfl aq3 ?_; (with_reducible refine (laws_toIntS.calls k _ _ l1 t106 _ ?side1 ?side2 A10.out).mono ?_); (case side1 => exact aq15); (case side2 => exact HC1.out); rintro e w16 ⟨v107, rfl, ho0, hb⟩; refine ⟨_, rfl, ?_⟩; have n0_ := am (Kd.R_elder' aq24 (Kd.R_base ho0) hb); have n1_ := am (Kd.R_lower (Kd.R_new' ho0 (Kd.R_lt aq24)) (below_size aq1)); have n2_ := am (below_step aq1 hb); clear HO103; clear HB; have HO103 := n0_; have HO108 := n1_; have HB := n2_; clear n0_ n1_ n2_; (try clear hb); (try clear hb2); (try clear hk); (try clear hi); (try clear ho0); obtain ⟨Ao17, co17, eo17⟩ := Kd.R_slice HO108.out; subst eo17) | ((with_reducible refine gate_callee (f := 31) rfl ?_); refine goesL_ (some 39) rfl rfl Tryz.func31 (by kernel_rfl) rfl #[.string a0, .slice Ao17 t106.length co17, .int .i64 a2, .string a3] rfl aq3 ?_; (with_reducible refine (impl_GateNumber.calls k a0 _ _ t106 a2 a3 t109 t110 _ ?side1 ?side2 A11.out).mono ?_); (case side1 => repeat (first | exact (Kd.R_reads' HO108.out).2.2 | (with_reducible refine Kd.C_alloc ?_ _) | (with_reducible refine Kd.C_drewN ?_ _) | (with_reducible refine Kd.C_drew ?_))); (case side2 => exact (Kd.R_reads' HO108.out).2.1); rintro e w18 ⟨rfl, hb⟩; refine ⟨_, rfl, ?_⟩; have n0_ := am (Kd.R_below aq24 hb); have n1_ := am (Kd.R_below (by (with_reducible repeat (first | apply Kd.R_alloc | apply Kd.R_drewN | apply Kd.R_drew)); exact HO108.out) hb); have n2_ := am (below_step aq1 hb); clear HO103; clear HO108; clear HB; have HO103 := n0_; have HO108 := n1_; have HB := n2_; clear n0_ n1_ n2_; (try clear hb); (try clear hb2); (try clear hk); (try clear hi)))
    (try simp only [Act.put, List.setIfInBounds_toArray, List.set_cons_zero, List.set_cons_succ])
    go_cut [49] (fun v49 wc => ∃ (kq : Nat) (x49_11 : Bool), v49 = .bool x49_11 ∧ Aside0 (laws_FnExactGateNumber.j0 kq l1 t106 x49_11 = some r) ∧ Aside0 (kq ≤ k) ∧ Aside0 (Kd.R (Kd.int .i64) 3 wc w.heap.size (fun _ => True) (.slice Ao17 t106.length co17) t106) ∧ Aside0 (Below w.heap.size w wc))
    case first =>
     have H := HC12.out
     clear HC12
     by_cases c19 : t109 = t104
     ·rw [if_pos c19] at H
      have c19b0 : (t109 == t104) = true := beq_iff_eq.mpr c19
      have c19b1 : (t109 != t104) = false := bne_eq_false_iff_eq.mpr c19
      clear c19
      (first | rw [c19b0] | (simp only [i64_w, i32_w]; rw [c19b0]) | skip)
      have H' := am H
      clear H
      go_wp2
      go_meet
      case rel => exact ⟨_, ((t110 != t105)), aq6, H', ⟨aq71⟩, ⟨aq99⟩, ⟨aq1⟩⟩
     ·rw [if_neg c19] at H
      have c19b0 : (t109 == t104) = false := beq_eq_false_iff_ne.mpr c19
      have c19b1 : (t109 != t104) = true := bne_iff_ne.mpr c19
      (first | rw [c19b0] | (simp only [i64_w, i32_w]; rw [c19b0]) | skip)
      have H' := am H
      clear H
      go_wp2
      go_meet
      case rel => exact ⟨_, (true), aq6, H', ⟨aq71⟩, ⟨aq99⟩, ⟨aq1⟩⟩
    case rest =>
     clear HC12
     try clear c1
     try clear c2
     try clear p2
     try clear c3
     try clear c5
     try clear c5b0
     try clear c5b1
     try clear c6
     try clear c6b0
     try clear c6b1
     try clear c7
     try clear c7b0
     try clear c7b1
     try clear c19
     try clear c19b0
     try clear c19b1
     obtain ⟨kq, x49_11, rfl, HA, HJ11, HO_11, HB⟩ := hcut
     cases kq with
     | zero => exact absurd HA.out (by simp [laws_FnExactGateNumber.j0])
     | succ kj11 =>
      have H := HA.out
      clear HA
      simp only [laws_FnExactGateNumber.j0] at H
      by_cases c20 : x49_11 = true
      ·subst c20
       have H1 : (some false) = some r := by rw [if_pos rfl] at H; exact H
       clear H
       have H := H1
       clear H1
       obtain rfl := Option.some.inj H
       go_wp2
       go_ret
       exact ⟨aq7, aq1⟩
      ·replace c20 := Bool.eq_false_iff.mpr c20
       subst c20
       have H1 : ((laws_toIntS.f kj11 l1).bind fun t111 => ((laws_eqIntS.f kj11 t106 t111).bind fun t114 => (if t114 = true then (some true) else (some false)))) = some r := by rw [if_neg (show ¬ (false = true) by decide)] at H; exact H
       clear H
       have H := H1
       clear H1
       replace H := Option.bind_eq_some_iff.mp H
       obtain ⟨t111, A210, H⟩ := H
       replace H : ((laws_eqIntS.f kj11 t106 t111).bind fun t114 => (if t114 = true then (some true) else (some false))) = some r := H
       have A21 := am A210
       clear A210
       replace H := Option.bind_eq_some_iff.mp H
       obtain ⟨t114, A220, H⟩ := H
       replace H : (if t114 = true then (some true) else (some false)) = some r := H
       have A22 := am A220
       clear A220
       by_cases c23 : t114 = true
       ·subst c23
        have H1 : (some true) = some r := by rw [if_pos rfl] at H; exact H
        clear H
        have H := H1
        clear H1
        obtain rfl := Option.some.inj H
        go_wp2_with (first | ((with_reducible refine gate_callee (f := 21) rfl ?_); refine goesL_ (some 52) rfl rfl Tryz.func21 (by kernel_rfl) rfl #[.slice A1 l1.length c1] rfl aq3 ?_; (with_reducible refine (laws_toIntS.calls kj11 _ _ l1 t111 _ ?side1 ?side2 A21.out).mono ?_); (case side1 => exact aq15); (case side2 => exact HC1.out); rintro e w24 ⟨v112, rfl, ho0, hb⟩; refine ⟨_, rfl, ?_⟩; have n0_ := am (Kd.R_elder' aq63 (Kd.R_base ho0) hb); have n1_ := am (Kd.R_lower (Kd.R_new' ho0 (Kd.R_lt aq63)) (below_size aq1)); have n2_ := am (below_step aq1 hb); clear HO_11; clear HB; have HO_11 := n0_; have HO113 := n1_; have HB := n2_; clear n0_ n1_ n2_; (try clear hb); (try clear hb2); (try clear hk); (try clear hi); (try clear ho0); obtain ⟨Ao25, co25, eo25⟩ := Kd.R_slice HO113.out; subst eo25) | ((with_reducible refine gate_callee (f := 23) rfl ?_); refine goesL_ (some 53) rfl rfl Tryz.func23 (by kernel_rfl) rfl #[.slice Ao17 t106.length co17, .slice Ao25 t111.length co25] rfl aq3 ?_; (with_reducible refine (laws_eqIntS.calls kj11 _ _ t106 _ _ t111 true _ ?side1 ?side2 ?side3 ?side4 A22.out).mono ?_); (case side1 => exact aq87); (case side2 => exact (Kd.R_reads' HO_11.out).2.1); (case side3 => exact aq88); (case side4 => exact (Kd.R_reads' HO113.out).2.1); rintro e w' ⟨rfl, ⟨nd, rfl⟩⟩; refine ⟨_, rfl, ?_⟩))
        go_ret
        exact ⟨aq7, aq1⟩
       ·replace c23 := Bool.eq_false_iff.mpr c23
        subst c23
        have H1 : (some false) = some r := by rw [if_neg (show ¬ (false = true) by decide)] at H; exact H
        clear H
        have H := H1
        clear H1
        obtain rfl := Option.some.inj H
        go_wp2_with (first | ((with_reducible refine gate_callee (f := 21) rfl ?_); refine goesL_ (some 52) rfl rfl Tryz.func21 (by kernel_rfl) rfl #[.slice A1 l1.length c1] rfl aq3 ?_; (with_reducible refine (laws_toIntS.calls kj11 _ _ l1 t111 _ ?side1 ?side2 A21.out).mono ?_); (case side1 => exact aq15); (case side2 => exact HC1.out); rintro e w26 ⟨v112, rfl, ho0, hb⟩; refine ⟨_, rfl, ?_⟩; have n0_ := am (Kd.R_elder' aq63 (Kd.R_base ho0) hb); have n1_ := am (Kd.R_lower (Kd.R_new' ho0 (Kd.R_lt aq63)) (below_size aq1)); have n2_ := am (below_step aq1 hb); clear HO_11; clear HB; have HO_11 := n0_; have HO113 := n1_; have HB := n2_; clear n0_ n1_ n2_; (try clear hb); (try clear hb2); (try clear hk); (try clear hi); (try clear ho0); obtain ⟨Ao27, co27, eo27⟩ := Kd.R_slice HO113.out; subst eo27) | ((with_reducible refine gate_callee (f := 23) rfl ?_); refine goesL_ (some 53) rfl rfl Tryz.func23 (by kernel_rfl) rfl #[.slice Ao17 t106.length co17, .slice Ao27 t111.length co27] rfl aq3 ?_; (with_reducible refine (laws_eqIntS.calls kj11 _ _ t106 _ _ t111 false _ ?side1 ?side2 ?side3 ?side4 A22.out).mono ?_); (case side1 => exact aq87); (case side2 => exact (Kd.R_reads' HO_11.out).2.1); (case side3 => exact aq88); (case side4 => exact (Kd.R_reads' HO113.out).2.1); rintro e w' ⟨rfl, ⟨nd, rfl⟩⟩; refine ⟨_, rfl, ?_⟩))
        go_ret
        exact ⟨aq7, aq1⟩
end Go.Proofs.YtdffgeoegdkiaaaGreatDoor.F

namespace Go.Proofs.YtdffgeoegdkiaaaGreatDoor.F
open Go.RowKit Go.Proofs.YtdffgeoegdkiaaaGreatDoor Go.Proofs.YtdffgeoegdkiaaaGreatDoorW.PrintWords Go.Proofs.YtdffgeoegdkiaaaGreatDoorW.PrintMore
set_option linter.unusedVariables false
set_option linter.unusedSimpArgs false
theorem gateB_grid' {t : ByteArray} {l1 l2 : List Int} (h : gateB t l1 l2 = true) : ∃ w h cs, tyGrid (bytesOf t) = some (w, h, cs) ∧ cellsOk freeC cs l1 = true ∧ cellsOk isOpenC cs l2 = true := by
  unfold gateB at h
  cases hg : tyGrid (bytesOf t) with
  | none => rw [hg] at h; cases h
  | some g =>
    rw [hg] at h
    obtain ⟨w, h', cs⟩ := g
    rw [Bool.and_eq_true] at h
    exact ⟨w, h', cs, rfl, h.1, h.2⟩
def numL (l : List Int) (m : Nat) : Int := (l.take m).foldl (fun a x => 2 * a + x) 0
theorem numL_succ {l : List Int} {m : Nat} (h : m < l.length) : numL l (m + 1) = 2 * numL l m + l.getD m 0 := by
  unfold numL
  rw [List.take_succ_eq_append_getElem h, List.foldl_append, List.getD_eq_getElem?_getD, List.getElem?_eq_getElem h]; rfl
theorem numL_small {l : List Int} (hs : ∀ x ∈ l, 0 ≤ x ∧ x < 8) : ∀ m, m ≤ l.length → m ≤ 8 → 0 ≤ numL l m ∧ numL l m ≤ 8 * (2 ^ m - 1)
  | 0, _, _ => by unfold numL; simp
  | m + 1, h, h8 => by
    obtain ⟨i1, i2⟩ := numL_small hs m (by omega) (by omega)
    have hx := hs (l.getD m 0) (by rw [List.getD_eq_getElem?_getD, List.getElem?_eq_getElem h]; exact List.getElem_mem h)
    rw [numL_succ h, Int.pow_succ]
    omega
theorem numL_big {l : List Int} (hs : ∀ x ∈ l, 0 ≤ x ∧ x < 8) {m : Nat} (h : m ≤ l.length) (h8 : m ≤ 8) : 0 ≤ numL l m ∧ numL l m ≤ 100000 := by
  obtain ⟨i1, i2⟩ := numL_small hs m h h8
  have : m = 0 ∨ m = 1 ∨ m = 2 ∨ m = 3 ∨ m = 4 ∨ m = 5 ∨ m = 6 ∨ m = 7 ∨ m = 8 := by omega
  rcases this with rfl | rfl | rfl | rfl | rfl | rfl | rfl | rfl | rfl <;> simp at i2 <;> omega
theorem tableL_small (w h : Nat) (cs l1 l2 : List Int) (ds : List Nat) (m : Nat) (h2 : l2.length ≤ 3) : ∀ x ∈ tableL w h cs l1 l2 ds m, 0 ≤ x ∧ x < 8 := by
  intro x hx
  obtain ⟨n, _, rfl⟩ := List.mem_map.1 hx
  have := outN_lt (runD w h (setIn cs l1 n l1.length) ds) l2 l2.length
  have := pow_le8 h2
  unfold tableN
  omega
theorem impl_num_l0 {l : List Int} (hl : l.length ≤ 8) (hs : ∀ x ∈ l, 0 ≤ x ∧ x < 8) : ∀ (d m : Nat), m + d = l.length → Ev (fun k => impl_gate.l0 k (numL l m) l (l.length : Int) (m : Int)) (numL l l.length)
  | 0, m, hm => by
    obtain rfl : m = l.length := by omega
    exact Ev.step (fun k => by rw [impl_gate.l0, if_neg (by omega)]) (Ev.now _)
  | d + 1, m, hm => by
    have hml : m < l.length := by omega
    have HW : Aside0 (wrap64 ((m : Int) + 1) = ((m + 1 : Nat) : Int)) := ⟨by rw [w64 (by omega) (by omega)]; rfl⟩
    have hb := numL_big hs (show m ≤ l.length by omega) (by omega)
    have hx := hs (l.getD m 0) (by rw [List.getD_eq_getElem?_getD, List.getElem?_eq_getElem hml]; exact List.getElem_mem hml)
    have ih := impl_num_l0 hl hs d (m + 1) (by omega)
    rw [numL_succ hml] at ih
    refine Ev.step (fun k => ?_) ih
    rw [impl_gate.l0, if_pos (by omega), if_pos (by omega), if_pos (by omega), rdN, HW.out, w64 (n := 2 * numL l m) (by omega) (by omega), w64 (n := 2 * numL l m + l.getD m 0) (by omega) (by omega)]
theorem spec_num_l0 {l : List Int} (hl : l.length ≤ 8) (hs : ∀ x ∈ l, 0 ≤ x ∧ x < 8) : ∀ (d m : Nat), m + d = l.length → Ev (fun k => spec_mcNumber.l0 k (numL l m) l (l.length : Int) (m : Int)) (numL l l.length)
  | 0, m, hm => by
    obtain rfl : m = l.length := by omega
    exact Ev.step (fun k => by rw [spec_mcNumber.l0, if_neg (by omega)]) (Ev.now _)
  | d + 1, m, hm => by
    have hml : m < l.length := by omega
    have HW : Aside0 (wrap64 ((m : Int) + 1) = ((m + 1 : Nat) : Int)) := ⟨by rw [w64 (by omega) (by omega)]; rfl⟩
    have hb := numL_big hs (show m ≤ l.length by omega) (by omega)
    have hx := hs (l.getD m 0) (by rw [List.getD_eq_getElem?_getD, List.getElem?_eq_getElem hml]; exact List.getElem_mem hml)
    have ih := spec_num_l0 hl hs d (m + 1) (by omega)
    rw [numL_succ hml] at ih
    refine Ev.step (fun k => ?_) ih
    rw [spec_mcNumber.l0, if_pos (by omega), if_pos (by omega), if_pos (by omega), rdN, HW.out, w64 (n := 2 * numL l m) (by omega) (by omega), w64 (n := 2 * numL l m + l.getD m 0) (by omega) (by omega)]
def gnumA (t : ByteArray) (l1 : List Int) (o : Int) (wd : ByteArray) : Int × Bool := if (l1.length = 2 ∧ gateB t l1 [o] = true) ∧ isWordB (bytesOf wd) = true then (match tyGrid (bytesOf t) with | none => (0, false) | some g => (numL (tableL g.1 g.2.1 g.2.2 l1 [o] (wordD wd) (2 ^ l1.length)) (2 ^ l1.length), true)) else (0, false)
theorem impl_gnum_ev (t : ByteArray) (ht : t.size < 4294967281) (l1 : List Int) (o : Int) (h1 : l1.length ≤ 2000000) (wd : ByteArray) : Ev (fun k => impl_GateNumber.f k t l1 o wd) (gnumA t l1 o wd) := by
  unfold gnumA impl_GateNumber.f impl_isTwo.f
  by_cases h2 : l1.length = 2
  · refine Ev.bind (Ev.congr (fun k => if_pos (by omega)) (Ev.bind (impl_isGate_ev t ht l1 [o] h1 (by simp)) (Ev.now _))) ?_
    by_cases hb : gateB t l1 [o] = true
    · refine Ev.congr (fun k => by rw [if_pos hb, impl_IsWord_eq, Option.bind_some]) ?_
      by_cases hs : isWordB (bytesOf wd) = true
      · obtain ⟨w, h, cs, hg, c1, c2⟩ := gateB_grid' hb
        rw [if_pos (show (l1.length = 2 ∧ gateB t l1 [o] = true) ∧ isWordB (bytesOf wd) = true from ⟨⟨h2, hb⟩, hs⟩)]
        simp only [hg]
        have hT := impl_table_ev hg hs (ok_in c1) (ok_in c2)
        have hlen := tableL_length w h cs l1 [o] (wordD wd) (2 ^ l1.length)
        have h8 := pow_le8 (ok_in c1).1.2
        have hN := impl_num_l0 (l := tableL w h cs l1 [o] (wordD wd) (2 ^ l1.length)) (by omega) (tableL_small w h cs l1 [o] (wordD wd) _ (ok_in c2).1.2) _ 0 (Nat.zero_add _)
        rw [hlen] at hN
        refine Ev.congr (fun k => if_pos hs) (Ev.bind (Ev.bind hT (Ev.congr (fun k => by rw [hlen]; rfl) hN)) (Ev.now _))
      · rw [if_neg (show ¬ ((l1.length = 2 ∧ gateB t l1 [o] = true) ∧ isWordB (bytesOf wd) = true) from fun q => hs q.2)]
        exact Ev.congr (fun k => if_neg hs) (Ev.now _)
    · rw [if_neg (show ¬ ((l1.length = 2 ∧ gateB t l1 [o] = true) ∧ isWordB (bytesOf wd) = true) from fun q => hb q.1.2)]
      exact Ev.congr (fun k => if_neg hb) (Ev.now _)
  · rw [if_neg (show ¬ ((l1.length = 2 ∧ gateB t l1 [o] = true) ∧ isWordB (bytesOf wd) = true) from fun q => h2 q.1.1)]
    refine Ev.bind (Ev.congr (fun k => if_neg (by omega)) (Ev.now _)) ?_
    exact Ev.congr (fun k => if_neg Bool.false_ne_true) (Ev.now _)
theorem spec_gnum_ev (t : ByteArray) (l1 : List Int) (o : Int) (h1 : l1.length ≤ 2000000) (wd : ByteArray) : Ev (fun k => spec_GateNumber.f k t l1 o wd) (gnumA t l1 o wd) := by
  obtain ⟨A, B, C, hG, hABC⟩ := spec_mcGate_ev t l1 [o] h1 (by simp) wd
  unfold gnumA spec_GateNumber.f spec_mcTwo.f
  by_cases hb : gateB t l1 [o] = true ∧ isWordB (bytesOf wd) = true
  · obtain ⟨w, h, cs, hg, c1, c2⟩ := gateB_grid' hb.1
    obtain ⟨rfl, rfl, rfl⟩ := hABC w h cs hg
    refine Ev.bind (Ev.bind hG (Ev.congr (fun k => if_pos (by rw [hb.1, hb.2]; rfl)) (Ev.now _))) ?_
    by_cases h2 : l1.length = 2
    · rw [if_pos (show (l1.length = 2 ∧ gateB t l1 [o] = true) ∧ isWordB (bytesOf wd) = true from ⟨⟨h2, hb.1⟩, hb.2⟩)]
      simp only [hg]
      have hT := spec_table_ev hg hb.2 (ok_in c1) (ok_in c2)
      have hlen := tableL_length w h C l1 [o] (wordD wd) (2 ^ l1.length)
      have h8 := pow_le8 (ok_in c1).1.2
      have hN := spec_num_l0 (l := tableL w h C l1 [o] (wordD wd) (2 ^ l1.length)) (by omega) (tableL_small w h C l1 [o] (wordD wd) _ (ok_in c2).1.2) _ 0 (Nat.zero_add _)
      rw [hlen] at hN
      refine Ev.congr (fun k => if_pos (by rw [h2]; rfl)) (Ev.bind (Ev.bind hT (Ev.congr (fun k => by rw [hlen]; rfl) hN)) (Ev.now _))
    · rw [if_neg (show ¬ ((l1.length = 2 ∧ gateB t l1 [o] = true) ∧ isWordB (bytesOf wd) = true) from fun q => h2 q.1.1)]
      refine Ev.congr (fun k => if_neg (fun q => h2 ?_)) (Ev.now _)
      have := beq_iff_eq.1 q
      omega
  · rw [if_neg (show ¬ ((l1.length = 2 ∧ gateB t l1 [o] = true) ∧ isWordB (bytesOf wd) = true) from fun q => hb ⟨q.1.2, q.2⟩)]
    refine Ev.bind (Ev.bind hG (Ev.congr (fun k => if_neg (fun q => hb ?_)) (Ev.now _))) ?_
    · rw [Bool.and_eq_true] at q
      exact q
    · exact Ev.congr (fun k => if_neg Bool.false_ne_true) (Ev.now _)
theorem FnExactGateNumber (a : ByteArray) (l1 : List Int) (o : Int) (d : ByteArray) (ha : a.size ≤ 9223372036854775807) (hw1 : ∀ x ∈ l1, (Lit.int .i64 x).wf = true) (ho : (Lit.int .i64 o).wf = true) (hd : d.size ≤ 9223372036854775807) : ∃ k, laws_FnExactGateNumber.f k a l1 o d = some true := by
  refine Ev.rounds (g := fun k => laws_FnExactGateNumber.f k a l1 o d) ?_
  unfold laws_FnExactGateNumber.f
  by_cases c0 : (a.size : Int) > 1048576
  · exact Ev.congr (fun k => if_pos c0) (Ev.now _)
  by_cases c1 : (l1.length : Int) > 1048576
  · exact Ev.congr (fun k => by rw [if_neg c0, if_pos c1]) (Ev.now _)
  by_cases c3 : (d.size : Int) > 1048576
  · exact Ev.congr (fun k => by rw [if_neg c0, if_neg c1, if_pos c3]) (Ev.now _)
  refine Ev.congr (fun k => by rw [if_neg c0, if_neg c1, if_neg c3]) ?_
  have t1 := toI_ev l1 (by omega)
  have e1 := eqI_ev l1 (by omega)
  have hI := impl_gnum_ev a (by omega) l1 o (by omega) d
  have hS := spec_gnum_ev a l1 o (by omega) d
  generalize gnumA a l1 o d = R at hI hS
  have hj0 : Ev (fun k => laws_FnExactGateNumber.j0 k l1 l1 false) true := by
    refine Ev.step (fun k => by rw [laws_FnExactGateNumber.j0, if_neg Bool.false_ne_true]) (Ev.bind t1 (Ev.bind e1 ?_))
    exact Ev.congr (fun k => if_pos rfl) (Ev.now _)
  refine Ev.bind t1 (Ev.bind hS (Ev.bind t1 (Ev.bind hI ?_)))
  refine Ev.congr (fun k => if_pos rfl) ?_
  rw [bne_self_eq_false]
  exact hj0
end Go.Proofs.YtdffgeoegdkiaaaGreatDoor.F
