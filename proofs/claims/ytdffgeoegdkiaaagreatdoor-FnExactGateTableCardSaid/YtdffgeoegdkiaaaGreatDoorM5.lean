/- The proof that the law's row holds, part 5: the kit's words, the printed walks and the plain law. No conditions beyond the card's own. -/
import Derived.Test.YtdffgeoegdkiaaaGreatDoorM0
import Derived.Test.YtdffgeoegdkiaaaGreatDoorM1
import Derived.Test.YtdffgeoegdkiaaaGreatDoorM2
import Derived.Test.YtdffgeoegdkiaaaGreatDoorM3
import Derived.Test.YtdffgeoegdkiaaaGreatDoorM4
namespace Go.Proofs.YtdffgeoegdkiaaaGreatDoor.F
open Go.RowKit Go.Proofs.YtdffgeoegdkiaaaGreatDoor Go.Proofs.YtdffgeoegdkiaaaGreatDoorW.PrintWords Go.Proofs.YtdffgeoegdkiaaaGreatDoorW.PrintMore
set_option linter.unusedVariables false
set_option linter.unusedSimpArgs false
theorem shr_and : ∀ n : Fin 8, ∀ s : Fin 3, Go.bits .and .i64 (shr .i64 ((n.1 : Nat) : Int) ((s.1 : Nat) : Int)) 1 = ((n.1 / 2 ^ s.1 % 2 : Nat) : Int) := by decide
theorem shr_mod : ∀ n : Fin 8, ∀ s : Fin 3, Int.tmod (shr .i64 ((n.1 : Nat) : Int) ((s.1 : Nat) : Int)) 2 = ((n.1 / 2 ^ s.1 % 2 : Nat) : Int) := by decide
theorem shl_one : ∀ n : Fin 4, shl .i64 1 ((n.1 : Nat) : Int) = ((2 ^ n.1 : Nat) : Int) := by decide
def setIn (cs l : List Int) (n m : Nat) : List Int := (List.range m).foldl (fun o i => if n / 2 ^ (l.length - 1 - i) % 2 = 1 then o.set (l.getD i 0).toNat 111 else o) cs
theorem setIn_succ (cs l : List Int) (n m : Nat) : setIn cs l n (m + 1) = if n / 2 ^ (l.length - 1 - m) % 2 = 1 then (setIn cs l n m).set (l.getD m 0).toNat 111 else setIn cs l n m := by
  unfold setIn; rw [List.range_succ, List.foldl_append]; rfl
theorem setIn_length (cs l : List Int) (n : Nat) : ∀ m, (setIn cs l n m).length = cs.length
  | 0 => rfl
  | m + 1 => by
    rw [setIn_succ]
    split
    · rw [List.length_set, setIn_length cs l n m]
    · exact setIn_length cs l n m
def outN (cs l : List Int) (m : Nat) : Nat := (List.range m).foldl (fun a i => 2 * a + if ballAt cs (l.getD i 0).toNat = true then 1 else 0) 0
theorem outN_succ (cs l : List Int) (m : Nat) : outN cs l (m + 1) = 2 * outN cs l m + if ballAt cs (l.getD m 0).toNat = true then 1 else 0 := by
  unfold outN; rw [List.range_succ, List.foldl_append]; rfl
theorem outN_lt (cs l : List Int) : ∀ m, outN cs l m < 2 ^ m
  | 0 => by unfold outN; simp
  | m + 1 => by
    have := outN_lt cs l m
    rw [outN_succ, Nat.pow_succ]
    split <;> omega
def tableN (w h : Nat) (cs l1 l2 : List Int) (ds : List Nat) (n : Nat) : Int := ((outN (runD w h (setIn cs l1 n l1.length) ds) l2 l2.length : Nat) : Int)
def tableL (w h : Nat) (cs l1 l2 : List Int) (ds : List Nat) (m : Nat) : List Int := (List.range m).map (tableN w h cs l1 l2 ds)
theorem tableL_length (w h : Nat) (cs l1 l2 : List Int) (ds : List Nat) (m : Nat) : (tableL w h cs l1 l2 ds m).length = m := by simp [tableL]
theorem tableL_succ (w h : Nat) (cs l1 l2 : List Int) (ds : List Nat) (m : Nat) : tableL w h cs l1 l2 ds (m + 1) = tableL w h cs l1 l2 ds m ++ [tableN w h cs l1 l2 ds m] := by
  unfold tableL; rw [List.range_succ, List.map_append]; rfl
theorem pow_le8 {m : Nat} (h : m ≤ 3) : 2 ^ m ≤ 8 := by
  have : m = 0 ∨ m = 1 ∨ m = 2 ∨ m = 3 := by omega
  rcases this with rfl | rfl | rfl | rfl <;> decide
theorem ok_in {p : Int → Bool} {cs l : List Int} (h : cellsOk p cs l = true) : (1 ≤ l.length ∧ l.length ≤ 3) ∧ ∀ j, j < l.length → 0 ≤ l.getD j 0 ∧ l.getD j 0 < (cs.length : Int) :=
  ⟨(of_decide_eq_true h).1, fun j hj => ((of_decide_eq_true h).2 j hj).1⟩
section
variable {t wd : ByteArray} {w h : Nat} {cs l1 l2 : List Int} (hg : tyGrid (bytesOf t) = some (w, h, cs)) (hs : isWordB (bytesOf wd) = true) (h1 : (1 ≤ l1.length ∧ l1.length ≤ 3) ∧ ∀ j, j < l1.length → 0 ≤ l1.getD j 0 ∧ l1.getD j 0 < (cs.length : Int)) (h2 : (1 ≤ l2.length ∧ l2.length ≤ 3) ∧ ∀ j, j < l2.length → 0 ≤ l2.getD j 0 ∧ l2.getD j 0 < (cs.length : Int))
include hg hs h1 h2
omit hg hs h1 in
theorem impl_table_l2 (x9 : List Int) (hx9 : x9.length < 100) (n : Nat) (hn : n < 8) (x20 : Int) (r : List Int) (ds : List Int) (hds : ds.length = cs.length) : ∀ (d m : Nat), m + d = l2.length →
    Ev (fun k => impl_table.l0 k t l1 l2 wd (x9 ++ [((outN ds l2 l2.length : Nat) : Int)]) x20 ((n + 1 : Nat) : Int)) r →
    Ev (fun k => impl_table.l2 k t l1 l2 wd x9 ((outN ds l2 m : Nat) : Int) x20 (n : Int) l2 (l2.length : Int) (m : Int) w h ds) r
  | 0, m, hm, hr => by
    obtain rfl : m = l2.length := by omega
    have HN : Aside0 (wrap64 ((n : Int) + 1) = ((n + 1 : Nat) : Int)) := ⟨by rw [w64 (by omega) (by omega)]; rfl⟩
    refine Ev.step (fun k => ?_) hr
    rw [impl_table.l2, if_neg (by omega), if_pos (by omega), HN.out]
  | d + 1, m, hm, hr => by
    have hml : m < l2.length := by omega
    have HW : Aside0 (wrap64 ((m : Int) + 1) = ((m + 1 : Nat) : Int)) := ⟨by rw [w64 (by omega) (by omega)]; rfl⟩
    obtain ⟨q1, q2⟩ := h2.2 m hml
    have ih := impl_table_l2 x9 hx9 n hn x20 r ds hds d (m + 1) (by omega) hr
    have hlt := outN_lt ds l2 m
    have h8 := pow_le8 (show m ≤ 3 by omega)
    rw [outN_succ] at ih
    refine Ev.step (fun k => ?_) ih
    have hb : impl_isBall.f (rd ds (rd l2 (m : Int))) = some (ballAt ds (l2.getD m 0).toNat) := by rw [impl_isBall_is, rdN]; rfl
    rw [impl_table.l2, if_pos (by omega), if_pos (by omega), if_pos (by omega), hb, rdN, if_pos q1, if_pos (by rw [hds]; exact q2), Option.bind_some, HW.out]
    generalize outN ds l2 m = a at *
    cases ballAt ds (l2.getD m 0).toNat with
    | true =>
      rw [impl_bit.f, if_pos rfl, Option.bind_some, w64 (n := 2 * (a : Int)) (by omega) (by omega), w64 (n := 2 * (a : Int) + 1) (by omega) (by omega), if_pos rfl]
      congr 1
    | false =>
      rw [impl_bit.f, if_neg Bool.false_ne_true, Option.bind_some, w64 (n := 2 * (a : Int)) (by omega) (by omega), w64 (n := 2 * (a : Int) + 0) (by omega) (by omega), if_neg Bool.false_ne_true]
      congr 1
theorem impl_table_l1 (x9 : List Int) (hx9 : x9.length < 100) (n : Nat) (hn : n < 8) (x20 : Int) (r : List Int) : ∀ (d m : Nat), m + d = l1.length →
    Ev (fun k => impl_table.l0 k t l1 l2 wd (x9 ++ [tableN w h cs l1 l2 (wordD wd) n]) x20 ((n + 1 : Nat) : Int)) r →
    Ev (fun k => impl_table.l1 k t l1 l2 wd x9 (n : Int) x20 (n : Int) l1 (l1.length : Int) (m : Int) w h (setIn cs l1 n m)) r
  | 0, m, hm, hr => by
    obtain rfl : m = l1.length := by omega
    obtain ⟨v, _⟩ := textB_grid hg
    have hA := tiltedAll_ev ⟨v.w1, v.w7⟩ ⟨v.h1, v.h7⟩ hs (cs := setIn cs l1 n l1.length) (by rw [setIn_length]; exact v.len)
    have hl2 := impl_table_l2 (t := t) (wd := wd) (w := w) (h := h) (l1 := l1) h2 x9 hx9 n hn x20 r (runD w h (setIn cs l1 n l1.length) (wordD wd)) (by rw [runD_length, setIn_length]) l2.length 0 (by omega) hr
    refine Ev.step (fun k => by rw [impl_table.l1, if_neg (by omega)]) (Ev.bind hA ?_)
    exact hl2
  | d + 1, m, hm, hr => by
    have hml : m < l1.length := by omega
    have HW : Aside0 (wrap64 ((m : Int) + 1) = ((m + 1 : Nat) : Int)) := ⟨by rw [w64 (by omega) (by omega)]; rfl⟩
    have HS : Aside0 (wrap64 (wrap64 ((l1.length : Int) - 1) - (m : Int)) = ((l1.length - 1 - m : Nat) : Int)) := ⟨by rw [w64 (n := (l1.length : Int) - 1) (by omega) (by omega), w64 (by omega) (by omega)]; omega⟩
    obtain ⟨q1, q2⟩ := h1.2 m hml
    have ih := impl_table_l1 x9 hx9 n hn x20 r d (m + 1) (by omega) hr
    have hbit := shr_and ⟨n, hn⟩ ⟨l1.length - 1 - m, by omega⟩
    simp only at hbit
    rw [setIn_succ] at ih
    refine Ev.step (fun k => ?_) ih
    rw [impl_table.l1, if_pos (by omega), if_pos (by omega), if_pos (by omega), HS.out, if_pos (by omega), hbit, rdN, HW.out]
    by_cases hb : n / 2 ^ (l1.length - 1 - m) % 2 = 1
    · rw [if_pos (by rw [hb]; rfl), if_pos q1, if_pos (by rw [setIn_length]; exact q2), if_pos hb]
    · rw [if_neg (by omega), if_neg hb]
theorem impl_table_l0 : ∀ (d n : Nat), n + d = 2 ^ l1.length →
    Ev (fun k => impl_table.l0 k t l1 l2 wd (tableL w h cs l1 l2 (wordD wd) n) ((2 ^ l1.length : Nat) : Int) (n : Int)) (tableL w h cs l1 l2 (wordD wd) (2 ^ l1.length))
  | 0, n, hn => by
    obtain rfl : n = 2 ^ l1.length := by omega
    exact Ev.step (fun k => by rw [impl_table.l0, if_neg (by omega)]) (Ev.now _)
  | d + 1, n, hn => by
    have h8 := pow_le8 h1.1.2
    have ih := impl_table_l0 d (n + 1) (by omega)
    rw [tableL_succ] at ih
    have hl1 := impl_table_l1 hg hs h1 h2 (tableL w h cs l1 l2 (wordD wd) n) (by rw [tableL_length]; omega) n (by omega) ((2 ^ l1.length : Nat) : Int) _ l1.length 0 (by omega) ih
    refine Ev.step (fun k => ?_) hl1
    rw [impl_table.l0, if_pos (by omega), show impl_readS.f t = some ((w : Int), (h : Int), cs) from impl_read_eq t hg, Option.bind_some]; rfl
theorem impl_table_ev : Ev (fun k => impl_table.f k t l1 l2 wd) (tableL w h cs l1 l2 (wordD wd) (2 ^ l1.length)) := by
  have h0 := impl_table_l0 hg hs h1 h2 (2 ^ l1.length) 0 (by omega)
  refine Ev.congr (fun k => ?_) h0
  unfold impl_table.f
  have hsl := shl_one ⟨l1.length, by omega⟩
  simp only at hsl
  rw [hsl]; rfl
omit hg hs h1 in
theorem spec_table_l2 (x9 : List Int) (hx9 : x9.length < 100) (n : Nat) (hn : n < 8) (r : List Int) (ds : List Int) (hds : ds.length = cs.length) : ∀ (d m : Nat), m + d = l2.length →
    Ev (fun k => spec_mcTable.l0 k l1 l2 wd (x9 ++ [((outN ds l2 l2.length : Nat) : Int)]) ((n + 1 : Nat) : Int) w h cs) r →
    Ev (fun k => spec_mcTable.l2 k l1 l2 wd x9 (n : Int) ((outN ds l2 m : Nat) : Int) l2 (l2.length : Int) (m : Int) w h cs w h ds) r
  | 0, m, hm, hr => by
    obtain rfl : m = l2.length := by omega
    have HN : Aside0 (wrap64 ((n : Int) + 1) = ((n + 1 : Nat) : Int)) := ⟨by rw [w64 (by omega) (by omega)]; rfl⟩
    refine Ev.step (fun k => ?_) hr
    rw [spec_mcTable.l2, if_neg (by omega), if_pos (by omega), HN.out]
  | d + 1, m, hm, hr => by
    have hml : m < l2.length := by omega
    have HW : Aside0 (wrap64 ((m : Int) + 1) = ((m + 1 : Nat) : Int)) := ⟨by rw [w64 (by omega) (by omega)]; rfl⟩
    obtain ⟨q1, q2⟩ := h2.2 m hml
    have ih := spec_table_l2 x9 hx9 n hn r ds hds d (m + 1) (by omega) hr
    have hlt := outN_lt ds l2 m
    have h8 := pow_le8 (show m ≤ 3 by omega)
    rw [outN_succ] at ih
    refine Ev.step (fun k => ?_) ih
    have hb : spec_tyBall.f (rd ds (rd l2 (m : Int))) = some (ballAt ds (l2.getD m 0).toNat) := by rw [spec_tyBall_is, rdN]; rfl
    rw [spec_mcTable.l2, if_pos (by omega), if_pos (by omega), if_pos (by omega), hb, rdN, if_pos q1, if_pos (by rw [hds]; exact q2), Option.bind_some, HW.out]
    generalize outN ds l2 m = a at *
    cases ballAt ds (l2.getD m 0).toNat with
    | true =>
      rw [if_pos rfl, w64 (n := (a : Int) * 2) (by omega) (by omega), w64 (n := (a : Int) * 2 + 1) (by omega) (by omega), if_pos rfl]
      congr 1
      omega
    | false =>
      rw [if_neg Bool.false_ne_true, w64 (n := (a : Int) * 2) (by omega) (by omega), if_neg Bool.false_ne_true]
      congr 1
      omega
theorem spec_table_l1 (x9 : List Int) (hx9 : x9.length < 100) (n : Nat) (hn : n < 8) (r : List Int) : ∀ (d m : Nat), m + d = l1.length →
    Ev (fun k => spec_mcTable.l0 k l1 l2 wd (x9 ++ [tableN w h cs l1 l2 (wordD wd) n]) ((n + 1 : Nat) : Int) w h cs) r →
    Ev (fun k => spec_mcTable.l1 k l1 l2 wd x9 (n : Int) l1 (l1.length : Int) (m : Int) w h cs w h (setIn cs l1 n m)) r
  | 0, m, hm, hr => by
    obtain rfl : m = l1.length := by omega
    obtain ⟨v, _⟩ := textB_grid hg
    have hA := tiRun_ev ⟨v.w1, v.w7⟩ ⟨v.h1, v.h7⟩ hs (cs := setIn cs l1 n l1.length) (by rw [setIn_length]; exact v.len)
    have hl2 := spec_table_l2 (wd := wd) (w := w) (h := h) (l1 := l1) h2 x9 hx9 n hn r (runD w h (setIn cs l1 n l1.length) (wordD wd)) (by rw [runD_length, setIn_length]) l2.length 0 (by omega) hr
    refine Ev.step (fun k => by rw [spec_mcTable.l1, if_neg (by omega)]) (Ev.bind hA ?_)
    exact hl2
  | d + 1, m, hm, hr => by
    have hml : m < l1.length := by omega
    have HW : Aside0 (wrap64 ((m : Int) + 1) = ((m + 1 : Nat) : Int)) := ⟨by rw [w64 (by omega) (by omega)]; rfl⟩
    have HS : Aside0 (wrap64 (wrap64 ((l1.length : Int) - 1) - (m : Int)) = ((l1.length - 1 - m : Nat) : Int)) := ⟨by rw [w64 (n := (l1.length : Int) - 1) (by omega) (by omega), w64 (by omega) (by omega)]; omega⟩
    obtain ⟨q1, q2⟩ := h1.2 m hml
    have ih := spec_table_l1 x9 hx9 n hn r d (m + 1) (by omega) hr
    have hbit := shr_mod ⟨n, hn⟩ ⟨l1.length - 1 - m, by omega⟩
    simp only at hbit
    rw [setIn_succ] at ih
    refine Ev.step (fun k => ?_) ih
    rw [spec_mcTable.l1, if_pos (by omega), if_pos (by omega), if_pos (by omega), HS.out, if_pos (by omega), hbit, rdN, HW.out]
    by_cases hb : n / 2 ^ (l1.length - 1 - m) % 2 = 1
    · rw [if_pos (by rw [hb]; rfl), if_pos q1, if_pos (by rw [setIn_length]; exact q2), if_pos hb]
    · rw [if_neg (by omega), if_neg hb]
theorem spec_table_l0 : ∀ (d n : Nat), n + d = 2 ^ l1.length →
    Ev (fun k => spec_mcTable.l0 k l1 l2 wd (tableL w h cs l1 l2 (wordD wd) n) (n : Int) w h cs) (tableL w h cs l1 l2 (wordD wd) (2 ^ l1.length))
  | 0, n, hn => by
    obtain rfl : n = 2 ^ l1.length := by omega
    have hsl := shl_one ⟨l1.length, by omega⟩
    simp only at hsl
    exact Ev.step (fun k => by rw [spec_mcTable.l0, hsl, if_neg (by omega)]) (Ev.now _)
  | d + 1, n, hn => by
    obtain ⟨v, _⟩ := textB_grid hg
    have hsm := tray_small v
    simp only at hsm
    have h8 := pow_le8 h1.1.2
    have hsl := shl_one ⟨l1.length, by omega⟩
    simp only at hsl
    have ih := spec_table_l0 d (n + 1) (by omega)
    rw [tableL_succ] at ih
    have hl1 := spec_table_l1 hg hs h1 h2 (tableL w h cs l1 l2 (wordD wd) n) (by rw [tableL_length]; omega) n (by omega) _ l1.length 0 (by omega) ih
    refine Ev.step (fun k => ?_) hl1
    have hcp : spec_tyCopy.f (w : Int) (h : Int) cs = some ((w : Int), (h : Int), cs) := by
      unfold spec_tyCopy.f
      rw [Option.bind_some, if_pos (by rw [List.length_nil]; omega), List.nil_append]
    rw [spec_mcTable.l0, hsl, if_pos (by omega), hcp, Option.bind_some]; rfl
theorem spec_table_ev : Ev (fun k => spec_mcTable.f k w h cs l1 l2 wd) (tableL w h cs l1 l2 (wordD wd) (2 ^ l1.length)) := by
  have h0 := spec_table_l0 hg hs h1 h2 (2 ^ l1.length) 0 (by omega)
  exact h0
end
end Go.Proofs.YtdffgeoegdkiaaaGreatDoor.F

namespace Go.Proofs.YtdffgeoegdkiaaaGreatDoor.F
open Go.Proofs.YtdffgeoegdkiaaaGreatDoor
open Go.RowKit Go.Proofs.YtdffgeoegdkiaaaGreatDoorW.PrintWords Go.Proofs.YtdffgeoegdkiaaaGreatDoorW.PrintLast Go.Proofs.YtdffgeoegdkiaaaGreatDoorW.PrintMore
attribute [local go_sem] max2_int min2_int max_two min_two max_three min_three max_four min_four   -- for this text's walks alone
set_option linter.unusedVariables false
set_option linter.unusedSimpArgs false
def spec_GateTable.f (k : Nat) (a0 : ByteArray) (l1 : List Int) (l2 : List Int) (a3 : ByteArray) : Option (List Int × Bool) := (spec_mcGate.f k a0 l1 l2 a3).bind fun bt101 => (if bt101.2.2.2 = true then ((spec_mcTable.f k bt101.1 bt101.2.1 bt101.2.2.1 l1 l2 a3).bind fun t108 => (some (t108, true))) else (some (([] : List Int), false)))
theorem spec_GateTable.mono : ∀ a0 a1 a2 a3 k, LeO (spec_GateTable.f k a0 a1 a2 a3) (spec_GateTable.f (k + 1) a0 a1 a2 a3) := by
 intro a0 a1 a2 a3 k
 unfold spec_GateTable.f
 have im0 := @spec_mcGate.mono; have im1 := @spec_mcTable.mono; exact mo
set_option maxHeartbeats 8000000 in
set_option maxRecDepth 100000 in
theorem spec_GateTable.calls (k : Nat) (a0 : ByteArray) (A1 : Option Addr) (c1 : Nat) (l1 : List Int) (A2 : Option Addr) (c2 : Nat) (l2 : List Int) (a3 : ByteArray) (r1 : List Int) (r2 : Bool) (w : World) (hr1 : Kd.C (Kd.int .i64) w A1 l1.length l1) (hc1 : l1.length ≤ c1) (hr2 : Kd.C (Kd.int .i64) w A2 l2.length l2) (hc2 : l2.length ≤ c2) (h : spec_GateTable.f k a0 l1 l2 a3 = some (r1, r2)) :
  Calls Tryz.prog 20 #[.string a0, .slice A1 l1.length c1, .slice A2 l2.length c2, .string a3] w fun e w' => ∃ v0_ : Value, e = .returned (.tuple #[v0_, .bool r2]) ∧ Kd.R (Kd.int .i64) 3 w' w.heap.size (fun _ => True) v0_ r1 ∧ Below w.heap.size w w' := by
 have hu62 := Tryz.underlying62
 have HR1 := am hr1
 have HC1 := am hc1
 clear hr1 hc1
 have HR2 := am hr2
 have HC2 := am hc2
 clear hr2 hc2
 have HB := am (Below.refl w.heap.size w)
 have H : ((spec_mcGate.f k a0 l1 l2 a3).bind fun bt101 => (if bt101.2.2.2 = true then ((spec_mcTable.f k bt101.1 bt101.2.1 bt101.2.2.1 l1 l2 a3).bind fun t108 => (some (t108, true))) else (some (([] : List Int), false)))) = some (r1, r2) := h
 clear h
 replace H := Option.bind_eq_some_iff.mp H
 obtain ⟨⟨t101, t102, t103, t106⟩, A50, H⟩ := H
 replace H : (if t106 = true then ((spec_mcTable.f k t101 t102 t103 l1 l2 a3).bind fun t108 => (some (t108, true))) else (some (([] : List Int), false))) = some (r1, r2) := H
 have A5 := am A50
 clear A50
 by_cases c6 : t106 = true
 ·subst c6
  have H1 : ((spec_mcTable.f k t101 t102 t103 l1 l2 a3).bind fun t108 => (some (t108, true))) = some (r1, r2) := by rw [if_pos rfl] at H; exact H
  clear H
  have H := H1
  clear H1
  replace H := Option.bind_eq_some_iff.mp H
  obtain ⟨t108, A70, H⟩ := H
  replace H : (some (t108, true)) = some (r1, r2) := H
  have A7 := am A70
  clear A70
  simp only [Option.some.injEq, Prod.mk.injEq] at H
  obtain ⟨rfl, rfl⟩ := H
  go_enter Tryz.func20, Tryz.ntmps20
  go_wp2_with (first | ((with_reducible refine gate_callee (f := 62) rfl ?_); refine goesL_ (some 17) rfl rfl Tryz.func62 (by kernel_rfl) rfl #[.string a0, .slice A1 l1.length c1, .slice A2 l2.length c2, .string a3] rfl aq3 ?_; (with_reducible refine (spec_mcGate.calls k a0 _ _ l1 _ _ l2 a3 t101 t102 t103 true _ ?side1 ?side2 ?side3 ?side4 A5.out).mono ?_); (case side1 => exact aq40); (case side2 => exact HC1.out); (case side3 => exact aq49); (case side4 => exact HC2.out); rintro e w8 ⟨v104, rfl, ho0, hb⟩; refine ⟨_, rfl, ?_⟩; have n0_ := am (Kd.R_lower ho0 (below_size aq1)); have n1_ := am (below_step aq1 hb); clear HB; have HO105 := n0_; have HB := n1_; clear n0_ n1_; (try clear hb); (try clear hb2); (try clear hk); (try clear hi); (try clear ho0)) | ((with_reducible refine gate_dst (N := 10) rfl ?_); refine box_event ?hg (N := 10) ?hd (cs := #[.int .i64 0, .int .i64 0, .slice none 0 0]) (t := 62) ?hr ?_; (case hd => rfl); (case hg => rfl); (case hr => exact aq14); intro gb107 hg w9 hbox hb; have n0_ := am (Kd.R_below aq74 hb); have n1_ := am (below_step aq1 hb); have n2_ := am (hbox); have n3_ := am ((by rw [hg]; exact (below_size aq1) : w.heap.size ≤ gb107)); have n4_ := am ((by rw [hg]; exact (below_size aq1) : w.heap.size ≤ gb107)); clear HO105; clear HB; have HO105 := n0_; have HB := n1_; have BK107 := n2_; have GW107 := n3_; have GE107 := n4_; clear n0_ n1_ n2_ n3_ n4_; clear hb hbox hg; have hcz10_0 : w9.cell? ⟨gb107, 0, none⟩ = some (.int .i64 0) := (blk_cell BK107.out 0).trans rfl; have hcz10_1 : w9.cell? ⟨gb107, 1, none⟩ = some (.int .i64 0) := (blk_cell BK107.out 1).trans rfl; have hcz10_2 : w9.cell? ⟨gb107, 2, none⟩ = some (.slice none 0 0) := (blk_cell BK107.out 2).trans rfl; have hfz10_0 := blk_frozen BK107.out 0; have hfz10_1 := blk_frozen BK107.out 1; have hfz10_2 := blk_frozen BK107.out 2; obtain ⟨Ao11, co11, eo11⟩ := Kd.R_slice HO105.out; subst eo11) | ((with_reducible refine gate_callee (f := 63) rfl ?_); refine goesL_ (some 26) rfl rfl Tryz.func63 (by kernel_rfl) rfl #[.agg #[.int .i64 t101, .int .i64 t102, .slice Ao11 t103.length co11], .slice A1 l1.length c1, .slice A2 l2.length c2, .string a3] rfl aq3 ?_; (with_reducible refine (spec_mcTable.calls k t101 t102 _ _ t103 _ _ l1 _ _ l2 a3 t108 _ ?side1 ?side2 ?side3 ?side4 ?side5 ?side6 A7.out).mono ?_); (case side1 => refine (Kd.R_reads' (e := 5) (base := w.heap.size) (ok := fun k_ => True) (n := t103.length) (c := co11) ?_).2.2; exact aq65); (case side2 => exact (Kd.R_reads' HO105.out).2.1); (case side3 => exact Kd.C_below HR1.out aq31); (case side4 => exact HC1.out); (case side5 => exact Kd.C_below HR2.out aq31); (case side6 => exact HC2.out); rintro e w12 ⟨v109, rfl, ho0, hb⟩; refine ⟨_, rfl, ?_⟩; have n0_ := am (Kd.R_below aq65 hb); have n1_ := am (Kd.R_lower ho0 (below_size aq31)); have n2_ := am (blk_below (g := gb107) (o := .cells #[.int .i64 t101, .int .i64 t102, .slice Ao11 t103.length co11] 62 (0, 0)) (by (with_reducible repeat (first | refine blk_drewN ?_ _ | refine blk_drew ?_ | refine blk_alloc ?_ _)); refine blk_put (cs := #[.int .i64 t101, .int .i64 t102, .slice none 0 0]) ?_ 2 _ rfl; (with_reducible repeat (first | refine blk_drewN ?_ _ | refine blk_drew ?_ | refine blk_alloc ?_ _)); refine blk_put (cs := #[.int .i64 t101, .int .i64 0, .slice none 0 0]) ?_ 1 _ rfl; (with_reducible repeat (first | refine blk_drewN ?_ _ | refine blk_drew ?_ | refine blk_alloc ?_ _)); refine blk_put (cs := #[.int .i64 0, .int .i64 0, .slice none 0 0]) ?_ 0 _ rfl; (with_reducible repeat (first | refine blk_drewN ?_ _ | refine blk_drew ?_ | refine blk_alloc ?_ _)); exact BK107.out) hb); have n3_ := am (below_step aq31 hb); clear HO105; clear BK107; clear HB; have HO105 := n0_; have HO110 := n1_; have BK107 := n2_; have HB := n3_; clear n0_ n1_ n2_ n3_; (try clear hb); (try clear hb2); (try clear hk); (try clear hi); (try clear ho0)))
  go_ret2
  exact ⟨_, aq7, aq30, aq31⟩
 ·replace c6 := Bool.eq_false_iff.mpr c6
  subst c6
  have H1 : (some (([] : List Int), false)) = some (r1, r2) := by rw [if_neg (show ¬ (false = true) by decide)] at H; exact H
  clear H
  have H := H1
  clear H1
  simp only [Option.some.injEq, Prod.mk.injEq] at H
  obtain ⟨rfl, rfl⟩ := H
  go_enter Tryz.func20, Tryz.ntmps20
  go_wp2_with (first | ((with_reducible refine gate_callee (f := 62) rfl ?_); refine goesL_ (some 17) rfl rfl Tryz.func62 (by kernel_rfl) rfl #[.string a0, .slice A1 l1.length c1, .slice A2 l2.length c2, .string a3] rfl aq3 ?_; (with_reducible refine (spec_mcGate.calls k a0 _ _ l1 _ _ l2 a3 t101 t102 t103 false _ ?side1 ?side2 ?side3 ?side4 A5.out).mono ?_); (case side1 => exact aq40); (case side2 => exact HC1.out); (case side3 => exact aq49); (case side4 => exact HC2.out); rintro e w13 ⟨v104, rfl, ho0, hb⟩; refine ⟨_, rfl, ?_⟩; have n0_ := am (Kd.R_lower ho0 (below_size aq1)); have n1_ := am (below_step aq1 hb); clear HB; have HO105 := n0_; have HB := n1_; clear n0_ n1_; (try clear hb); (try clear hb2); (try clear hk); (try clear hi); (try clear ho0)) | ((with_reducible refine gate_dst (N := 10) rfl ?_); refine box_event ?hg (N := 10) ?hd (cs := #[.int .i64 0, .int .i64 0, .slice none 0 0]) (t := 62) ?hr ?_; (case hd => rfl); (case hg => rfl); (case hr => exact aq14); intro gb107 hg w14 hbox hb; have n0_ := am (Kd.R_below aq74 hb); have n1_ := am (below_step aq1 hb); have n2_ := am (hbox); have n3_ := am ((by rw [hg]; exact (below_size aq1) : w.heap.size ≤ gb107)); have n4_ := am ((by rw [hg]; exact (below_size aq1) : w.heap.size ≤ gb107)); clear HO105; clear HB; have HO105 := n0_; have HB := n1_; have BK107 := n2_; have GW107 := n3_; have GE107 := n4_; clear n0_ n1_ n2_ n3_ n4_; clear hb hbox hg; have hcz15_0 : w14.cell? ⟨gb107, 0, none⟩ = some (.int .i64 0) := (blk_cell BK107.out 0).trans rfl; have hcz15_1 : w14.cell? ⟨gb107, 1, none⟩ = some (.int .i64 0) := (blk_cell BK107.out 1).trans rfl; have hcz15_2 : w14.cell? ⟨gb107, 2, none⟩ = some (.slice none 0 0) := (blk_cell BK107.out 2).trans rfl; have hfz15_0 := blk_frozen BK107.out 0; have hfz15_1 := blk_frozen BK107.out 1; have hfz15_2 := blk_frozen BK107.out 2; obtain ⟨Ao16, co16, eo16⟩ := Kd.R_slice HO105.out; subst eo16))
  go_ret2
  exact ⟨_, aq7, aq17, aq31⟩
def impl_GateTable.f (k : Nat) (a0 : ByteArray) (l1 : List Int) (l2 : List Int) (a3 : ByteArray) : Option (List Int × Bool) := (impl_isGate.f k a0 l1 l2).bind fun t101 => (if t101 = true then ((impl_IsWord.f a3).bind fun t102 => (if t102 = true then ((impl_table.f k a0 l1 l2 a3).bind fun t103 => (some (t103, true))) else (some (([] : List Int), false)))) else (some (([] : List Int), false)))
theorem impl_GateTable.mono : ∀ a0 a1 a2 a3 k, LeO (impl_GateTable.f k a0 a1 a2 a3) (impl_GateTable.f (k + 1) a0 a1 a2 a3) := by
 intro a0 a1 a2 a3 k
 unfold impl_GateTable.f
 have im0 := @impl_isGate.mono; have im1 := @impl_table.mono; exact mo
set_option maxHeartbeats 8000000 in
set_option maxRecDepth 100000 in
theorem impl_GateTable.calls (k : Nat) (a0 : ByteArray) (A1 : Option Addr) (c1 : Nat) (l1 : List Int) (A2 : Option Addr) (c2 : Nat) (l2 : List Int) (a3 : ByteArray) (r1 : List Int) (r2 : Bool) (w : World) (hr1 : Kd.C (Kd.int .i64) w A1 l1.length l1) (hc1 : l1.length ≤ c1) (hr2 : Kd.C (Kd.int .i64) w A2 l2.length l2) (hc2 : l2.length ≤ c2) (h : impl_GateTable.f k a0 l1 l2 a3 = some (r1, r2)) :
  Calls Tryz.prog 22 #[.string a0, .slice A1 l1.length c1, .slice A2 l2.length c2, .string a3] w fun e w' => ∃ v0_ : Value, e = .returned (.tuple #[v0_, .bool r2]) ∧ Kd.R (Kd.int .i64) 3 w' w.heap.size (fun _ => True) v0_ r1 ∧ Below w.heap.size w w' := by
 have HR1 := am hr1
 have HC1 := am hc1
 clear hr1 hc1
 have HR2 := am hr2
 have HC2 := am hc2
 clear hr2 hc2
 have HB := am (Below.refl w.heap.size w)
 have H : ((impl_isGate.f k a0 l1 l2).bind fun t101 => (if t101 = true then ((impl_IsWord.f a3).bind fun t102 => (if t102 = true then ((impl_table.f k a0 l1 l2 a3).bind fun t103 => (some (t103, true))) else (some (([] : List Int), false)))) else (some (([] : List Int), false)))) = some (r1, r2) := h
 clear h
 replace H := Option.bind_eq_some_iff.mp H
 obtain ⟨t101, A50, H⟩ := H
 replace H : (if t101 = true then ((impl_IsWord.f a3).bind fun t102 => (if t102 = true then ((impl_table.f k a0 l1 l2 a3).bind fun t103 => (some (t103, true))) else (some (([] : List Int), false)))) else (some (([] : List Int), false))) = some (r1, r2) := H
 have A5 := am A50
 clear A50
 by_cases c6 : t101 = true
 ·subst c6
  have H1 : ((impl_IsWord.f a3).bind fun t102 => (if t102 = true then ((impl_table.f k a0 l1 l2 a3).bind fun t103 => (some (t103, true))) else (some (([] : List Int), false)))) = some (r1, r2) := by rw [if_pos rfl] at H; exact H
  clear H
  have H := H1
  clear H1
  replace H := Option.bind_eq_some_iff.mp H
  obtain ⟨t102, A70, H⟩ := H
  replace H : (if t102 = true then ((impl_table.f k a0 l1 l2 a3).bind fun t103 => (some (t103, true))) else (some (([] : List Int), false))) = some (r1, r2) := H
  have A7 := am A70
  clear A70
  by_cases c8 : t102 = true
  ·subst c8
   have H1 : ((impl_table.f k a0 l1 l2 a3).bind fun t103 => (some (t103, true))) = some (r1, r2) := by rw [if_pos rfl] at H; exact H
   clear H
   have H := H1
   clear H1
   replace H := Option.bind_eq_some_iff.mp H
   obtain ⟨t103, A90, H⟩ := H
   replace H : (some (t103, true)) = some (r1, r2) := H
   have A9 := am A90
   clear A90
   simp only [Option.some.injEq, Prod.mk.injEq] at H
   obtain ⟨rfl, rfl⟩ := H
   go_enter Tryz.func22, Tryz.ntmps22
   go_wp2_with (first | ((with_reducible refine gate_callee (f := 64) rfl ?_); refine goesL_ (some 13) rfl rfl Tryz.func64 (by kernel_rfl) rfl #[.string a0, .slice A1 l1.length c1, .slice A2 l2.length c2] rfl aq3 ?_; (with_reducible refine (impl_isGate.calls k a0 _ _ l1 _ _ l2 true _ ?side1 ?side2 ?side3 ?side4 A5.out).mono ?_); (case side1 => exact aq40); (case side2 => exact HC1.out); (case side3 => exact aq49); (case side4 => exact HC2.out); rintro e w10 ⟨rfl, hb⟩; refine ⟨_, rfl, ?_⟩; have n0_ := am (below_step aq1 hb); clear HB; have HB := n0_; clear n0_; (try clear hb); (try clear hb2); (try clear hk); (try clear hi)) | (go_at_call 65; (with_reducible refine (impl_IsWord.calls a3 true _ A7.out).mono ?_); rintro e w11 ⟨rfl, hb⟩; have n0_ := am (below_step aq1 hb); clear HB; have HB := n0_; clear n0_; (try clear hb); (try clear hb2); (try clear hk); (try clear hi)) | ((with_reducible refine gate_callee (f := 66) rfl ?_); refine goesL_ (some 24) rfl rfl Tryz.func66 (by kernel_rfl) rfl #[.string a0, .slice A1 l1.length c1, .slice A2 l2.length c2, .string a3] rfl aq3 ?_; (with_reducible refine (impl_table.calls k a0 _ _ l1 _ _ l2 a3 t103 _ ?side1 ?side2 ?side3 ?side4 A9.out).mono ?_); (case side1 => exact aq22); (case side2 => exact HC1.out); (case side3 => exact aq38); (case side4 => exact HC2.out); rintro e w12 ⟨v104, rfl, ho0, hb⟩; refine ⟨_, rfl, ?_⟩; have n0_ := am (Kd.R_lower ho0 (below_size aq1)); have n1_ := am (below_step aq1 hb); clear HB; have HO105 := n0_; have HB := n1_; clear n0_ n1_; (try clear hb); (try clear hb2); (try clear hk); (try clear hi); (try clear ho0)))
   go_ret2
   exact ⟨_, aq7, aq74, aq1⟩
  ·replace c8 := Bool.eq_false_iff.mpr c8
   subst c8
   have H1 : (some (([] : List Int), false)) = some (r1, r2) := by rw [if_neg (show ¬ (false = true) by decide)] at H; exact H
   clear H
   have H := H1
   clear H1
   simp only [Option.some.injEq, Prod.mk.injEq] at H
   obtain ⟨rfl, rfl⟩ := H
   go_enter Tryz.func22, Tryz.ntmps22
   go_wp2_with (first | ((with_reducible refine gate_callee (f := 64) rfl ?_); refine goesL_ (some 13) rfl rfl Tryz.func64 (by kernel_rfl) rfl #[.string a0, .slice A1 l1.length c1, .slice A2 l2.length c2] rfl aq3 ?_; (with_reducible refine (impl_isGate.calls k a0 _ _ l1 _ _ l2 true _ ?side1 ?side2 ?side3 ?side4 A5.out).mono ?_); (case side1 => exact aq40); (case side2 => exact HC1.out); (case side3 => exact aq49); (case side4 => exact HC2.out); rintro e w13 ⟨rfl, hb⟩; refine ⟨_, rfl, ?_⟩; have n0_ := am (below_step aq1 hb); clear HB; have HB := n0_; clear n0_; (try clear hb); (try clear hb2); (try clear hk); (try clear hi)) | (go_at_call 65; (with_reducible refine (impl_IsWord.calls a3 false _ A7.out).mono ?_); rintro e w14 ⟨rfl, hb⟩; have n0_ := am (below_step aq1 hb); clear HB; have HB := n0_; clear n0_; (try clear hb); (try clear hb2); (try clear hk); (try clear hi)))
   go_ret2
   exact ⟨_, aq7, aq17, aq1⟩
 ·replace c6 := Bool.eq_false_iff.mpr c6
  subst c6
  have H1 : (some (([] : List Int), false)) = some (r1, r2) := by rw [if_neg (show ¬ (false = true) by decide)] at H; exact H
  clear H
  have H := H1
  clear H1
  simp only [Option.some.injEq, Prod.mk.injEq] at H
  obtain ⟨rfl, rfl⟩ := H
  go_enter Tryz.func22, Tryz.ntmps22
  go_wp2_with (first | ((with_reducible refine gate_callee (f := 64) rfl ?_); refine goesL_ (some 13) rfl rfl Tryz.func64 (by kernel_rfl) rfl #[.string a0, .slice A1 l1.length c1, .slice A2 l2.length c2] rfl aq3 ?_; (with_reducible refine (impl_isGate.calls k a0 _ _ l1 _ _ l2 false _ ?side1 ?side2 ?side3 ?side4 A5.out).mono ?_); (case side1 => exact aq40); (case side2 => exact HC1.out); (case side3 => exact aq49); (case side4 => exact HC2.out); rintro e w15 ⟨rfl, hb⟩; refine ⟨_, rfl, ?_⟩; have n0_ := am (below_step aq1 hb); clear HB; have HB := n0_; clear n0_; (try clear hb); (try clear hb2); (try clear hk); (try clear hi)))
  go_ret2
  exact ⟨_, aq7, aq17, aq1⟩
mutual
def laws_FnExactGateTable.j0 : Nat → ByteArray → List Int → List Int → ByteArray → List Int → Bool → List Int → List Int → List Int → Bool → Bool → Option (Bool)
 | 0, _, _, _, _, _, _, _, _, _, _, _ => none
 | k + 1, x0, x1, x2, x3, x9, x10, x11, x12, x13, x14, x62 => if x62 = true then (some false) else ((laws_toIntS.f k x1).bind fun t122 => ((laws_eqIntS.f k x11 t122).bind fun t125 => (if t125 = true then ((laws_toIntS.f k x2).bind fun t126 => ((laws_eqIntS.f k x12 t126).bind fun t129 => (if t129 = true then ((laws_markIntS.f k x11 1).bind fun bt130 => ((laws_markIntS.f k x12 bt130.1).bind fun bt132 => (if bt132.1 < 0 then (laws_FnExactGateTable.j1 k x0 x1 x2 x3 x9 x10 x13 true) else ((laws_eqIntS.f k x13 x9).bind fun t134 => (if t134 = true then (laws_FnExactGateTable.j1 k x0 x1 x2 x3 x9 x10 x13 (x14 != x10)) else (laws_FnExactGateTable.j1 k x0 x1 x2 x3 x9 x10 x13 true)))))) else (some false)))) else (some false))))
def laws_FnExactGateTable.j1 : Nat → ByteArray → List Int → List Int → ByteArray → List Int → Bool → List Int → Bool → Option (Bool)
 | 0, _, _, _, _, _, _, _, _ => none
 | k + 1, x0, x1, x2, x3, x9, x10, x13, x91 => if x91 = true then (some false) else ((laws_markIntS.f k x13 1).bind fun bt135 => ((laws_heldIntS.f k bt135.2 1).bind fun t137 => (if t137 < 0 then (some false) else (if t137 = bt135.1 then ((laws_toIntS.f k x1).bind fun t138 => ((laws_toIntS.f k x2).bind fun t141 => ((impl_GateTable.f k x0 t138 t141 x3).bind fun bt144 => ((laws_eqIntS.f k bt144.1 x9).bind fun t148 => (if t148 = true then (laws_FnExactGateTable.j2 k bt135.2 bt135.1 (bt144.2 != x10)) else (laws_FnExactGateTable.j2 k bt135.2 bt135.1 true)))))) else (some false)))))
def laws_FnExactGateTable.j2 : Nat → List Int → Int → Bool → Option (Bool)
 | 0, _, _, _ => none
 | k + 1, x13, x16, x121 => if x121 = true then (some false) else ((laws_heldIntS.f k x13 1).bind fun t149 => (if t149 < 0 then (some false) else (if t149 = x16 then (some true) else (some false))))
end
def laws_FnExactGateTable.f (k : Nat) (a0 : ByteArray) (l1 : List Int) (l2 : List Int) (a3 : ByteArray) : Option (Bool) := if (a0.size : Int) > 1048576 then (some true) else (if (l1.length : Int) > 1048576 then (some true) else (if (l2.length : Int) > 1048576 then (some true) else (if (a3.size : Int) > 1048576 then (some true) else ((laws_toIntS.f k l1).bind fun t101 => ((laws_toIntS.f k l2).bind fun t104 => ((spec_GateTable.f k a0 t101 t104 a3).bind fun bt107 => ((laws_toIntS.f k l1).bind fun t111 => ((laws_toIntS.f k l2).bind fun t114 => ((impl_GateTable.f k a0 t111 t114 a3).bind fun bt117 => ((laws_eqIntS.f k bt117.1 bt107.1).bind fun t121 => (if t121 = true then (laws_FnExactGateTable.j0 k a0 l1 l2 a3 bt107.1 bt107.2 t111 t114 bt117.1 bt117.2 (bt117.2 != bt107.2)) else (laws_FnExactGateTable.j0 k a0 l1 l2 a3 bt107.1 bt107.2 t111 t114 bt117.1 bt117.2 true))))))))))))
theorem laws_FnExactGateTable.mono_l : ∀ k, (∀ y0 y1 y2 y3 y4 y5 y6 y7 y8 y9 y10, LeO (laws_FnExactGateTable.j0 k y0 y1 y2 y3 y4 y5 y6 y7 y8 y9 y10) (laws_FnExactGateTable.j0 (k + 1) y0 y1 y2 y3 y4 y5 y6 y7 y8 y9 y10)) ∧ (∀ y0 y1 y2 y3 y4 y5 y6 y7, LeO (laws_FnExactGateTable.j1 k y0 y1 y2 y3 y4 y5 y6 y7) (laws_FnExactGateTable.j1 (k + 1) y0 y1 y2 y3 y4 y5 y6 y7)) ∧ (∀ y0 y1 y2, LeO (laws_FnExactGateTable.j2 k y0 y1 y2) (laws_FnExactGateTable.j2 (k + 1) y0 y1 y2))
 | 0 => ⟨fun _ _ _ _ _ _ _ _ _ _ _ r h => by simp [laws_FnExactGateTable.j0] at h, fun _ _ _ _ _ _ _ _ r h => by simp [laws_FnExactGateTable.j1] at h, fun _ _ _ r h => by simp [laws_FnExactGateTable.j2] at h⟩
 | k + 1 => by
  obtain ⟨ih0, ih1, ih2⟩ := laws_FnExactGateTable.mono_l k
  refine ⟨?_, ?_, ?_⟩
  ·intro y0 y1 y2 y3 y4 y5 y6 y7 y8 y9 y10
   unfold laws_FnExactGateTable.j0
   have im0 := @impl_GateTable.mono; have im1 := @laws_eqIntS.mono; have im2 := @laws_heldIntS.mono; have im3 := @laws_markIntS.mono; have im4 := @laws_toIntS.mono; have im5 := @spec_GateTable.mono; exact mo
  ·intro y0 y1 y2 y3 y4 y5 y6 y7
   unfold laws_FnExactGateTable.j1
   have im0 := @impl_GateTable.mono; have im1 := @laws_eqIntS.mono; have im2 := @laws_heldIntS.mono; have im3 := @laws_markIntS.mono; have im4 := @laws_toIntS.mono; have im5 := @spec_GateTable.mono; exact mo
  ·intro y0 y1 y2
   unfold laws_FnExactGateTable.j2
   have im0 := @impl_GateTable.mono; have im1 := @laws_eqIntS.mono; have im2 := @laws_heldIntS.mono; have im3 := @laws_markIntS.mono; have im4 := @laws_toIntS.mono; have im5 := @spec_GateTable.mono; exact mo
set_option maxHeartbeats 8000000 in
set_option maxRecDepth 100000 in
theorem laws_FnExactGateTable.calls (k : Nat) (a0 : ByteArray) (A1 : Option Addr) (c1 : Nat) (l1 : List Int) (A2 : Option Addr) (c2 : Nat) (l2 : List Int) (a3 : ByteArray) (r : Bool) (w : World) (hr1 : Kd.C (Kd.int .i64) w A1 l1.length l1) (hc1 : l1.length ≤ c1) (hr2 : Kd.C (Kd.int .i64) w A2 l2.length l2) (hc2 : l2.length ≤ c2) (h : laws_FnExactGateTable.f k a0 l1 l2 a3 = some r) :
  Calls Tryz.prog 4 #[.string a0, .slice A1 l1.length c1, .slice A2 l2.length c2, .string a3] w fun e w' => e = .returned (.bool r) ∧ Below w.heap.size w w' := by
 have HR1 := am hr1
 have HC1 := am hc1
 clear hr1 hc1
 have HR2 := am hr2
 have HC2 := am hc2
 clear hr2 hc2
 have HB := am (Below.refl w.heap.size w)
 have H : (if (a0.size : Int) > 1048576 then (some true) else (if (l1.length : Int) > 1048576 then (some true) else (if (l2.length : Int) > 1048576 then (some true) else (if (a3.size : Int) > 1048576 then (some true) else ((laws_toIntS.f k l1).bind fun t101 => ((laws_toIntS.f k l2).bind fun t104 => ((spec_GateTable.f k a0 t101 t104 a3).bind fun bt107 => ((laws_toIntS.f k l1).bind fun t111 => ((laws_toIntS.f k l2).bind fun t114 => ((impl_GateTable.f k a0 t111 t114 a3).bind fun bt117 => ((laws_eqIntS.f k bt117.1 bt107.1).bind fun t121 => (if t121 = true then (laws_FnExactGateTable.j0 k a0 l1 l2 a3 bt107.1 bt107.2 t111 t114 bt117.1 bt117.2 (bt117.2 != bt107.2)) else (laws_FnExactGateTable.j0 k a0 l1 l2 a3 bt107.1 bt107.2 t111 t114 bt117.1 bt117.2 true))))))))))))) = some r := h
 clear h
 by_cases c5 : (a0.size : Int) > 1048576
 ·rw [if_pos c5] at H
  have c5b0 : decide (1048576 < (a0.size : Int)) = true := decide_eq_true c5
  have c5b1 : decide (1048576 < a0.size) = true := decide_eq_true (by omega)
  clear c5
  obtain rfl := Option.some.inj H
  go_enter Tryz.func4, Tryz.ntmps4
  go_wp2
  go_ret
  exact ⟨aq7, aq1⟩
 ·rw [if_neg c5] at H
  have c5b0 : decide (1048576 < (a0.size : Int)) = false := decide_eq_false c5
  have c5b1 : decide (1048576 < a0.size) = false := decide_eq_false (by omega)
  clear c5
  by_cases c6 : (l1.length : Int) > 1048576
  ·rw [if_pos c6] at H
   have c6b0 : decide (1048576 < (l1.length : Int)) = true := decide_eq_true c6
   have c6b1 : decide (1048576 < l1.length) = true := decide_eq_true (by omega)
   clear c6
   obtain rfl := Option.some.inj H
   go_enter Tryz.func4, Tryz.ntmps4
   go_wp2
   go_ret
   exact ⟨aq7, aq1⟩
  ·rw [if_neg c6] at H
   have c6b0 : decide (1048576 < (l1.length : Int)) = false := decide_eq_false c6
   have c6b1 : decide (1048576 < l1.length) = false := decide_eq_false (by omega)
   clear c6
   by_cases c7 : (l2.length : Int) > 1048576
   ·rw [if_pos c7] at H
    have c7b0 : decide (1048576 < (l2.length : Int)) = true := decide_eq_true c7
    have c7b1 : decide (1048576 < l2.length) = true := decide_eq_true (by omega)
    clear c7
    obtain rfl := Option.some.inj H
    go_enter Tryz.func4, Tryz.ntmps4
    go_wp2
    go_ret
    exact ⟨aq7, aq1⟩
   ·rw [if_neg c7] at H
    have c7b0 : decide (1048576 < (l2.length : Int)) = false := decide_eq_false c7
    have c7b1 : decide (1048576 < l2.length) = false := decide_eq_false (by omega)
    clear c7
    by_cases c8 : (a3.size : Int) > 1048576
    ·rw [if_pos c8] at H
     have c8b0 : decide (1048576 < (a3.size : Int)) = true := decide_eq_true c8
     have c8b1 : decide (1048576 < a3.size) = true := decide_eq_true (by omega)
     clear c8
     obtain rfl := Option.some.inj H
     go_enter Tryz.func4, Tryz.ntmps4
     go_wp2
     go_ret
     exact ⟨aq7, aq1⟩
    ·rw [if_neg c8] at H
     have c8b0 : decide (1048576 < (a3.size : Int)) = false := decide_eq_false c8
     have c8b1 : decide (1048576 < a3.size) = false := decide_eq_false (by omega)
     clear c8
     replace H := Option.bind_eq_some_iff.mp H
     obtain ⟨t101, A90, H⟩ := H
     replace H : ((laws_toIntS.f k l2).bind fun t104 => ((spec_GateTable.f k a0 t101 t104 a3).bind fun bt107 => ((laws_toIntS.f k l1).bind fun t111 => ((laws_toIntS.f k l2).bind fun t114 => ((impl_GateTable.f k a0 t111 t114 a3).bind fun bt117 => ((laws_eqIntS.f k bt117.1 bt107.1).bind fun t121 => (if t121 = true then (laws_FnExactGateTable.j0 k a0 l1 l2 a3 bt107.1 bt107.2 t111 t114 bt117.1 bt117.2 (bt117.2 != bt107.2)) else (laws_FnExactGateTable.j0 k a0 l1 l2 a3 bt107.1 bt107.2 t111 t114 bt117.1 bt117.2 true)))))))) = some r := H
     have A9 := am A90
     clear A90
     replace H := Option.bind_eq_some_iff.mp H
     obtain ⟨t104, A100, H⟩ := H
     replace H : ((spec_GateTable.f k a0 t101 t104 a3).bind fun bt107 => ((laws_toIntS.f k l1).bind fun t111 => ((laws_toIntS.f k l2).bind fun t114 => ((impl_GateTable.f k a0 t111 t114 a3).bind fun bt117 => ((laws_eqIntS.f k bt117.1 bt107.1).bind fun t121 => (if t121 = true then (laws_FnExactGateTable.j0 k a0 l1 l2 a3 bt107.1 bt107.2 t111 t114 bt117.1 bt117.2 (bt117.2 != bt107.2)) else (laws_FnExactGateTable.j0 k a0 l1 l2 a3 bt107.1 bt107.2 t111 t114 bt117.1 bt117.2 true))))))) = some r := H
     have A10 := am A100
     clear A100
     replace H := Option.bind_eq_some_iff.mp H
     obtain ⟨⟨t107, t108⟩, A110, H⟩ := H
     replace H : ((laws_toIntS.f k l1).bind fun t111 => ((laws_toIntS.f k l2).bind fun t114 => ((impl_GateTable.f k a0 t111 t114 a3).bind fun bt117 => ((laws_eqIntS.f k bt117.1 t107).bind fun t121 => (if t121 = true then (laws_FnExactGateTable.j0 k a0 l1 l2 a3 t107 t108 t111 t114 bt117.1 bt117.2 (bt117.2 != t108)) else (laws_FnExactGateTable.j0 k a0 l1 l2 a3 t107 t108 t111 t114 bt117.1 bt117.2 true)))))) = some r := H
     have A11 := am A110
     clear A110
     replace H := Option.bind_eq_some_iff.mp H
     obtain ⟨t111, A120, H⟩ := H
     replace H : ((laws_toIntS.f k l2).bind fun t114 => ((impl_GateTable.f k a0 t111 t114 a3).bind fun bt117 => ((laws_eqIntS.f k bt117.1 t107).bind fun t121 => (if t121 = true then (laws_FnExactGateTable.j0 k a0 l1 l2 a3 t107 t108 t111 t114 bt117.1 bt117.2 (bt117.2 != t108)) else (laws_FnExactGateTable.j0 k a0 l1 l2 a3 t107 t108 t111 t114 bt117.1 bt117.2 true))))) = some r := H
     have A12 := am A120
     clear A120
     replace H := Option.bind_eq_some_iff.mp H
     obtain ⟨t114, A130, H⟩ := H
     replace H : ((impl_GateTable.f k a0 t111 t114 a3).bind fun bt117 => ((laws_eqIntS.f k bt117.1 t107).bind fun t121 => (if t121 = true then (laws_FnExactGateTable.j0 k a0 l1 l2 a3 t107 t108 t111 t114 bt117.1 bt117.2 (bt117.2 != t108)) else (laws_FnExactGateTable.j0 k a0 l1 l2 a3 t107 t108 t111 t114 bt117.1 bt117.2 true)))) = some r := H
     have A13 := am A130
     clear A130
     replace H := Option.bind_eq_some_iff.mp H
     obtain ⟨⟨t117, t118⟩, A140, H⟩ := H
     replace H : ((laws_eqIntS.f k t117 t107).bind fun t121 => (if t121 = true then (laws_FnExactGateTable.j0 k a0 l1 l2 a3 t107 t108 t111 t114 t117 t118 (t118 != t108)) else (laws_FnExactGateTable.j0 k a0 l1 l2 a3 t107 t108 t111 t114 t117 t118 true))) = some r := H
     have A14 := am A140
     clear A140
     have HC15 := am H
     clear H
     go_enter Tryz.func4, Tryz.ntmps4
     go_upto_region 13 with (first | ((with_reducible refine gate_callee (f := 21) rfl ?_); refine goesL_ (some 35) rfl rfl Tryz.func21 (by kernel_rfl) rfl #[.slice A1 l1.length c1] rfl aq3 ?_; (with_reducible refine (laws_toIntS.calls k _ _ l1 t101 _ ?side1 ?side2 A9.out).mono ?_); (case side1 => exact aq40); (case side2 => exact HC1.out); rintro e w16 ⟨v102, rfl, ho0, hb⟩; refine ⟨_, rfl, ?_⟩; have n0_ := am (Kd.R_lower ho0 (below_size aq1)); have n1_ := am (below_step aq1 hb); clear HB; have HO103 := n0_; have HB := n1_; clear n0_ n1_; (try clear hb); (try clear hb2); (try clear hk); (try clear hi); (try clear ho0)) | ((with_reducible refine gate_callee (f := 21) rfl ?_); refine goesL_ (some 37) rfl rfl Tryz.func21 (by kernel_rfl) rfl #[.slice A2 l2.length c2] rfl aq3 ?_; (with_reducible refine (laws_toIntS.calls k _ _ l2 t104 _ ?side1 ?side2 A10.out).mono ?_); (case side1 => exact aq38); (case side2 => exact HC2.out); rintro e w17 ⟨v105, rfl, ho0, hb⟩; refine ⟨_, rfl, ?_⟩; have n0_ := am (Kd.R_elder' aq23 (Kd.R_base ho0) hb); have n1_ := am (Kd.R_lower (Kd.R_new' ho0 (Kd.R_lt aq23)) (below_size aq1)); have n2_ := am (below_step aq1 hb); clear HO103; clear HB; have HO103 := n0_; have HO106 := n1_; have HB := n2_; clear n0_ n1_ n2_; (try clear hb); (try clear hb2); (try clear hk); (try clear hi); (try clear ho0); obtain ⟨Ao18, co18, eo18⟩ := Kd.R_slice HO103.out; subst eo18; obtain ⟨Ao19, co19, eo19⟩ := Kd.R_slice HO106.out; subst eo19) | ((with_reducible refine gate_callee (f := 20) rfl ?_); refine goesL_ (some 39) rfl rfl Tryz.func20 (by kernel_rfl) rfl #[.string a0, .slice Ao18 t101.length co18, .slice Ao19 t104.length co19, .string a3] rfl aq3 ?_; (with_reducible refine (spec_GateTable.calls k a0 _ _ t101 _ _ t104 a3 t107 t108 _ ?side1 ?side2 ?side3 ?side4 A11.out).mono ?_); (case side1 => repeat (first | exact (Kd.R_reads' HO103.out).2.2 | (with_reducible refine Kd.C_alloc ?_ _) | (with_reducible refine Kd.C_drewN ?_ _) | (with_reducible refine Kd.C_drew ?_))); (case side2 => exact (Kd.R_reads' HO103.out).2.1); (case side3 => exact aq54); (case side4 => exact (Kd.R_reads' HO106.out).2.1); rintro e w20 ⟨v109, rfl, ho0, hb⟩; refine ⟨_, rfl, ?_⟩; have n0_ := am (Kd.R_elder' aq23 (Kd.R_base ho0) hb); have n1_ := am (Kd.R_elder' aq16 (Kd.R_base ho0) hb); have n2_ := am (Kd.R_lower (Kd.R_new' (Kd.R_new' ho0 (Kd.R_lt aq23)) (Kd.R_lt aq16)) (below_size aq1)); have n3_ := am (below_step aq1 hb); clear HO103; clear HO106; clear HB; have HO103 := n0_; have HO106 := n1_; have HO110 := n2_; have HB := n3_; clear n0_ n1_ n2_ n3_; (try clear hb); (try clear hb2); (try clear hk); (try clear hi); (try clear ho0)) | ((with_reducible refine gate_callee (f := 21) rfl ?_); refine goesL_ (some 43) rfl rfl Tryz.func21 (by kernel_rfl) rfl #[.slice A1 l1.length c1] rfl aq3 ?_; (with_reducible refine (laws_toIntS.calls k _ _ l1 t111 _ ?side1 ?side2 A12.out).mono ?_); (case side1 => exact aq22); (case side2 => exact HC1.out); rintro e w21 ⟨v112, rfl, ho0, hb⟩; refine ⟨_, rfl, ?_⟩; have n0_ := am (Kd.R_elder' aq23 (Kd.R_base ho0) hb); have n1_ := am (Kd.R_elder' aq16 (Kd.R_base ho0) hb); have n2_ := am (Kd.R_elder' aq30 (Kd.R_base ho0) hb); have n3_ := am (Kd.R_lower (Kd.R_new' (Kd.R_new' (Kd.R_new' ho0 (Kd.R_lt aq23)) (Kd.R_lt aq16)) (Kd.R_lt aq30)) (below_size aq1)); have n4_ := am (below_step aq1 hb); clear HO103; clear HO106; clear HO110; clear HB; have HO103 := n0_; have HO106 := n1_; have HO110 := n2_; have HO113 := n3_; have HB := n4_; clear n0_ n1_ n2_ n3_ n4_; (try clear hb); (try clear hb2); (try clear hk); (try clear hi); (try clear ho0)) | ((with_reducible refine gate_callee (f := 21) rfl ?_); refine goesL_ (some 45) rfl rfl Tryz.func21 (by kernel_rfl) rfl #[.slice A2 l2.length c2] rfl aq3 ?_; (with_reducible refine (laws_toIntS.calls k _ _ l2 t114 _ ?side1 ?side2 A13.out).mono ?_); (case side1 => exact aq38); (case side2 => exact HC2.out); rintro e w22 ⟨v115, rfl, ho0, hb⟩; refine ⟨_, rfl, ?_⟩; have n0_ := am (Kd.R_elder' aq23 (Kd.R_base ho0) hb); have n1_ := am (Kd.R_elder' aq16 (Kd.R_base ho0) hb); have n2_ := am (Kd.R_elder' aq30 (Kd.R_base ho0) hb); have n3_ := am (Kd.R_elder' aq72 (Kd.R_base ho0) hb); have n4_ := am (Kd.R_lower (Kd.R_new' (Kd.R_new' (Kd.R_new' (Kd.R_new' ho0 (Kd.R_lt aq23)) (Kd.R_lt aq16)) (Kd.R_lt aq30)) (Kd.R_lt aq72)) (below_size aq1)); have n5_ := am (below_step aq1 hb); clear HO103; clear HO106; clear HO110; clear HO113; clear HB; have HO103 := n0_; have HO106 := n1_; have HO110 := n2_; have HO113 := n3_; have HO116 := n4_; have HB := n5_; clear n0_ n1_ n2_ n3_ n4_ n5_; (try clear hb); (try clear hb2); (try clear hk); (try clear hi); (try clear ho0); obtain ⟨Ao23, co23, eo23⟩ := Kd.R_slice HO113.out; subst eo23; obtain ⟨Ao24, co24, eo24⟩ := Kd.R_slice HO116.out; subst eo24) | ((with_reducible refine gate_callee (f := 22) rfl ?_); refine goesL_ (some 51) rfl rfl Tryz.func22 (by kernel_rfl) rfl #[.string a0, .slice Ao23 t111.length co23, .slice Ao24 t114.length co24, .string a3] rfl aq3 ?_; (with_reducible refine (impl_GateTable.calls k a0 _ _ t111 _ _ t114 a3 t117 t118 _ ?side1 ?side2 ?side3 ?side4 A14.out).mono ?_); (case side1 => repeat (first | exact (Kd.R_reads' HO113.out).2.2 | (with_reducible refine Kd.C_alloc ?_ _) | (with_reducible refine Kd.C_drewN ?_ _) | (with_reducible refine Kd.C_drew ?_))); (case side2 => exact (Kd.R_reads' HO113.out).2.1); (case side3 => repeat (first | exact (Kd.R_reads' HO116.out).2.2 | (with_reducible refine Kd.C_alloc ?_ _) | (with_reducible refine Kd.C_drewN ?_ _) | (with_reducible refine Kd.C_drew ?_))); (case side4 => exact (Kd.R_reads' HO116.out).2.1); rintro e w25 ⟨v119, rfl, ho0, hb⟩; refine ⟨_, rfl, ?_⟩; have n0_ := am (Kd.R_elder' aq23 (Kd.R_base ho0) hb); have n1_ := am (Kd.R_elder' aq16 (Kd.R_base ho0) hb); have n2_ := am (Kd.R_elder' aq30 (Kd.R_base ho0) hb); have n3_ := am (Kd.R_elder' aq72 (Kd.R_base ho0) hb); have n4_ := am (Kd.R_elder' (by (with_reducible repeat (first | apply Kd.R_alloc | apply Kd.R_drewN | apply Kd.R_drew)); exact HO116.out) (Kd.R_base ho0) hb); have n5_ := am (Kd.R_lower (Kd.R_new' (Kd.R_new' (Kd.R_new' (Kd.R_new' (Kd.R_new' ho0 (Kd.R_lt aq23)) (Kd.R_lt aq16)) (Kd.R_lt aq30)) (Kd.R_lt aq72)) (Kd.R_lt (by (with_reducible repeat (first | apply Kd.R_alloc | apply Kd.R_drewN | apply Kd.R_drew)); exact HO116.out))) (below_size aq1)); have n6_ := am (below_step aq1 hb); clear HO103; clear HO106; clear HO110; clear HO113; clear HO116; clear HB; have HO103 := n0_; have HO106 := n1_; have HO110 := n2_; have HO113 := n3_; have HO116 := n4_; have HO120 := n5_; have HB := n6_; clear n0_ n1_ n2_ n3_ n4_ n5_ n6_; (try clear hb); (try clear hb2); (try clear hk); (try clear hi); (try clear ho0)))
     (try simp only [Act.put, List.setIfInBounds_toArray, List.set_cons_zero, List.set_cons_succ])
     go_cut [62] (fun v62 wc => ∃ (kq : Nat) (x62_14 : Bool), v62 = .bool x62_14 ∧ Aside0 (laws_FnExactGateTable.j0 kq a0 l1 l2 a3 t107 t108 t111 t114 t117 t118 x62_14 = some r) ∧ Aside0 (kq ≤ k) ∧ Aside0 (Kd.R (Kd.int .i64) 3 wc w.heap.size (fun k_ => some k_ ≠ ((.slice Ao23 t111.length co23) : Value).ownBlock ∧ some k_ ≠ ((.slice Ao24 t114.length co24) : Value).ownBlock ∧ some k_ ≠ (v119 : Value).ownBlock) v109 t107) ∧ Aside0 (Kd.R (Kd.int .i64) 3 wc w.heap.size (fun k_ => some k_ ≠ (v109 : Value).ownBlock ∧ some k_ ≠ ((.slice Ao24 t114.length co24) : Value).ownBlock ∧ some k_ ≠ (v119 : Value).ownBlock) (.slice Ao23 t111.length co23) t111) ∧ Aside0 (Kd.R (Kd.int .i64) 3 wc w.heap.size (fun k_ => some k_ ≠ (v109 : Value).ownBlock ∧ some k_ ≠ ((.slice Ao23 t111.length co23) : Value).ownBlock ∧ some k_ ≠ (v119 : Value).ownBlock) (.slice Ao24 t114.length co24) t114) ∧ Aside0 (Kd.R (Kd.int .i64) 3 wc w.heap.size (fun k_ => some k_ ≠ (v109 : Value).ownBlock ∧ some k_ ≠ ((.slice Ao23 t111.length co23) : Value).ownBlock ∧ some k_ ≠ ((.slice Ao24 t114.length co24) : Value).ownBlock) v119 t117) ∧ Aside0 (Below w.heap.size w wc))
     case first =>
      have H := HC15.out
      clear HC15
      replace H := Option.bind_eq_some_iff.mp H
      obtain ⟨t121, A260, H⟩ := H
      replace H : (if t121 = true then (laws_FnExactGateTable.j0 k a0 l1 l2 a3 t107 t108 t111 t114 t117 t118 (t118 != t108)) else (laws_FnExactGateTable.j0 k a0 l1 l2 a3 t107 t108 t111 t114 t117 t118 true)) = some r := H
      have A26 := am A260
      clear A260
      by_cases c27 : t121 = true
      ·subst c27
       have H1 : (laws_FnExactGateTable.j0 k a0 l1 l2 a3 t107 t108 t111 t114 t117 t118 (t118 != t108)) = some r := by rw [if_pos rfl] at H; exact H
       clear H
       have H := H1
       clear H1
       have H' := am H
       clear H
       obtain ⟨Ao28, co28, eo28⟩ := Kd.R_slice HO120.out
       subst eo28
       obtain ⟨Ao29, co29, eo29⟩ := Kd.R_slice HO110.out
       subst eo29
       go_wp2_with (first | ((with_reducible refine gate_callee (f := 23) rfl ?_); refine goesL_ (some 56) rfl rfl Tryz.func23 (by kernel_rfl) rfl #[.slice Ao28 t117.length co28, .slice Ao29 t107.length co29] rfl aq3 ?_; (with_reducible refine (laws_eqIntS.calls k _ _ t117 _ _ t107 true _ ?side1 ?side2 ?side3 ?side4 A26.out).mono ?_); (case side1 => exact aq103); (case side2 => exact (Kd.R_reads' HO120.out).2.1); (case side3 => exact aq104); (case side4 => exact (Kd.R_reads' HO110.out).2.1); rintro e w' ⟨rfl, ⟨nd, rfl⟩⟩; refine ⟨_, rfl, ?_⟩))
       go_meet
       case rel => exact ⟨_, ((t118 != t108)), aq6, H', ⟨aq109⟩, ⟨aq113⟩, ⟨aq112⟩, ⟨aq111⟩, ⟨aq110⟩, ⟨aq1⟩⟩
      ·replace c27 := Bool.eq_false_iff.mpr c27
       subst c27
       have H1 : (laws_FnExactGateTable.j0 k a0 l1 l2 a3 t107 t108 t111 t114 t117 t118 true) = some r := by rw [if_neg (show ¬ (false = true) by decide)] at H; exact H
       clear H
       have H := H1
       clear H1
       have H' := am H
       clear H
       obtain ⟨Ao30, co30, eo30⟩ := Kd.R_slice HO120.out
       subst eo30
       obtain ⟨Ao31, co31, eo31⟩ := Kd.R_slice HO110.out
       subst eo31
       go_wp2_with (first | ((with_reducible refine gate_callee (f := 23) rfl ?_); refine goesL_ (some 56) rfl rfl Tryz.func23 (by kernel_rfl) rfl #[.slice Ao30 t117.length co30, .slice Ao31 t107.length co31] rfl aq3 ?_; (with_reducible refine (laws_eqIntS.calls k _ _ t117 _ _ t107 false _ ?side1 ?side2 ?side3 ?side4 A26.out).mono ?_); (case side1 => exact aq103); (case side2 => exact (Kd.R_reads' HO120.out).2.1); (case side3 => exact aq104); (case side4 => exact (Kd.R_reads' HO110.out).2.1); rintro e w' ⟨rfl, ⟨nd, rfl⟩⟩; refine ⟨_, rfl, ?_⟩))
       go_meet
       case rel => exact ⟨_, (true), aq6, H', ⟨aq109⟩, ⟨aq113⟩, ⟨aq112⟩, ⟨aq111⟩, ⟨aq110⟩, ⟨aq1⟩⟩
     case rest =>
      clear HC15
      try clear c1
      try clear c2
      try clear p2
      try clear c4
      try clear c5
      try clear c5b0
      try clear c5b1
      try clear c6
      try clear c6b0
      try clear c6b1
      try clear c7
      try clear c7b0
      try clear c7b1
      try clear c8
      try clear c8b0
      try clear c8b1
      try clear c20
      try clear c21
      try clear c22
      try clear c23
      try clear c27
      obtain ⟨kq, x62_14, rfl, HA, HJ14, HO_9, HO_11, HO_12, HO_13, HB⟩ := hcut
      cases kq with
      | zero => exact absurd HA.out (by simp [laws_FnExactGateTable.j0])
      | succ kj14 =>
       have H := HA.out
       clear HA
       simp only [laws_FnExactGateTable.j0] at H
       by_cases c32 : x62_14 = true
       ·subst c32
        have H1 : (some false) = some r := by rw [if_pos rfl] at H; exact H
        clear H
        have H := H1
        clear H1
        obtain rfl := Option.some.inj H
        go_wp2
        go_ret
        exact ⟨aq7, aq1⟩
       ·replace c32 := Bool.eq_false_iff.mpr c32
        subst c32
        have H1 : ((laws_toIntS.f kj14 l1).bind fun t122 => ((laws_eqIntS.f kj14 t111 t122).bind fun t125 => (if t125 = true then ((laws_toIntS.f kj14 l2).bind fun t126 => ((laws_eqIntS.f kj14 t114 t126).bind fun t129 => (if t129 = true then ((laws_markIntS.f kj14 t111 1).bind fun bt130 => ((laws_markIntS.f kj14 t114 bt130.1).bind fun bt132 => (if bt132.1 < 0 then (laws_FnExactGateTable.j1 kj14 a0 l1 l2 a3 t107 t108 t117 true) else ((laws_eqIntS.f kj14 t117 t107).bind fun t134 => (if t134 = true then (laws_FnExactGateTable.j1 kj14 a0 l1 l2 a3 t107 t108 t117 (t118 != t108)) else (laws_FnExactGateTable.j1 kj14 a0 l1 l2 a3 t107 t108 t117 true)))))) else (some false)))) else (some false)))) = some r := by rw [if_neg (show ¬ (false = true) by decide)] at H; exact H
        clear H
        have H := H1
        clear H1
        replace H := Option.bind_eq_some_iff.mp H
        obtain ⟨t122, A330, H⟩ := H
        replace H : ((laws_eqIntS.f kj14 t111 t122).bind fun t125 => (if t125 = true then ((laws_toIntS.f kj14 l2).bind fun t126 => ((laws_eqIntS.f kj14 t114 t126).bind fun t129 => (if t129 = true then ((laws_markIntS.f kj14 t111 1).bind fun bt130 => ((laws_markIntS.f kj14 t114 bt130.1).bind fun bt132 => (if bt132.1 < 0 then (laws_FnExactGateTable.j1 kj14 a0 l1 l2 a3 t107 t108 t117 true) else ((laws_eqIntS.f kj14 t117 t107).bind fun t134 => (if t134 = true then (laws_FnExactGateTable.j1 kj14 a0 l1 l2 a3 t107 t108 t117 (t118 != t108)) else (laws_FnExactGateTable.j1 kj14 a0 l1 l2 a3 t107 t108 t117 true)))))) else (some false)))) else (some false))) = some r := H
        have A33 := am A330
        clear A330
        replace H := Option.bind_eq_some_iff.mp H
        obtain ⟨t125, A340, H⟩ := H
        replace H : (if t125 = true then ((laws_toIntS.f kj14 l2).bind fun t126 => ((laws_eqIntS.f kj14 t114 t126).bind fun t129 => (if t129 = true then ((laws_markIntS.f kj14 t111 1).bind fun bt130 => ((laws_markIntS.f kj14 t114 bt130.1).bind fun bt132 => (if bt132.1 < 0 then (laws_FnExactGateTable.j1 kj14 a0 l1 l2 a3 t107 t108 t117 true) else ((laws_eqIntS.f kj14 t117 t107).bind fun t134 => (if t134 = true then (laws_FnExactGateTable.j1 kj14 a0 l1 l2 a3 t107 t108 t117 (t118 != t108)) else (laws_FnExactGateTable.j1 kj14 a0 l1 l2 a3 t107 t108 t117 true)))))) else (some false)))) else (some false)) = some r := H
        have A34 := am A340
        clear A340
        by_cases c35 : t125 = true
        ·subst c35
         have H1 : ((laws_toIntS.f kj14 l2).bind fun t126 => ((laws_eqIntS.f kj14 t114 t126).bind fun t129 => (if t129 = true then ((laws_markIntS.f kj14 t111 1).bind fun bt130 => ((laws_markIntS.f kj14 t114 bt130.1).bind fun bt132 => (if bt132.1 < 0 then (laws_FnExactGateTable.j1 kj14 a0 l1 l2 a3 t107 t108 t117 true) else ((laws_eqIntS.f kj14 t117 t107).bind fun t134 => (if t134 = true then (laws_FnExactGateTable.j1 kj14 a0 l1 l2 a3 t107 t108 t117 (t118 != t108)) else (laws_FnExactGateTable.j1 kj14 a0 l1 l2 a3 t107 t108 t117 true)))))) else (some false)))) = some r := by rw [if_pos rfl] at H; exact H
         clear H
         have H := H1
         clear H1
         replace H := Option.bind_eq_some_iff.mp H
         obtain ⟨t126, A360, H⟩ := H
         replace H : ((laws_eqIntS.f kj14 t114 t126).bind fun t129 => (if t129 = true then ((laws_markIntS.f kj14 t111 1).bind fun bt130 => ((laws_markIntS.f kj14 t114 bt130.1).bind fun bt132 => (if bt132.1 < 0 then (laws_FnExactGateTable.j1 kj14 a0 l1 l2 a3 t107 t108 t117 true) else ((laws_eqIntS.f kj14 t117 t107).bind fun t134 => (if t134 = true then (laws_FnExactGateTable.j1 kj14 a0 l1 l2 a3 t107 t108 t117 (t118 != t108)) else (laws_FnExactGateTable.j1 kj14 a0 l1 l2 a3 t107 t108 t117 true)))))) else (some false))) = some r := H
         have A36 := am A360
         clear A360
         replace H := Option.bind_eq_some_iff.mp H
         obtain ⟨t129, A370, H⟩ := H
         replace H : (if t129 = true then ((laws_markIntS.f kj14 t111 1).bind fun bt130 => ((laws_markIntS.f kj14 t114 bt130.1).bind fun bt132 => (if bt132.1 < 0 then (laws_FnExactGateTable.j1 kj14 a0 l1 l2 a3 t107 t108 t117 true) else ((laws_eqIntS.f kj14 t117 t107).bind fun t134 => (if t134 = true then (laws_FnExactGateTable.j1 kj14 a0 l1 l2 a3 t107 t108 t117 (t118 != t108)) else (laws_FnExactGateTable.j1 kj14 a0 l1 l2 a3 t107 t108 t117 true)))))) else (some false)) = some r := H
         have A37 := am A370
         clear A370
         by_cases c38 : t129 = true
         ·subst c38
          have H1 : ((laws_markIntS.f kj14 t111 1).bind fun bt130 => ((laws_markIntS.f kj14 t114 bt130.1).bind fun bt132 => (if bt132.1 < 0 then (laws_FnExactGateTable.j1 kj14 a0 l1 l2 a3 t107 t108 t117 true) else ((laws_eqIntS.f kj14 t117 t107).bind fun t134 => (if t134 = true then (laws_FnExactGateTable.j1 kj14 a0 l1 l2 a3 t107 t108 t117 (t118 != t108)) else (laws_FnExactGateTable.j1 kj14 a0 l1 l2 a3 t107 t108 t117 true)))))) = some r := by rw [if_pos rfl] at H; exact H
          clear H
          have H := H1
          clear H1
          replace H := Option.bind_eq_some_iff.mp H
          obtain ⟨⟨t130, t131⟩, A390, H⟩ := H
          replace H : ((laws_markIntS.f kj14 t114 t130).bind fun bt132 => (if bt132.1 < 0 then (laws_FnExactGateTable.j1 kj14 a0 l1 l2 a3 t107 t108 t117 true) else ((laws_eqIntS.f kj14 t117 t107).bind fun t134 => (if t134 = true then (laws_FnExactGateTable.j1 kj14 a0 l1 l2 a3 t107 t108 t117 (t118 != t108)) else (laws_FnExactGateTable.j1 kj14 a0 l1 l2 a3 t107 t108 t117 true))))) = some r := H
          have A39 := am A390
          clear A390
          replace H := Option.bind_eq_some_iff.mp H
          obtain ⟨⟨t132, t133⟩, A400, H⟩ := H
          replace H : (if t132 < 0 then (laws_FnExactGateTable.j1 kj14 a0 l1 l2 a3 t107 t108 t117 true) else ((laws_eqIntS.f kj14 t117 t107).bind fun t134 => (if t134 = true then (laws_FnExactGateTable.j1 kj14 a0 l1 l2 a3 t107 t108 t117 (t118 != t108)) else (laws_FnExactGateTable.j1 kj14 a0 l1 l2 a3 t107 t108 t117 true)))) = some r := H
          have A40 := am A400
          clear A400
          have HC41 := am H
          clear H
          go_upto_region 22 with (first | ((with_reducible refine gate_callee (f := 21) rfl ?_); refine goesL_ (some 65) rfl rfl Tryz.func21 (by kernel_rfl) rfl #[.slice A1 l1.length c1] rfl aq3 ?_; (with_reducible refine (laws_toIntS.calls kj14 _ _ l1 t122 _ ?side1 ?side2 A33.out).mono ?_); (case side1 => exact aq22); (case side2 => exact HC1.out); rintro e w42 ⟨v123, rfl, ho0, hb⟩; refine ⟨_, rfl, ?_⟩; have n0_ := am (Kd.R_elder' aq8 (Kd.R_base ho0) hb); have n1_ := am (Kd.R_elder' aq29 (Kd.R_base ho0) hb); have n2_ := am (Kd.R_elder' aq28 (Kd.R_base ho0) hb); have n3_ := am (Kd.R_elder' aq19 (Kd.R_base ho0) hb); have n4_ := am (Kd.R_lower (Kd.R_new' (Kd.R_new' (Kd.R_new' (Kd.R_new' ho0 (Kd.R_lt aq8)) (Kd.R_lt aq29)) (Kd.R_lt aq28)) (Kd.R_lt aq19)) (below_size aq1)); have n5_ := am (below_step aq1 hb); clear HO_9; clear HO_11; clear HO_12; clear HO_13; clear HB; have HO_9 := n0_; have HO_11 := n1_; have HO_12 := n2_; have HO_13 := n3_; have HO124 := n4_; have HB := n5_; clear n0_ n1_ n2_ n3_ n4_ n5_; (try clear hb); (try clear hb2); (try clear hk); (try clear hi); (try clear ho0); obtain ⟨Ao43, co43, eo43⟩ := Kd.R_slice HO124.out; subst eo43) | ((with_reducible refine gate_callee (f := 23) rfl ?_); refine goesL_ (some 66) rfl rfl Tryz.func23 (by kernel_rfl) rfl #[.slice Ao23 t111.length co23, .slice Ao43 t122.length co43] rfl aq3 ?_; (with_reducible refine (laws_eqIntS.calls kj14 _ _ t111 _ _ t122 true _ ?side1 ?side2 ?side3 ?side4 A34.out).mono ?_); (case side1 => exact aq68); (case side2 => exact (Kd.R_reads' HO_11.out).2.1); (case side3 => exact aq69); (case side4 => exact (Kd.R_reads' HO124.out).2.1); rintro e w' ⟨rfl, ⟨nd, rfl⟩⟩; refine ⟨_, rfl, ?_⟩) | ((with_reducible refine gate_callee (f := 21) rfl ?_); refine goesL_ (some 70) rfl rfl Tryz.func21 (by kernel_rfl) rfl #[.slice A2 l2.length c2] rfl aq3 ?_; (with_reducible refine (laws_toIntS.calls kj14 _ _ l2 t126 _ ?side1 ?side2 A36.out).mono ?_); (case side1 => exact aq107); (case side2 => exact HC2.out); rintro e w44 ⟨v127, rfl, ho0, hb⟩; refine ⟨_, rfl, ?_⟩; have n0_ := am (Kd.R_elder' aq8 (Kd.R_base ho0) hb); have n1_ := am (Kd.R_elder' aq29 (Kd.R_base ho0) hb); have n2_ := am (Kd.R_elder' aq28 (Kd.R_base ho0) hb); have n3_ := am (Kd.R_elder' aq19 (Kd.R_base ho0) hb); have n4_ := am (Kd.R_elder' aq71 (Kd.R_base ho0) hb); have n5_ := am (Kd.R_lower (Kd.R_new' (Kd.R_new' (Kd.R_new' (Kd.R_new' (Kd.R_new' ho0 (Kd.R_lt aq8)) (Kd.R_lt aq29)) (Kd.R_lt aq28)) (Kd.R_lt aq19)) (Kd.R_lt aq71)) (below_size aq1)); have n6_ := am (below_step aq1 hb); clear HO_9; clear HO_11; clear HO_12; clear HO_13; clear HO124; clear HB; have HO_9 := n0_; have HO_11 := n1_; have HO_12 := n2_; have HO_13 := n3_; have HO124 := n4_; have HO128 := n5_; have HB := n6_; clear n0_ n1_ n2_ n3_ n4_ n5_ n6_; (try clear hb); (try clear hb2); (try clear hk); (try clear hi); (try clear ho0); obtain ⟨Ao45, co45, eo45⟩ := Kd.R_slice HO128.out; subst eo45) | ((with_reducible refine gate_callee (f := 23) rfl ?_); refine goesL_ (some 71) rfl rfl Tryz.func23 (by kernel_rfl) rfl #[.slice Ao24 t114.length co24, .slice Ao45 t126.length co45] rfl aq3 ?_; (with_reducible refine (laws_eqIntS.calls kj14 _ _ t114 _ _ t126 true _ ?side1 ?side2 ?side3 ?side4 A37.out).mono ?_); (case side1 => exact aq100); (case side2 => exact (Kd.R_reads' HO_12.out).2.1); (case side3 => exact aq102); (case side4 => exact (Kd.R_reads' HO128.out).2.1); rintro e w' ⟨rfl, ⟨nd, rfl⟩⟩; refine ⟨_, rfl, ?_⟩) | ((with_reducible refine gate_callee (f := 24) rfl ?_); refine goesL_ (some 75) rfl rfl Tryz.func24 (by kernel_rfl) rfl #[.slice Ao23 t111.length co23, .int .i64 1] rfl aq3 ?_; (with_reducible refine (laws_markIntS.calls kj14 (fun k_ => some k_ = (.slice Ao23 t111.length co23 : Value).ownBlock) (.slice Ao23 t111.length co23) t111 1 t130 t131 w _ ?side1 ?side2 A39.out).mono ?_); (case side1 => exact aq1); (case side2 => exact Kd.R_tight rfl HO_11.out); rintro e w46 ⟨rfl, hy0, hb, hkp⟩; refine ⟨_, rfl, ?_⟩; have n0_ := am (Kd.R_mono (ok' := fun k_ => some k_ ≠ (.slice Ao23 t111.length co23 : Value).ownBlock ∧ some k_ ≠ (.slice Ao24 t114.length co24 : Value).ownBlock ∧ some k_ ≠ (v119 : Value).ownBlock ∧ some k_ ≠ (.slice Ao43 t122.length co43 : Value).ownBlock ∧ some k_ ≠ (.slice Ao45 t126.length co45 : Value).ownBlock) (Kd.R_keptB (HO_9.out) hkp (fun k_ hk_ hs_ => (hk_.1.1.1) hs_)) (fun k_ hk_ => ⟨hk_.1.1.1.1, hk_.1.1.1.2.1, hk_.1.1.1.2.2, hk_.1.1.2, hk_.1.2⟩)); have n1_ := am (Kd.R_reok rfl hy0 (fun k_ e_ => HO_11.out.1 k_ e_)); have n2_ := am (Kd.R_mono (ok' := fun k_ => some k_ ≠ (v109 : Value).ownBlock ∧ some k_ ≠ (.slice Ao23 t111.length co23 : Value).ownBlock ∧ some k_ ≠ (v119 : Value).ownBlock ∧ some k_ ≠ (.slice Ao43 t122.length co43 : Value).ownBlock ∧ some k_ ≠ (.slice Ao45 t126.length co45 : Value).ownBlock) (Kd.R_keptB (HO_12.out) hkp (fun k_ hk_ hs_ => (hk_.1.1.2.1) hs_)) (fun k_ hk_ => ⟨hk_.1.1.1.1, hk_.1.1.1.2.1, hk_.1.1.1.2.2, hk_.1.1.2, hk_.1.2⟩)); have n3_ := am (Kd.R_mono (ok' := fun k_ => some k_ ≠ (v109 : Value).ownBlock ∧ some k_ ≠ (.slice Ao23 t111.length co23 : Value).ownBlock ∧ some k_ ≠ (.slice Ao24 t114.length co24 : Value).ownBlock ∧ some k_ ≠ (.slice Ao43 t122.length co43 : Value).ownBlock ∧ some k_ ≠ (.slice Ao45 t126.length co45 : Value).ownBlock) (Kd.R_keptB (HO_13.out) hkp (fun k_ hk_ hs_ => (hk_.1.1.2.1) hs_)) (fun k_ hk_ => ⟨hk_.1.1.1.1, hk_.1.1.1.2.1, hk_.1.1.1.2.2, hk_.1.1.2, hk_.1.2⟩)); have n4_ := am (Kd.R_mono (ok' := fun k_ => some k_ ≠ (v109 : Value).ownBlock ∧ some k_ ≠ (.slice Ao23 t111.length co23 : Value).ownBlock ∧ some k_ ≠ (.slice Ao24 t114.length co24 : Value).ownBlock ∧ some k_ ≠ (v119 : Value).ownBlock ∧ some k_ ≠ (.slice Ao45 t126.length co45 : Value).ownBlock) (Kd.R_keptB (HO124.out) hkp (fun k_ hk_ hs_ => (hk_.1.1.1.2) hs_)) (fun k_ hk_ => ⟨hk_.1.1.1.1.1.2, hk_.1.1.1.1.2, hk_.1.1.1.2, hk_.1.1.2, hk_.1.2⟩)); have n5_ := am (Kd.R_mono (ok' := fun k_ => some k_ ≠ (v109 : Value).ownBlock ∧ some k_ ≠ (.slice Ao23 t111.length co23 : Value).ownBlock ∧ some k_ ≠ (.slice Ao24 t114.length co24 : Value).ownBlock ∧ some k_ ≠ (v119 : Value).ownBlock ∧ some k_ ≠ (.slice Ao43 t122.length co43 : Value).ownBlock) (Kd.R_keptB (HO128.out) hkp (fun k_ hk_ hs_ => (hk_.1.1.1.2) hs_)) (fun k_ hk_ => ⟨hk_.1.1.1.1.1.2, hk_.1.1.1.1.2, hk_.1.1.1.2, hk_.1.1.2, hk_.1.2⟩)); have n6_ := am (hb); clear HO_9; clear HO_11; clear HO_12; clear HO_13; clear HO124; clear HO128; clear HB; have HO_9 := n0_; have HO_11 := n1_; have HO_12 := n2_; have HO_13 := n3_; have HO124 := n4_; have HO128 := n5_; have HB := n6_; clear n0_ n1_ n2_ n3_ n4_ n5_ n6_; (try clear hb); (try clear hkp); (try clear hy0)) | ((with_reducible refine gate_callee (f := 24) rfl ?_); refine goesL_ (some 78) rfl rfl Tryz.func24 (by kernel_rfl) rfl #[.slice Ao24 t114.length co24, .int .i64 t130] rfl aq3 ?_; (with_reducible refine (laws_markIntS.calls kj14 (fun k_ => some k_ = (.slice Ao24 t114.length co24 : Value).ownBlock) (.slice Ao24 t114.length co24) t114 t130 t132 t133 w _ ?side1 ?side2 A40.out).mono ?_); (case side1 => exact aq1); (case side2 => exact Kd.R_tight rfl HO_12.out); rintro e w47 ⟨rfl, hy0, hb, hkp⟩; refine ⟨_, rfl, ?_⟩; have n0_ := am (Kd.R_mono (ok' := fun k_ => some k_ ≠ (.slice Ao23 t111.length co23 : Value).ownBlock ∧ some k_ ≠ (.slice Ao24 t114.length co24 : Value).ownBlock ∧ some k_ ≠ (v119 : Value).ownBlock ∧ some k_ ≠ (.slice Ao43 t122.length co43 : Value).ownBlock ∧ some k_ ≠ (.slice Ao45 t126.length co45 : Value).ownBlock) (Kd.R_keptB (HO_9.out) hkp (fun k_ hk_ hs_ => (hk_.2.1) hs_)) (fun k_ hk_ => ⟨hk_.1.1, hk_.1.2.1, hk_.1.2.2.1, hk_.1.2.2.2.1, hk_.1.2.2.2.2⟩)); have n1_ := am (Kd.R_mono (ok' := fun k_ => some k_ ≠ (v109 : Value).ownBlock ∧ some k_ ≠ (.slice Ao24 t114.length co24 : Value).ownBlock ∧ some k_ ≠ (v119 : Value).ownBlock ∧ some k_ ≠ (.slice Ao43 t122.length co43 : Value).ownBlock ∧ some k_ ≠ (.slice Ao45 t126.length co45 : Value).ownBlock) (Kd.R_keptB (HO_11.out) hkp (fun k_ hk_ hs_ => (hk_.1.1.2.1) hs_)) (fun k_ hk_ => ⟨hk_.1.1.1.1, hk_.1.1.1.2.1, hk_.1.1.1.2.2, hk_.1.1.2, hk_.1.2⟩)); have n2_ := am (Kd.R_reok rfl hy0 (fun k_ e_ => HO_12.out.1 k_ e_)); have n3_ := am (Kd.R_mono (ok' := fun k_ => some k_ ≠ (v109 : Value).ownBlock ∧ some k_ ≠ (.slice Ao23 t111.length co23 : Value).ownBlock ∧ some k_ ≠ (.slice Ao24 t114.length co24 : Value).ownBlock ∧ some k_ ≠ (.slice Ao43 t122.length co43 : Value).ownBlock ∧ some k_ ≠ (.slice Ao45 t126.length co45 : Value).ownBlock) (Kd.R_keptB (HO_13.out) hkp (fun k_ hk_ hs_ => (hk_.2.2.1) hs_)) (fun k_ hk_ => ⟨hk_.1.1, hk_.1.2.1, hk_.1.2.2.1, hk_.1.2.2.2.1, hk_.1.2.2.2.2⟩)); have n4_ := am (Kd.R_mono (ok' := fun k_ => some k_ ≠ (v109 : Value).ownBlock ∧ some k_ ≠ (.slice Ao23 t111.length co23 : Value).ownBlock ∧ some k_ ≠ (.slice Ao24 t114.length co24 : Value).ownBlock ∧ some k_ ≠ (v119 : Value).ownBlock ∧ some k_ ≠ (.slice Ao45 t126.length co45 : Value).ownBlock) (Kd.R_keptB (HO124.out) hkp (fun k_ hk_ hs_ => (hk_.2.2.1) hs_)) (fun k_ hk_ => ⟨hk_.1.1, hk_.1.2.1, hk_.1.2.2.1, hk_.1.2.2.2.1, hk_.1.2.2.2.2⟩)); have n5_ := am (Kd.R_mono (ok' := fun k_ => some k_ ≠ (v109 : Value).ownBlock ∧ some k_ ≠ (.slice Ao23 t111.length co23 : Value).ownBlock ∧ some k_ ≠ (.slice Ao24 t114.length co24 : Value).ownBlock ∧ some k_ ≠ (v119 : Value).ownBlock ∧ some k_ ≠ (.slice Ao43 t122.length co43 : Value).ownBlock) (Kd.R_keptB (HO128.out) hkp (fun k_ hk_ hs_ => (hk_.2.2.1) hs_)) (fun k_ hk_ => ⟨hk_.1.1, hk_.1.2.1, hk_.1.2.2.1, hk_.1.2.2.2.1, hk_.1.2.2.2.2⟩)); have n6_ := am (hb); clear HO_9; clear HO_11; clear HO_12; clear HO_13; clear HO124; clear HO128; clear HB; have HO_9 := n0_; have HO_11 := n1_; have HO_12 := n2_; have HO_13 := n3_; have HO124 := n4_; have HO128 := n5_; have HB := n6_; clear n0_ n1_ n2_ n3_ n4_ n5_ n6_; (try clear hb); (try clear hkp); (try clear hy0)))
          (try simp only [Act.put, List.setIfInBounds_toArray, List.set_cons_zero, List.set_cons_succ])
          go_cut [91] (fun v91 wc => ∃ (kq : Nat) (x91_40 : Bool), v91 = .bool x91_40 ∧ Aside0 (laws_FnExactGateTable.j1 kq a0 l1 l2 a3 t107 t108 t117 x91_40 = some r) ∧ Aside0 (kq ≤ kj14) ∧ Aside0 (Kd.R (Kd.int .i64) 3 wc w.heap.size (fun k_ => some k_ ≠ (v119 : Value).ownBlock) v109 t107) ∧ Aside0 (Kd.R (Kd.int .i64) 3 wc w.heap.size (fun k_ => some k_ ≠ (v109 : Value).ownBlock) v119 t117) ∧ Aside0 (Below w.heap.size w wc))
          case first =>
           have H := HC41.out
           clear HC41
           by_cases c48 : t132 < 0
           ·rw [if_pos c48] at H
            have c48b0 : decide (t132 < 0) = true := decide_eq_true c48
            clear c48
            (first | rw [c48b0] | (simp only [i64_w, i32_w]; rw [c48b0]) | skip)
            have H' := am H
            clear H
            go_wp2
            go_meet
            case rel => exact ⟨_, (true), aq6, H', ⟨by have := HJ14.out; first | omega | exact Nat.le_refl _⟩, ⟨aq82⟩, ⟨aq83⟩, ⟨aq1⟩⟩
           ·rw [if_neg c48] at H
            have c48b0 : decide (t132 < 0) = false := decide_eq_false c48
            clear c48
            (first | rw [c48b0] | (simp only [i64_w, i32_w]; rw [c48b0]) | skip)
            replace H := Option.bind_eq_some_iff.mp H
            obtain ⟨t134, A490, H⟩ := H
            replace H : (if t134 = true then (laws_FnExactGateTable.j1 kj14 a0 l1 l2 a3 t107 t108 t117 (t118 != t108)) else (laws_FnExactGateTable.j1 kj14 a0 l1 l2 a3 t107 t108 t117 true)) = some r := H
            have A49 := am A490
            clear A490
            by_cases c50 : t134 = true
            ·subst c50
             have H1 : (laws_FnExactGateTable.j1 kj14 a0 l1 l2 a3 t107 t108 t117 (t118 != t108)) = some r := by rw [if_pos rfl] at H; exact H
             clear H
             have H := H1
             clear H1
             have H' := am H
             clear H
             obtain ⟨Ao51, co51, eo51⟩ := Kd.R_slice HO_13.out
             subst eo51
             obtain ⟨Ao52, co52, eo52⟩ := Kd.R_slice HO_9.out
             subst eo52
             go_wp2_with (first | (go_at_call 23; (with_reducible refine (laws_eqIntS.calls kj14 _ _ t117 _ _ t107 true _ ?side1 ?side2 ?side3 ?side4 A49.out).mono ?_); (case side1 => exact aq26); (case side2 => exact (Kd.R_reads' HO_13.out).2.1); (case side3 => exact aq55); (case side4 => exact (Kd.R_reads' HO_9.out).2.1); rintro e w' ⟨rfl, ⟨nd, rfl⟩⟩))
             go_meet
             case rel => exact ⟨_, ((t118 != t108)), aq6, H', ⟨by have := HJ14.out; first | omega | exact Nat.le_refl _⟩, ⟨aq82⟩, ⟨aq83⟩, ⟨aq1⟩⟩
            ·replace c50 := Bool.eq_false_iff.mpr c50
             subst c50
             have H1 : (laws_FnExactGateTable.j1 kj14 a0 l1 l2 a3 t107 t108 t117 true) = some r := by rw [if_neg (show ¬ (false = true) by decide)] at H; exact H
             clear H
             have H := H1
             clear H1
             have H' := am H
             clear H
             obtain ⟨Ao53, co53, eo53⟩ := Kd.R_slice HO_13.out
             subst eo53
             obtain ⟨Ao54, co54, eo54⟩ := Kd.R_slice HO_9.out
             subst eo54
             go_wp2_with (first | (go_at_call 23; (with_reducible refine (laws_eqIntS.calls kj14 _ _ t117 _ _ t107 false _ ?side1 ?side2 ?side3 ?side4 A49.out).mono ?_); (case side1 => exact aq26); (case side2 => exact (Kd.R_reads' HO_13.out).2.1); (case side3 => exact aq55); (case side4 => exact (Kd.R_reads' HO_9.out).2.1); rintro e w' ⟨rfl, ⟨nd, rfl⟩⟩))
             go_meet
             case rel => exact ⟨_, (true), aq6, H', ⟨by have := HJ14.out; first | omega | exact Nat.le_refl _⟩, ⟨aq82⟩, ⟨aq83⟩, ⟨aq1⟩⟩
          case rest =>
           clear HC41
           try clear c1
           try clear c2
           try clear p2
           try clear c3
           try clear c4
           try clear c5
           try clear c5b0
           try clear c5b1
           try clear c6
           try clear c6b0
           try clear c6b1
           try clear c7
           try clear c7b0
           try clear c7b1
           try clear c8
           try clear c8b0
           try clear c8b1
           try clear c20
           try clear c21
           try clear c22
           try clear c23
           try clear c24
           try clear c27
           try clear c32
           try clear c35
           try clear c38
           try clear c48
           try clear c48b0
           try clear c50
           try clear p2
           obtain ⟨kq, x91_40, rfl, HA, HJ40, HO_9, HO_13, HB⟩ := hcut
           cases kq with
           | zero => exact absurd HA.out (by simp [laws_FnExactGateTable.j1])
           | succ kj40 =>
            have H := HA.out
            clear HA
            simp only [laws_FnExactGateTable.j1] at H
            by_cases c55 : x91_40 = true
            ·subst c55
             have H1 : (some false) = some r := by rw [if_pos rfl] at H; exact H
             clear H
             have H := H1
             clear H1
             obtain rfl := Option.some.inj H
             go_wp2
             go_ret
             exact ⟨aq7, aq1⟩
            ·replace c55 := Bool.eq_false_iff.mpr c55
             subst c55
             have H1 : ((laws_markIntS.f kj40 t117 1).bind fun bt135 => ((laws_heldIntS.f kj40 bt135.2 1).bind fun t137 => (if t137 < 0 then (some false) else (if t137 = bt135.1 then ((laws_toIntS.f kj40 l1).bind fun t138 => ((laws_toIntS.f kj40 l2).bind fun t141 => ((impl_GateTable.f kj40 a0 t138 t141 a3).bind fun bt144 => ((laws_eqIntS.f kj40 bt144.1 t107).bind fun t148 => (if t148 = true then (laws_FnExactGateTable.j2 kj40 bt135.2 bt135.1 (bt144.2 != t108)) else (laws_FnExactGateTable.j2 kj40 bt135.2 bt135.1 true)))))) else (some false))))) = some r := by rw [if_neg (show ¬ (false = true) by decide)] at H; exact H
             clear H
             have H := H1
             clear H1
             replace H := Option.bind_eq_some_iff.mp H
             obtain ⟨⟨t135, t136⟩, A560, H⟩ := H
             replace H : ((laws_heldIntS.f kj40 t136 1).bind fun t137 => (if t137 < 0 then (some false) else (if t137 = t135 then ((laws_toIntS.f kj40 l1).bind fun t138 => ((laws_toIntS.f kj40 l2).bind fun t141 => ((impl_GateTable.f kj40 a0 t138 t141 a3).bind fun bt144 => ((laws_eqIntS.f kj40 bt144.1 t107).bind fun t148 => (if t148 = true then (laws_FnExactGateTable.j2 kj40 t136 t135 (bt144.2 != t108)) else (laws_FnExactGateTable.j2 kj40 t136 t135 true)))))) else (some false)))) = some r := H
             have A56 := am A560
             clear A560
             replace H := Option.bind_eq_some_iff.mp H
             obtain ⟨t137, A570, H⟩ := H
             replace H : (if t137 < 0 then (some false) else (if t137 = t135 then ((laws_toIntS.f kj40 l1).bind fun t138 => ((laws_toIntS.f kj40 l2).bind fun t141 => ((impl_GateTable.f kj40 a0 t138 t141 a3).bind fun bt144 => ((laws_eqIntS.f kj40 bt144.1 t107).bind fun t148 => (if t148 = true then (laws_FnExactGateTable.j2 kj40 t136 t135 (bt144.2 != t108)) else (laws_FnExactGateTable.j2 kj40 t136 t135 true)))))) else (some false))) = some r := H
             have A57 := am A570
             clear A570
             by_cases c58 : t137 < 0
             ·rw [if_pos c58] at H
              have c58b0 : decide (t137 < 0) = true := decide_eq_true c58
              clear c58
              obtain rfl := Option.some.inj H
              obtain ⟨Ao59, co59, eo59⟩ := Kd.R_slice HO_13.out
              subst eo59
              go_wp2_with (first | ((with_reducible refine gate_callee (f := 24) rfl ?_); refine goesL_ (some 94) rfl rfl Tryz.func24 (by kernel_rfl) rfl #[.slice Ao59 t117.length co59, .int .i64 1] rfl aq3 ?_; (with_reducible refine (laws_markIntS.calls kj40 (fun k_ => some k_ = (.slice Ao59 t117.length co59 : Value).ownBlock) (.slice Ao59 t117.length co59) t117 1 t135 t136 w _ ?side1 ?side2 A56.out).mono ?_); (case side1 => exact aq1); (case side2 => exact Kd.R_tight rfl HO_13.out); rintro e w60 ⟨rfl, hy0, hb, hkp⟩; refine ⟨_, rfl, ?_⟩; have n0_ := am (Kd.R_mono (ok' := fun k_ => some k_ ≠ (.slice Ao59 t117.length co59 : Value).ownBlock) (Kd.R_keptB (HO_9.out) hkp (fun k_ hk_ hs_ => (hk_) hs_)) (fun k_ hk_ => hk_.1)); have n1_ := am (Kd.R_reok rfl hy0 (fun k_ e_ => HO_13.out.1 k_ e_)); have n2_ := am (hb); clear HO_9; clear HO_13; clear HB; have HO_9 := n0_; have HO_13 := n1_; have HB := n2_; clear n0_ n1_ n2_; (try clear hb); (try clear hkp); (try clear hy0)) | ((with_reducible refine gate_callee (f := 25) rfl ?_); refine goesL_ (some 97) rfl rfl Tryz.func25 (by kernel_rfl) rfl #[.slice Ao59 t136.length co59, .int .i64 1] rfl aq56 ?_; (with_reducible refine (laws_heldIntS.calls kj40 _ _ t136 1 t137 _ ?side1 ?side2 A57.out).mono ?_); (case side1 => exact aq26); (case side2 => exact aq94); rintro e w' ⟨rfl, ⟨nd, rfl⟩⟩; refine ⟨_, rfl, ?_⟩))
              go_ret
              exact ⟨aq7, aq1⟩
             ·rw [if_neg c58] at H
              have c58b0 : decide (t137 < 0) = false := decide_eq_false c58
              clear c58
              by_cases c61 : t137 = t135
              ·rw [if_pos c61] at H
               have c61b0 : (t137 == t135) = true := beq_iff_eq.mpr c61
               have c61b1 : (t137 != t135) = false := bne_eq_false_iff_eq.mpr c61
               clear c61
               replace H := Option.bind_eq_some_iff.mp H
               obtain ⟨t138, A620, H⟩ := H
               replace H : ((laws_toIntS.f kj40 l2).bind fun t141 => ((impl_GateTable.f kj40 a0 t138 t141 a3).bind fun bt144 => ((laws_eqIntS.f kj40 bt144.1 t107).bind fun t148 => (if t148 = true then (laws_FnExactGateTable.j2 kj40 t136 t135 (bt144.2 != t108)) else (laws_FnExactGateTable.j2 kj40 t136 t135 true))))) = some r := H
               have A62 := am A620
               clear A620
               replace H := Option.bind_eq_some_iff.mp H
               obtain ⟨t141, A630, H⟩ := H
               replace H : ((impl_GateTable.f kj40 a0 t138 t141 a3).bind fun bt144 => ((laws_eqIntS.f kj40 bt144.1 t107).bind fun t148 => (if t148 = true then (laws_FnExactGateTable.j2 kj40 t136 t135 (bt144.2 != t108)) else (laws_FnExactGateTable.j2 kj40 t136 t135 true)))) = some r := H
               have A63 := am A630
               clear A630
               replace H := Option.bind_eq_some_iff.mp H
               obtain ⟨⟨t144, t145⟩, A640, H⟩ := H
               replace H : ((laws_eqIntS.f kj40 t144 t107).bind fun t148 => (if t148 = true then (laws_FnExactGateTable.j2 kj40 t136 t135 (t145 != t108)) else (laws_FnExactGateTable.j2 kj40 t136 t135 true))) = some r := H
               have A64 := am A640
               clear A640
               have HC65 := am H
               clear H
               obtain ⟨Ao66, co66, eo66⟩ := Kd.R_slice HO_13.out
               subst eo66
               go_upto_region 33 with (first | ((with_reducible refine gate_callee (f := 24) rfl ?_); refine goesL_ (some 94) rfl rfl Tryz.func24 (by kernel_rfl) rfl #[.slice Ao66 t117.length co66, .int .i64 1] rfl aq3 ?_; (with_reducible refine (laws_markIntS.calls kj40 (fun k_ => some k_ = (.slice Ao66 t117.length co66 : Value).ownBlock) (.slice Ao66 t117.length co66) t117 1 t135 t136 w _ ?side1 ?side2 A56.out).mono ?_); (case side1 => exact aq1); (case side2 => exact Kd.R_tight rfl HO_13.out); rintro e w67 ⟨rfl, hy0, hb, hkp⟩; refine ⟨_, rfl, ?_⟩; have n0_ := am (Kd.R_mono (ok' := fun k_ => some k_ ≠ (.slice Ao66 t117.length co66 : Value).ownBlock) (Kd.R_keptB (HO_9.out) hkp (fun k_ hk_ hs_ => (hk_) hs_)) (fun k_ hk_ => hk_.1)); have n1_ := am (Kd.R_reok rfl hy0 (fun k_ e_ => HO_13.out.1 k_ e_)); have n2_ := am (hb); clear HO_9; clear HO_13; clear HB; have HO_9 := n0_; have HO_13 := n1_; have HB := n2_; clear n0_ n1_ n2_; (try clear hb); (try clear hkp); (try clear hy0)) | ((with_reducible refine gate_callee (f := 25) rfl ?_); refine goesL_ (some 97) rfl rfl Tryz.func25 (by kernel_rfl) rfl #[.slice Ao66 t136.length co66, .int .i64 1] rfl aq56 ?_; (with_reducible refine (laws_heldIntS.calls kj40 _ _ t136 1 t137 _ ?side1 ?side2 A57.out).mono ?_); (case side1 => exact aq26); (case side2 => exact aq94); rintro e w' ⟨rfl, ⟨nd, rfl⟩⟩; refine ⟨_, rfl, ?_⟩) | ((with_reducible refine gate_callee (f := 21) rfl ?_); refine goesL_ (some 106) rfl rfl Tryz.func21 (by kernel_rfl) rfl #[.slice A1 l1.length c1] rfl aq3 ?_; (with_reducible refine (laws_toIntS.calls kj40 _ _ l1 t138 _ ?side1 ?side2 A62.out).mono ?_); (case side1 => exact aq76); (case side2 => exact HC1.out); rintro e w68 ⟨v139, rfl, ho0, hb⟩; refine ⟨_, rfl, ?_⟩; have n0_ := am (Kd.R_elder' aq8 (Kd.R_base ho0) hb); have n1_ := am (Kd.R_elder' aq19 (Kd.R_base ho0) hb); have n2_ := am (Kd.R_lower (Kd.R_new' (Kd.R_new' ho0 (Kd.R_lt aq8)) (Kd.R_lt aq19)) (below_size aq1)); have n3_ := am (below_step aq1 hb); clear HO_9; clear HO_13; clear HB; have HO_9 := n0_; have HO_13 := n1_; have HO140 := n2_; have HB := n3_; clear n0_ n1_ n2_ n3_; (try clear hb); (try clear hb2); (try clear hk); (try clear hi); (try clear ho0)) | ((with_reducible refine gate_callee (f := 21) rfl ?_); refine goesL_ (some 108) rfl rfl Tryz.func21 (by kernel_rfl) rfl #[.slice A2 l2.length c2] rfl aq3 ?_; (with_reducible refine (laws_toIntS.calls kj40 _ _ l2 t141 _ ?side1 ?side2 A63.out).mono ?_); (case side1 => exact aq38); (case side2 => exact HC2.out); rintro e w69 ⟨v142, rfl, ho0, hb⟩; refine ⟨_, rfl, ?_⟩; have n0_ := am (Kd.R_elder' aq8 (Kd.R_base ho0) hb); have n1_ := am (Kd.R_elder' aq19 (Kd.R_base ho0) hb); have n2_ := am (Kd.R_elder' aq70 (Kd.R_base ho0) hb); have n3_ := am (Kd.R_lower (Kd.R_new' (Kd.R_new' (Kd.R_new' ho0 (Kd.R_lt aq8)) (Kd.R_lt aq19)) (Kd.R_lt aq70)) (below_size aq1)); have n4_ := am (below_step aq1 hb); clear HO_9; clear HO_13; clear HO140; clear HB; have HO_9 := n0_; have HO_13 := n1_; have HO140 := n2_; have HO143 := n3_; have HB := n4_; clear n0_ n1_ n2_ n3_ n4_; (try clear hb); (try clear hb2); (try clear hk); (try clear hi); (try clear ho0); obtain ⟨Ao70, co70, eo70⟩ := Kd.R_slice HO140.out; subst eo70; obtain ⟨Ao71, co71, eo71⟩ := Kd.R_slice HO143.out; subst eo71) | ((with_reducible refine gate_callee (f := 22) rfl ?_); refine goesL_ (some 110) rfl rfl Tryz.func22 (by kernel_rfl) rfl #[.string a0, .slice Ao70 t138.length co70, .slice Ao71 t141.length co71, .string a3] rfl aq3 ?_; (with_reducible refine (impl_GateTable.calls kj40 a0 _ _ t138 _ _ t141 a3 t144 t145 _ ?side1 ?side2 ?side3 ?side4 A64.out).mono ?_); (case side1 => repeat (first | exact (Kd.R_reads' HO140.out).2.2 | (with_reducible refine Kd.C_alloc ?_ _) | (with_reducible refine Kd.C_drewN ?_ _) | (with_reducible refine Kd.C_drew ?_))); (case side2 => exact (Kd.R_reads' HO140.out).2.1); (case side3 => repeat (first | exact (Kd.R_reads' HO143.out).2.2 | (with_reducible refine Kd.C_alloc ?_ _) | (with_reducible refine Kd.C_drewN ?_ _) | (with_reducible refine Kd.C_drew ?_))); (case side4 => exact (Kd.R_reads' HO143.out).2.1); rintro e w72 ⟨v146, rfl, ho0, hb⟩; refine ⟨_, rfl, ?_⟩; have n0_ := am (Kd.R_elder' aq8 (Kd.R_base ho0) hb); have n1_ := am (Kd.R_elder' aq19 (Kd.R_base ho0) hb); have n2_ := am (Kd.R_elder' aq70 (Kd.R_base ho0) hb); have n3_ := am (Kd.R_elder' (by (with_reducible repeat (first | apply Kd.R_alloc | apply Kd.R_drewN | apply Kd.R_drew)); exact HO143.out) (Kd.R_base ho0) hb); have n4_ := am (Kd.R_lower (Kd.R_new' (Kd.R_new' (Kd.R_new' (Kd.R_new' ho0 (Kd.R_lt aq8)) (Kd.R_lt aq19)) (Kd.R_lt aq70)) (Kd.R_lt (by (with_reducible repeat (first | apply Kd.R_alloc | apply Kd.R_drewN | apply Kd.R_drew)); exact HO143.out))) (below_size aq1)); have n5_ := am (below_step aq1 hb); clear HO_9; clear HO_13; clear HO140; clear HO143; clear HB; have HO_9 := n0_; have HO_13 := n1_; have HO140 := n2_; have HO143 := n3_; have HO147 := n4_; have HB := n5_; clear n0_ n1_ n2_ n3_ n4_ n5_; (try clear hb); (try clear hb2); (try clear hk); (try clear hi); (try clear ho0)))
               (try simp only [Act.put, List.setIfInBounds_toArray, List.set_cons_zero, List.set_cons_succ])
               go_cut [121] (fun v121 wc => ∃ (kq : Nat) (x121_64 : Bool), v121 = .bool x121_64 ∧ Aside0 (laws_FnExactGateTable.j2 kq t136 t135 x121_64 = some r) ∧ Aside0 (kq ≤ kj40) ∧ Aside0 (Kd.R (Kd.int .i64) 3 wc w.heap.size (fun _ => True) (.slice Ao66 t117.length co66) t136) ∧ Aside0 (Below w.heap.size w wc))
               case first =>
                have H := HC65.out
                clear HC65
                replace H := Option.bind_eq_some_iff.mp H
                obtain ⟨t148, A730, H⟩ := H
                replace H : (if t148 = true then (laws_FnExactGateTable.j2 kj40 t136 t135 (t145 != t108)) else (laws_FnExactGateTable.j2 kj40 t136 t135 true)) = some r := H
                have A73 := am A730
                clear A730
                by_cases c74 : t148 = true
                ·subst c74
                 have H1 : (laws_FnExactGateTable.j2 kj40 t136 t135 (t145 != t108)) = some r := by rw [if_pos rfl] at H; exact H
                 clear H
                 have H := H1
                 clear H1
                 have H' := am H
                 clear H
                 obtain ⟨Ao75, co75, eo75⟩ := Kd.R_slice HO147.out
                 subst eo75
                 obtain ⟨Ao76, co76, eo76⟩ := Kd.R_slice HO_9.out
                 subst eo76
                 go_wp2_with (first | ((with_reducible refine gate_callee (f := 23) rfl ?_); refine goesL_ (some 115) rfl rfl Tryz.func23 (by kernel_rfl) rfl #[.slice Ao75 t144.length co75, .slice Ao76 t107.length co76] rfl aq3 ?_; (with_reducible refine (laws_eqIntS.calls kj40 _ _ t144 _ _ t107 true _ ?side1 ?side2 ?side3 ?side4 A73.out).mono ?_); (case side1 => exact aq101); (case side2 => exact (Kd.R_reads' HO147.out).2.1); (case side3 => exact aq55); (case side4 => exact (Kd.R_reads' HO_9.out).2.1); rintro e w' ⟨rfl, ⟨nd, rfl⟩⟩; refine ⟨_, rfl, ?_⟩))
                 go_meet
                 case rel => exact ⟨_, ((t145 != t108)), aq6, H', ⟨by have := HJ14.out; have := HJ40.out; first | omega | exact Nat.le_refl _⟩, ⟨aq119⟩, ⟨aq1⟩⟩
                ·replace c74 := Bool.eq_false_iff.mpr c74
                 subst c74
                 have H1 : (laws_FnExactGateTable.j2 kj40 t136 t135 true) = some r := by rw [if_neg (show ¬ (false = true) by decide)] at H; exact H
                 clear H
                 have H := H1
                 clear H1
                 have H' := am H
                 clear H
                 obtain ⟨Ao77, co77, eo77⟩ := Kd.R_slice HO147.out
                 subst eo77
                 obtain ⟨Ao78, co78, eo78⟩ := Kd.R_slice HO_9.out
                 subst eo78
                 go_wp2_with (first | ((with_reducible refine gate_callee (f := 23) rfl ?_); refine goesL_ (some 115) rfl rfl Tryz.func23 (by kernel_rfl) rfl #[.slice Ao77 t144.length co77, .slice Ao78 t107.length co78] rfl aq3 ?_; (with_reducible refine (laws_eqIntS.calls kj40 _ _ t144 _ _ t107 false _ ?side1 ?side2 ?side3 ?side4 A73.out).mono ?_); (case side1 => exact aq101); (case side2 => exact (Kd.R_reads' HO147.out).2.1); (case side3 => exact aq55); (case side4 => exact (Kd.R_reads' HO_9.out).2.1); rintro e w' ⟨rfl, ⟨nd, rfl⟩⟩; refine ⟨_, rfl, ?_⟩))
                 go_meet
                 case rel => exact ⟨_, (true), aq6, H', ⟨by have := HJ14.out; have := HJ40.out; first | omega | exact Nat.le_refl _⟩, ⟨aq119⟩, ⟨aq1⟩⟩
               case rest =>
                clear HC65
                try clear c1
                try clear c2
                try clear p2
                try clear c3
                try clear c4
                try clear c5
                try clear c5b0
                try clear c5b1
                try clear c6
                try clear c6b0
                try clear c6b1
                try clear c7
                try clear c7b0
                try clear c7b1
                try clear c8
                try clear c8b0
                try clear c8b1
                try clear c20
                try clear c21
                try clear c22
                try clear c23
                try clear c24
                try clear c25
                try clear c27
                try clear c32
                try clear c35
                try clear c38
                try clear c48
                try clear c48b0
                try clear c50
                try clear c55
                try clear c58
                try clear c58b0
                try clear c61
                try clear c61b0
                try clear c61b1
                try clear c74
                try clear p2
                obtain ⟨kq, x121_64, rfl, HA, HJ64, HO_13, HB⟩ := hcut
                have hl13_64 := (Kd.R_reads' HO_13.out).1
                rw [hl13_64] at HO_13
                (try simp only [hl13_64])
                cases kq with
                | zero => exact absurd HA.out (by simp [laws_FnExactGateTable.j2])
                | succ kj64 =>
                 have H := HA.out
                 clear HA
                 simp only [laws_FnExactGateTable.j2] at H
                 by_cases c79 : x121_64 = true
                 ·subst c79
                  have H1 : (some false) = some r := by rw [if_pos rfl] at H; exact H
                  clear H
                  have H := H1
                  clear H1
                  obtain rfl := Option.some.inj H
                  go_wp2
                  go_ret
                  exact ⟨aq7, aq1⟩
                 ·replace c79 := Bool.eq_false_iff.mpr c79
                  subst c79
                  have H1 : ((laws_heldIntS.f kj64 t136 1).bind fun t149 => (if t149 < 0 then (some false) else (if t149 = t135 then (some true) else (some false)))) = some r := by rw [if_neg (show ¬ (false = true) by decide)] at H; exact H
                  clear H
                  have H := H1
                  clear H1
                  replace H := Option.bind_eq_some_iff.mp H
                  obtain ⟨t149, A800, H⟩ := H
                  replace H : (if t149 < 0 then (some false) else (if t149 = t135 then (some true) else (some false))) = some r := H
                  have A80 := am A800
                  clear A800
                  by_cases c81 : t149 < 0
                  ·rw [if_pos c81] at H
                   have c81b0 : decide (t149 < 0) = true := decide_eq_true c81
                   clear c81
                   obtain rfl := Option.some.inj H
                   go_wp2_with (first | ((with_reducible refine gate_callee (f := 25) rfl ?_); refine goesL_ (some 124) rfl rfl Tryz.func25 (by kernel_rfl) rfl #[.slice Ao66 t136.length co66, .int .i64 1] rfl aq3 ?_; (with_reducible refine (laws_heldIntS.calls kj64 _ _ t136 1 t149 _ ?side1 ?side2 A80.out).mono ?_); (case side1 => exact aq26); (case side2 => exact (Kd.R_reads' HO_13.out).2.1); rintro e w' ⟨rfl, ⟨nd, rfl⟩⟩; refine ⟨_, rfl, ?_⟩))
                   go_ret
                   exact ⟨aq7, aq1⟩
                  ·rw [if_neg c81] at H
                   have c81b0 : decide (t149 < 0) = false := decide_eq_false c81
                   clear c81
                   by_cases c82 : t149 = t135
                   ·rw [if_pos c82] at H
                    have c82b0 : (t149 == t135) = true := beq_iff_eq.mpr c82
                    have c82b1 : (t149 != t135) = false := bne_eq_false_iff_eq.mpr c82
                    clear c82
                    obtain rfl := Option.some.inj H
                    go_wp2_with (first | ((with_reducible refine gate_callee (f := 25) rfl ?_); refine goesL_ (some 124) rfl rfl Tryz.func25 (by kernel_rfl) rfl #[.slice Ao66 t136.length co66, .int .i64 1] rfl aq3 ?_; (with_reducible refine (laws_heldIntS.calls kj64 _ _ t136 1 t149 _ ?side1 ?side2 A80.out).mono ?_); (case side1 => exact aq26); (case side2 => exact (Kd.R_reads' HO_13.out).2.1); rintro e w' ⟨rfl, ⟨nd, rfl⟩⟩; refine ⟨_, rfl, ?_⟩))
                    go_ret
                    exact ⟨aq7, aq1⟩
                   ·rw [if_neg c82] at H
                    have c82b0 : (t149 == t135) = false := beq_eq_false_iff_ne.mpr c82
                    have c82b1 : (t149 != t135) = true := bne_iff_ne.mpr c82
                    obtain rfl := Option.some.inj H
                    go_wp2_with (first | ((with_reducible refine gate_callee (f := 25) rfl ?_); refine goesL_ (some 124) rfl rfl Tryz.func25 (by kernel_rfl) rfl #[.slice Ao66 t136.length co66, .int .i64 1] rfl aq3 ?_; (with_reducible refine (laws_heldIntS.calls kj64 _ _ t136 1 t149 _ ?side1 ?side2 A80.out).mono ?_); (case side1 => exact aq26); (case side2 => exact (Kd.R_reads' HO_13.out).2.1); rintro e w' ⟨rfl, ⟨nd, rfl⟩⟩; refine ⟨_, rfl, ?_⟩))
                    go_ret
                    exact ⟨aq7, aq1⟩
              ·rw [if_neg c61] at H
               have c61b0 : (t137 == t135) = false := beq_eq_false_iff_ne.mpr c61
               have c61b1 : (t137 != t135) = true := bne_iff_ne.mpr c61
               obtain rfl := Option.some.inj H
               obtain ⟨Ao83, co83, eo83⟩ := Kd.R_slice HO_13.out
               subst eo83
               go_wp2_with (first | ((with_reducible refine gate_callee (f := 24) rfl ?_); refine goesL_ (some 94) rfl rfl Tryz.func24 (by kernel_rfl) rfl #[.slice Ao83 t117.length co83, .int .i64 1] rfl aq3 ?_; (with_reducible refine (laws_markIntS.calls kj40 (fun k_ => some k_ = (.slice Ao83 t117.length co83 : Value).ownBlock) (.slice Ao83 t117.length co83) t117 1 t135 t136 w _ ?side1 ?side2 A56.out).mono ?_); (case side1 => exact aq1); (case side2 => exact Kd.R_tight rfl HO_13.out); rintro e w84 ⟨rfl, hy0, hb, hkp⟩; refine ⟨_, rfl, ?_⟩; have n0_ := am (Kd.R_mono (ok' := fun k_ => some k_ ≠ (.slice Ao83 t117.length co83 : Value).ownBlock) (Kd.R_keptB (HO_9.out) hkp (fun k_ hk_ hs_ => (hk_) hs_)) (fun k_ hk_ => hk_.1)); have n1_ := am (Kd.R_reok rfl hy0 (fun k_ e_ => HO_13.out.1 k_ e_)); have n2_ := am (hb); clear HO_9; clear HO_13; clear HB; have HO_9 := n0_; have HO_13 := n1_; have HB := n2_; clear n0_ n1_ n2_; (try clear hb); (try clear hkp); (try clear hy0)) | ((with_reducible refine gate_callee (f := 25) rfl ?_); refine goesL_ (some 97) rfl rfl Tryz.func25 (by kernel_rfl) rfl #[.slice Ao83 t136.length co83, .int .i64 1] rfl aq56 ?_; (with_reducible refine (laws_heldIntS.calls kj40 _ _ t136 1 t137 _ ?side1 ?side2 A57.out).mono ?_); (case side1 => exact aq26); (case side2 => exact aq94); rintro e w' ⟨rfl, ⟨nd, rfl⟩⟩; refine ⟨_, rfl, ?_⟩))
               go_ret
               exact ⟨aq7, aq1⟩
         ·replace c38 := Bool.eq_false_iff.mpr c38
          subst c38
          have H1 : (some false) = some r := by rw [if_neg (show ¬ (false = true) by decide)] at H; exact H
          clear H
          have H := H1
          clear H1
          obtain rfl := Option.some.inj H
          go_wp2_with (first | ((with_reducible refine gate_callee (f := 21) rfl ?_); refine goesL_ (some 65) rfl rfl Tryz.func21 (by kernel_rfl) rfl #[.slice A1 l1.length c1] rfl aq3 ?_; (with_reducible refine (laws_toIntS.calls kj14 _ _ l1 t122 _ ?side1 ?side2 A33.out).mono ?_); (case side1 => exact aq22); (case side2 => exact HC1.out); rintro e w85 ⟨v123, rfl, ho0, hb⟩; refine ⟨_, rfl, ?_⟩; have n0_ := am (Kd.R_elder' aq8 (Kd.R_base ho0) hb); have n1_ := am (Kd.R_elder' aq29 (Kd.R_base ho0) hb); have n2_ := am (Kd.R_elder' aq28 (Kd.R_base ho0) hb); have n3_ := am (Kd.R_elder' aq19 (Kd.R_base ho0) hb); have n4_ := am (Kd.R_lower (Kd.R_new' (Kd.R_new' (Kd.R_new' (Kd.R_new' ho0 (Kd.R_lt aq8)) (Kd.R_lt aq29)) (Kd.R_lt aq28)) (Kd.R_lt aq19)) (below_size aq1)); have n5_ := am (below_step aq1 hb); clear HO_9; clear HO_11; clear HO_12; clear HO_13; clear HB; have HO_9 := n0_; have HO_11 := n1_; have HO_12 := n2_; have HO_13 := n3_; have HO124 := n4_; have HB := n5_; clear n0_ n1_ n2_ n3_ n4_ n5_; (try clear hb); (try clear hb2); (try clear hk); (try clear hi); (try clear ho0); obtain ⟨Ao86, co86, eo86⟩ := Kd.R_slice HO124.out; subst eo86) | ((with_reducible refine gate_callee (f := 23) rfl ?_); refine goesL_ (some 66) rfl rfl Tryz.func23 (by kernel_rfl) rfl #[.slice Ao23 t111.length co23, .slice Ao86 t122.length co86] rfl aq3 ?_; (with_reducible refine (laws_eqIntS.calls kj14 _ _ t111 _ _ t122 true _ ?side1 ?side2 ?side3 ?side4 A34.out).mono ?_); (case side1 => exact aq68); (case side2 => exact (Kd.R_reads' HO_11.out).2.1); (case side3 => exact aq69); (case side4 => exact (Kd.R_reads' HO124.out).2.1); rintro e w' ⟨rfl, ⟨nd, rfl⟩⟩; refine ⟨_, rfl, ?_⟩) | ((with_reducible refine gate_callee (f := 21) rfl ?_); refine goesL_ (some 70) rfl rfl Tryz.func21 (by kernel_rfl) rfl #[.slice A2 l2.length c2] rfl aq3 ?_; (with_reducible refine (laws_toIntS.calls kj14 _ _ l2 t126 _ ?side1 ?side2 A36.out).mono ?_); (case side1 => exact aq107); (case side2 => exact HC2.out); rintro e w87 ⟨v127, rfl, ho0, hb⟩; refine ⟨_, rfl, ?_⟩; have n0_ := am (Kd.R_elder' aq8 (Kd.R_base ho0) hb); have n1_ := am (Kd.R_elder' aq29 (Kd.R_base ho0) hb); have n2_ := am (Kd.R_elder' aq28 (Kd.R_base ho0) hb); have n3_ := am (Kd.R_elder' aq19 (Kd.R_base ho0) hb); have n4_ := am (Kd.R_elder' aq71 (Kd.R_base ho0) hb); have n5_ := am (Kd.R_lower (Kd.R_new' (Kd.R_new' (Kd.R_new' (Kd.R_new' (Kd.R_new' ho0 (Kd.R_lt aq8)) (Kd.R_lt aq29)) (Kd.R_lt aq28)) (Kd.R_lt aq19)) (Kd.R_lt aq71)) (below_size aq1)); have n6_ := am (below_step aq1 hb); clear HO_9; clear HO_11; clear HO_12; clear HO_13; clear HO124; clear HB; have HO_9 := n0_; have HO_11 := n1_; have HO_12 := n2_; have HO_13 := n3_; have HO124 := n4_; have HO128 := n5_; have HB := n6_; clear n0_ n1_ n2_ n3_ n4_ n5_ n6_; (try clear hb); (try clear hb2); (try clear hk); (try clear hi); (try clear ho0); obtain ⟨Ao88, co88, eo88⟩ := Kd.R_slice HO128.out; subst eo88) | ((with_reducible refine gate_callee (f := 23) rfl ?_); refine goesL_ (some 71) rfl rfl Tryz.func23 (by kernel_rfl) rfl #[.slice Ao24 t114.length co24, .slice Ao88 t126.length co88] rfl aq3 ?_; (with_reducible refine (laws_eqIntS.calls kj14 _ _ t114 _ _ t126 false _ ?side1 ?side2 ?side3 ?side4 A37.out).mono ?_); (case side1 => exact aq100); (case side2 => exact (Kd.R_reads' HO_12.out).2.1); (case side3 => exact aq102); (case side4 => exact (Kd.R_reads' HO128.out).2.1); rintro e w' ⟨rfl, ⟨nd, rfl⟩⟩; refine ⟨_, rfl, ?_⟩))
          go_ret
          exact ⟨aq7, aq1⟩
        ·replace c35 := Bool.eq_false_iff.mpr c35
         subst c35
         have H1 : (some false) = some r := by rw [if_neg (show ¬ (false = true) by decide)] at H; exact H
         clear H
         have H := H1
         clear H1
         obtain rfl := Option.some.inj H
         go_wp2_with (first | ((with_reducible refine gate_callee (f := 21) rfl ?_); refine goesL_ (some 65) rfl rfl Tryz.func21 (by kernel_rfl) rfl #[.slice A1 l1.length c1] rfl aq3 ?_; (with_reducible refine (laws_toIntS.calls kj14 _ _ l1 t122 _ ?side1 ?side2 A33.out).mono ?_); (case side1 => exact aq22); (case side2 => exact HC1.out); rintro e w89 ⟨v123, rfl, ho0, hb⟩; refine ⟨_, rfl, ?_⟩; have n0_ := am (Kd.R_elder' aq8 (Kd.R_base ho0) hb); have n1_ := am (Kd.R_elder' aq29 (Kd.R_base ho0) hb); have n2_ := am (Kd.R_elder' aq28 (Kd.R_base ho0) hb); have n3_ := am (Kd.R_elder' aq19 (Kd.R_base ho0) hb); have n4_ := am (Kd.R_lower (Kd.R_new' (Kd.R_new' (Kd.R_new' (Kd.R_new' ho0 (Kd.R_lt aq8)) (Kd.R_lt aq29)) (Kd.R_lt aq28)) (Kd.R_lt aq19)) (below_size aq1)); have n5_ := am (below_step aq1 hb); clear HO_9; clear HO_11; clear HO_12; clear HO_13; clear HB; have HO_9 := n0_; have HO_11 := n1_; have HO_12 := n2_; have HO_13 := n3_; have HO124 := n4_; have HB := n5_; clear n0_ n1_ n2_ n3_ n4_ n5_; (try clear hb); (try clear hb2); (try clear hk); (try clear hi); (try clear ho0); obtain ⟨Ao90, co90, eo90⟩ := Kd.R_slice HO124.out; subst eo90) | ((with_reducible refine gate_callee (f := 23) rfl ?_); refine goesL_ (some 66) rfl rfl Tryz.func23 (by kernel_rfl) rfl #[.slice Ao23 t111.length co23, .slice Ao90 t122.length co90] rfl aq3 ?_; (with_reducible refine (laws_eqIntS.calls kj14 _ _ t111 _ _ t122 false _ ?side1 ?side2 ?side3 ?side4 A34.out).mono ?_); (case side1 => exact aq68); (case side2 => exact (Kd.R_reads' HO_11.out).2.1); (case side3 => exact aq69); (case side4 => exact (Kd.R_reads' HO124.out).2.1); rintro e w' ⟨rfl, ⟨nd, rfl⟩⟩; refine ⟨_, rfl, ?_⟩))
         go_ret
         exact ⟨aq7, aq1⟩
end Go.Proofs.YtdffgeoegdkiaaaGreatDoor.F

namespace Go.Proofs.YtdffgeoegdkiaaaGreatDoor.F
open Go.RowKit Go.Proofs.YtdffgeoegdkiaaaGreatDoor Go.Proofs.YtdffgeoegdkiaaaGreatDoorW.PrintWords Go.Proofs.YtdffgeoegdkiaaaGreatDoorW.PrintMore
set_option linter.unusedVariables false
set_option linter.unusedSimpArgs false
def gateA (t : ByteArray) (l1 l2 : List Int) (wd : ByteArray) : List Int × Bool := if gateB t l1 l2 = true ∧ isWordB (bytesOf wd) = true then (match tyGrid (bytesOf t) with | none => ([], false) | some g => (tableL g.1 g.2.1 g.2.2 l1 l2 (wordD wd) (2 ^ l1.length), true)) else ([], false)
theorem gateB_grid {t : ByteArray} {l1 l2 : List Int} (h : gateB t l1 l2 = true) : ∃ w h cs, tyGrid (bytesOf t) = some (w, h, cs) ∧ cellsOk freeC cs l1 = true ∧ cellsOk isOpenC cs l2 = true := by
  unfold gateB at h
  cases hg : tyGrid (bytesOf t) with
  | none => rw [hg] at h; cases h
  | some g =>
    rw [hg] at h
    obtain ⟨w, h', cs⟩ := g
    rw [Bool.and_eq_true] at h
    exact ⟨w, h', cs, rfl, h.1, h.2⟩
theorem impl_gate_ev (t : ByteArray) (ht : t.size < 4294967281) (l1 l2 : List Int) (h1 : l1.length ≤ 2000000) (h2 : l2.length ≤ 2000000) (wd : ByteArray) : Ev (fun k => impl_GateTable.f k t l1 l2 wd) (gateA t l1 l2 wd) := by
  unfold gateA impl_GateTable.f
  refine Ev.bind (impl_isGate_ev t ht l1 l2 h1 h2) ?_
  by_cases hb : gateB t l1 l2 = true
  · refine Ev.congr (fun k => by rw [if_pos hb, impl_IsWord_eq, Option.bind_some]) ?_
    by_cases hs : isWordB (bytesOf wd) = true
    · obtain ⟨w, h, cs, hg, c1, c2⟩ := gateB_grid hb
      rw [if_pos (show gateB t l1 l2 = true ∧ isWordB (bytesOf wd) = true from ⟨hb, hs⟩)]
      simp only [hg]
      refine Ev.congr (fun k => if_pos hs) (Ev.bind (impl_table_ev hg hs (ok_in c1) (ok_in c2)) (Ev.now _))
    · rw [if_neg (show ¬ (gateB t l1 l2 = true ∧ isWordB (bytesOf wd) = true) from fun q => hs q.2)]
      exact Ev.congr (fun k => if_neg hs) (Ev.now _)
  · rw [if_neg (show ¬ (gateB t l1 l2 = true ∧ isWordB (bytesOf wd) = true) from fun q => hb q.1)]
    exact Ev.congr (fun k => if_neg hb) (Ev.now _)
theorem spec_gate_ev (t : ByteArray) (l1 l2 : List Int) (h1 : l1.length ≤ 2000000) (h2 : l2.length ≤ 2000000) (wd : ByteArray) : Ev (fun k => spec_GateTable.f k t l1 l2 wd) (gateA t l1 l2 wd) := by
  obtain ⟨A, B, C, hG, hABC⟩ := spec_mcGate_ev t l1 l2 h1 h2 wd
  unfold gateA spec_GateTable.f
  refine Ev.bind hG ?_
  by_cases hb : gateB t l1 l2 = true ∧ isWordB (bytesOf wd) = true
  · obtain ⟨w, h, cs, hg, c1, c2⟩ := gateB_grid hb.1
    obtain ⟨rfl, rfl, rfl⟩ := hABC w h cs hg
    rw [if_pos hb]
    simp only [hg]
    refine Ev.congr (fun k => if_pos (by rw [hb.1, hb.2]; rfl)) (Ev.bind (spec_table_ev hg hb.2 (ok_in c1) (ok_in c2)) (Ev.now _))
  · rw [if_neg hb]
    refine Ev.congr (fun k => if_neg (fun q => hb ?_)) (Ev.now _)
    rw [Bool.and_eq_true] at q
    exact q
theorem gateA_length (t : ByteArray) (l1 l2 : List Int) (wd : ByteArray) : (gateA t l1 l2 wd).1.length ≤ 8 := by
  unfold gateA
  split
  · rename_i hc
    obtain ⟨w, h, cs, hg, c1, c2⟩ := gateB_grid hc.1
    rw [hg]
    show (tableL w h cs l1 l2 (wordD wd) (2 ^ l1.length)).length ≤ 8
    rw [tableL_length]
    exact pow_le8 (ok_in c1).1.2
  · simp
theorem FnExactGateTable (a : ByteArray) (l1 l2 : List Int) (d : ByteArray) (ha : a.size ≤ 9223372036854775807) (hw1 : ∀ x ∈ l1, (Lit.int .i64 x).wf = true) (hw2 : ∀ x ∈ l2, (Lit.int .i64 x).wf = true) (hd : d.size ≤ 9223372036854775807) : ∃ k, laws_FnExactGateTable.f k a l1 l2 d = some true := by
  refine Ev.rounds (g := fun k => laws_FnExactGateTable.f k a l1 l2 d) ?_
  unfold laws_FnExactGateTable.f
  by_cases c0 : (a.size : Int) > 1048576
  · exact Ev.congr (fun k => if_pos c0) (Ev.now _)
  by_cases c1 : (l1.length : Int) > 1048576
  · exact Ev.congr (fun k => by rw [if_neg c0, if_pos c1]) (Ev.now _)
  by_cases c2 : (l2.length : Int) > 1048576
  · exact Ev.congr (fun k => by rw [if_neg c0, if_neg c1, if_pos c2]) (Ev.now _)
  by_cases c3 : (d.size : Int) > 1048576
  · exact Ev.congr (fun k => by rw [if_neg c0, if_neg c1, if_neg c2, if_pos c3]) (Ev.now _)
  refine Ev.congr (fun k => by rw [if_neg c0, if_neg c1, if_neg c2, if_neg c3]) ?_
  have t1 := toI_ev l1 (by omega)
  have t2 := toI_ev l2 (by omega)
  have e1 := eqI_ev l1 (by omega)
  have e2 := eqI_ev l2 (by omega)
  have hI := impl_gate_ev a (by omega) l1 l2 (by omega) (by omega) d
  have hS := spec_gate_ev a l1 l2 (by omega) (by omega) d
  have hlen := gateA_length a l1 l2 d
  generalize gateA a l1 l2 d = R at hI hS hlen
  have hE := eqI_ev R.1 (by omega)
  have hM : Ev (fun k => laws_markIntS.f k R.1 1) (((1 + R.1.length : Nat) : Int), marksI 1 R.1.length) := markI_ev R.1 1 (by omega) (by omega)
  have hH : Ev (fun k => laws_heldIntS.f k (marksI 1 R.1.length) 1) ((1 + R.1.length : Nat) : Int) := heldI_ev 1 R.1.length (by omega) (by omega)
  have m1 : Ev (fun k => laws_markIntS.f k l1 1) (((1 + l1.length : Nat) : Int), marksI 1 l1.length) := markI_ev l1 1 (by omega) (by omega)
  have m2 := markI_ev l2 (1 + l1.length) (by omega) (by omega)
  have hend : Ev (fun k => laws_FnExactGateTable.j2 k (marksI 1 R.1.length) ((1 + R.1.length : Nat) : Int) false) true := by
    refine Ev.step (fun k => by rw [laws_FnExactGateTable.j2, if_neg Bool.false_ne_true]) (Ev.bind hH ?_)
    exact Ev.congr (fun k => by rw [if_neg (by omega), if_pos rfl]) (Ev.now _)
  have hj1 : Ev (fun k => laws_FnExactGateTable.j1 k a l1 l2 d R.1 R.2 R.1 false) true := by
    refine Ev.step (fun k => by rw [laws_FnExactGateTable.j1, if_neg Bool.false_ne_true]) (Ev.bind hM (Ev.bind hH ?_))
    refine Ev.congr (fun k => by rw [if_neg (by omega), if_pos rfl]) (Ev.bind t1 (Ev.bind t2 (Ev.bind hI (Ev.bind hE ?_))))
    refine Ev.congr (fun k => if_pos rfl) ?_
    rw [bne_self_eq_false]
    exact hend
  have hj0 : Ev (fun k => laws_FnExactGateTable.j0 k a l1 l2 d R.1 R.2 l1 l2 R.1 R.2 false) true := by
    refine Ev.step (fun k => by rw [laws_FnExactGateTable.j0, if_neg Bool.false_ne_true]) (Ev.bind t1 (Ev.bind e1 ?_))
    refine Ev.congr (fun k => if_pos rfl) (Ev.bind t2 (Ev.bind e2 ?_))
    refine Ev.congr (fun k => if_pos rfl) (Ev.bind m1 (Ev.bind m2 ?_))
    refine Ev.congr (fun k => if_neg (by omega)) (Ev.bind hE ?_)
    refine Ev.congr (fun k => if_pos rfl) ?_
    rw [bne_self_eq_false]
    exact hj1
  refine Ev.bind t1 (Ev.bind t2 (Ev.bind hS (Ev.bind t1 (Ev.bind t2 (Ev.bind hI (Ev.bind hE ?_))))))
  refine Ev.congr (fun k => if_pos rfl) ?_
  rw [bne_self_eq_false]
  exact hj0
end Go.Proofs.YtdffgeoegdkiaaaGreatDoor.F
