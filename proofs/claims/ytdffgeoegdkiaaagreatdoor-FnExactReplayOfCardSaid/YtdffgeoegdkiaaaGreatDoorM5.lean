/- The proof that the law's row holds, part 5: the kit's words, the printed walks and the plain law. No conditions beyond the card's own. -/
import Derived.Test.YtdffgeoegdkiaaaGreatDoorM0
import Derived.Test.YtdffgeoegdkiaaaGreatDoorM1
import Derived.Test.YtdffgeoegdkiaaaGreatDoorM2
import Derived.Test.YtdffgeoegdkiaaaGreatDoorM3
import Derived.Test.YtdffgeoegdkiaaaGreatDoorM4
namespace Go.Proofs.YtdffgeoegdkiaaaGreatDoor.F
open Go.Proofs.YtdffgeoegdkiaaaGreatDoor
open Go.RowKit Go.Proofs.YtdffgeoegdkiaaaGreatDoorW.PrintWords Go.Proofs.YtdffgeoegdkiaaaGreatDoorW.PrintLast Go.Proofs.YtdffgeoegdkiaaaGreatDoorW.PrintMore
attribute [local go_sem] max2_int min2_int max_two min_two max_three min_three max_four min_four   -- for this text's walks alone
set_option linter.unusedVariables false
set_option linter.unusedSimpArgs false
def laws_heldStringS.l0 : Nat → List ByteArray → Int → Int → Option (Int)
 | 0, _, _, _ => none
 | k + 1, x0, x1, x5 => if x5 < (x0.length : Int) then (if 0 ≤ x5 then ((laws_markText.f k x1).bind fun t102 => (if (rdOf ByteArray.empty x0 x5).toList = t102.toList then (laws_heldStringS.l0 k x0 (wrap64 (x1 + 1)) (wrap64 (x5 + 1))) else (some (-1)))) else (none)) else (some x1)
def laws_heldStringS.f (k : Nat) (l0 : List ByteArray) (a1 : Int) : Option (Int) := laws_heldStringS.l0 k l0 a1 0
theorem laws_heldStringS.mono_l : ∀ k, (∀ y0 y1 y2, LeO (laws_heldStringS.l0 k y0 y1 y2) (laws_heldStringS.l0 (k + 1) y0 y1 y2))
 | 0 => fun _ _ _ r h => by simp [laws_heldStringS.l0] at h
 | k + 1 => by
  have ih0 := laws_heldStringS.mono_l k
  ·intro y0 y1 y2
   unfold laws_heldStringS.l0
   repeat' first
   | (with_reducible exact ih0 _ _ _)
   | (with_reducible exact laws_markText.mono _ _)
   | (with_reducible exact LeO.refl _)
   | (with_reducible exact LeO.none _)
   | (with_reducible refine LeO.ite ?_ ?_)
   | (with_reducible refine LeO.bind ?_ (fun _ => ?_))
   | exact ih0 _ _ _
   | exact laws_markText.mono _ _
   | exact LeO.none _
   | refine LeO.ite ?_ ?_
   | refine LeO.bind ?_ (fun _ => ?_)
theorem laws_heldStringS.mono : ∀ a0 a1 k, LeO (laws_heldStringS.f k a0 a1) (laws_heldStringS.f (k + 1) a0 a1) := by
 intro a0 a1 k
 have ih0 := laws_heldStringS.mono_l k
 unfold laws_heldStringS.f
 repeat' first
   | (with_reducible exact ih0 _ _ _)
   | (with_reducible exact laws_markText.mono _ _)
   | (with_reducible exact LeO.refl _)
   | (with_reducible exact LeO.none _)
   | (with_reducible refine LeO.ite ?_ ?_)
   | (with_reducible refine LeO.bind ?_ (fun _ => ?_))
   | exact ih0 _ _ _
   | exact laws_markText.mono _ _
   | exact LeO.none _
   | refine LeO.ite ?_ ?_
   | refine LeO.bind ?_ (fun _ => ?_)
set_option maxHeartbeats 8000000 in
set_option maxRecDepth 100000 in
theorem laws_heldStringS.calls (k : Nat) (A0 : Option Addr) (c0 : Nat) (l0 : List ByteArray) (a1 : Int) (r : Int) (w : World) (hr0 : Kd.C Kd.string w A0 l0.length l0) (hc0 : l0.length ≤ c0) (h : laws_heldStringS.f k l0 a1 = some r) :
  Calls Tryz.prog 19 #[.slice A0 l0.length c0, .int .i64 a1] w fun e w' => e = .returned (.int .i64 r) ∧ Below w.heap.size w w' := by
 have HR0 := am hr0
 have HC0 := am hc0
 clear hr0 hc0
 have HB := am (Below.refl w.heap.size w)
 have H : (laws_heldStringS.l0 k l0 a1 0) = some r := h
 clear h
 have H' := am H
 clear H
 go_enter Tryz.func19, Tryz.ntmps19
 go_wp2
 go_loopg [1, 5] k (fun kq v1 v5 w' => ∃ (x1_1 : Int) (x5_1 : Int), v1 = .int .i64 x1_1 ∧ v5 = .int .i64 x5_1 ∧ Aside0 (laws_heldStringS.l0 kq l0 x1_1 x5_1 = some r) ∧ Aside0 (kq ≤ k) ∧ Aside0 (Below w.heap.size w w'))
 case atStart => exact ⟨(a1), (0), aq8, aq8, H', ⟨Nat.le_refl _⟩, ⟨aq1⟩⟩
 case round =>
  clear H'
  try clear c1
  try clear p2
  obtain ⟨x1_1, x5_1, rfl, rfl, HA, HK1, HB⟩ := hrel
  cases gk with
  | zero => exact absurd HA.out (by simp [laws_heldStringS.l0])
  | succ k1 =>
   have H := HA.out
   clear HA
   simp only [laws_heldStringS.l0] at H
   by_cases c3 : x5_1 < (l0.length : Int)
   ·rw [if_pos c3] at H
    have c3b0 : decide (x5_1 < (l0.length : Int)) = true := decide_eq_true c3
    clear c3
    by_cases c4 : 0 ≤ x5_1
    ·rw [if_pos c4] at H
     have c4b0 : decide (0 ≤ x5_1) = true := decide_eq_true c4
     clear c4
     replace H := Option.bind_eq_some_iff.mp H
     obtain ⟨t102, A50, H⟩ := H
     replace H : (if (rdOf ByteArray.empty l0 x5_1).toList = t102.toList then (laws_heldStringS.l0 k1 l0 (wrap64 (x1_1 + 1)) (wrap64 (x5_1 + 1))) else (some (-1))) = some r := H
     have A5 := am A50
     clear A50
     by_cases c6 : (rdOf ByteArray.empty l0 x5_1).toList = t102.toList
     ·rw [if_pos c6] at H
      have c6b0 : ((rdOf ByteArray.empty l0 x5_1).toList == t102.toList) = true := beq_iff_eq.mpr c6
      have c6b1 : ((rdOf ByteArray.empty l0 x5_1).toList != t102.toList) = false := bne_eq_false_iff_eq.mpr c6
      clear c6
      have H' := am H
      clear H
      try go_wp2
      have n0_ := am (below_drew1 HB.out)
      clear HB
      have HB := n0_
      clear n0_
      have p101 : 0 ≤ (x5_1 : Int) := of_decide_eq_true aq5
      have q101 : x5_1 < (l0.length : Int) := of_decide_eq_true aq5
      obtain ⟨ad101, e101, hx101_0⟩ := Kd.at_string HR0.out x5_1 p101 q101
      have hw101_0 := hx101_0
      cases e101
      try replace hx101_0 := (HB.out.cell (World.block_lt_of_cell? w _ hx101_0)).trans hx101_0
      replace p101 := eq_true p101
      replace q101 := eq_true q101
      refine start_ (n := 7) (S := fun w' => w'.cell? (ad101.add (x5_1).toNat) = some (.string (rdOf ByteArray.empty l0 x5_1))) (ds := []) #[false, false, false, false, false, false, false] (by kernel_rfl) rfl rfl (((HB.out.cell (World.block_lt_of_cell? w _ hw101_0)).trans hw101_0)) (fun hHeld => ?_)
      generalize wr.drew = w7 at HB hx101_0 hHeld ⊢
      refine pure_ (i := 0) (N := some 12) (v := ?_) (a' := ?_) (bm 7 1) rfl rfl (by kernel_rfl) (fun _ _ _ h => h) (Or.inl ⟨by rfl, ?_⟩) ?_ ?_
      rotate_left
      ·intro w'
       go_simp
       with_reducible rfl
      rotate_left
      ·simp only [Act.put, ac_]
       rfl
      refine pure_ (i := 1) (N := some 13) (v := ?_) (a' := ?_) (bm 7 3) rfl rfl (by kernel_rfl) (fun _ _ _ h => h) (Or.inl ⟨by rfl, ?_⟩) ?_ ?_
      rotate_left
      ·intro w'
       go_simp
       with_reducible rfl
      rotate_left
      ·simp only [Act.put, ac_]
       rfl
      refine pure_ (i := 2) (N := some 14) (v := ?_) (a' := ?_) (bm 7 7) rfl rfl (by kernel_rfl) (fun _ _ _ h => h) (Or.inl ⟨by rfl, ?_⟩) ?_ ?_
      rotate_left
      ·intro w'
       go_simp
       with_reducible rfl
      rotate_left
      ·simp only [Act.put, ac_]
       rfl
      refine pure_ (i := 4) (N := some 16) (v := ?_) (a' := ?_) (bm 7 23) rfl rfl (by kernel_rfl) (fun _ _ _ h => h) (Or.inl ⟨by rfl, ?_⟩) ?_ ?_
      rotate_left
      ·intro w'
       go_simp
       with_reducible rfl
      rotate_left
      ·simp only [Act.put, ac_]
       rfl
      refine take_ (i := 3) (N := some 15) (v := ?_) (a' := ?_) (bm 7 31) rfl rfl (by kernel_rfl) (fun _ _ _ h => h) (Or.inl ⟨by rfl, ?_⟩) hHeld ?_ ?_
      rotate_left
      ·intro w' s0
       go_simp
       with_reducible rfl
      rotate_left
      ·simp only [Act.put, ac_]
       rfl
      refine one_ (i := 5) (N := some 17) (bm 7 63) rfl rfl (by kernel_rfl) (by decide) (fun K hK => ?_)
      refine goes_ Tryz.func61 (by kernel_rfl) rfl #[.int .i64 x1_1] (by rfl) rfl rfl aq3 ?_
      with_reducible refine (laws_markText.calls k1 x1_1 t102 _ A5.out).mono ?_
      rintro e w8 ⟨rfl, hb⟩
      refine ⟨_, rfl, ?_⟩
      have n0_ := am (below_step aq1 hb)
      clear HB
      have HB := n0_
      clear n0_
      (try clear hb)
      (try clear hb2)
      (try clear hk)
      (try clear hi)
      refine hK.out _ _ (((HB.out.cell (World.block_lt_of_cell? w _ hw101_0)).trans hw101_0)) (fun hHeld => ?_)
      clear hK K
      refine norm_ (a' := ?_) ?_ ?_
      rotate_left
      ·show Act.put _ (some 17) _ = _
       simp only [Act.put, ac_]
       rfl
      refine pure_ (i := 6) (N := some 18) (v := ?_) (a' := ?_) (bm 7 127) rfl rfl (by kernel_rfl) (fun _ _ _ h => h) (Or.inl ⟨by rfl, ?_⟩) ?_ ?_
      rotate_left
      ·intro w'
       go_simp
       with_reducible rfl
      rotate_left
      ·simp only [Act.put, ac_]
       rfl
      refine done_ (by kernel_rfl) ?_
      try go_wp2
      go_roundg k1
      case measure => have := HK1.out; omega
      case rel => exact ⟨(wrap64 (x1_1 + 1)), (wrap64 (x5_1 + 1)), aq8, aq8, H', ⟨aq48⟩, ⟨aq1⟩⟩
     ·rw [if_neg c6] at H
      have c6b0 : ((rdOf ByteArray.empty l0 x5_1).toList == t102.toList) = false := beq_eq_false_iff_ne.mpr c6
      have c6b1 : ((rdOf ByteArray.empty l0 x5_1).toList != t102.toList) = true := bne_iff_ne.mpr c6
      obtain rfl := Option.some.inj H
      try go_wp2
      have n0_ := am (below_drew1 HB.out)
      clear HB
      have HB := n0_
      clear n0_
      have p101 : 0 ≤ (x5_1 : Int) := of_decide_eq_true aq5
      have q101 : x5_1 < (l0.length : Int) := of_decide_eq_true aq5
      obtain ⟨ad101, e101, hx101_0⟩ := Kd.at_string HR0.out x5_1 p101 q101
      have hw101_0 := hx101_0
      cases e101
      try replace hx101_0 := (HB.out.cell (World.block_lt_of_cell? w _ hx101_0)).trans hx101_0
      replace p101 := eq_true p101
      replace q101 := eq_true q101
      refine start_ (n := 7) (S := fun w' => w'.cell? (ad101.add (x5_1).toNat) = some (.string (rdOf ByteArray.empty l0 x5_1))) (ds := []) #[false, false, false, false, false, false, false] (by kernel_rfl) rfl rfl (((HB.out.cell (World.block_lt_of_cell? w _ hw101_0)).trans hw101_0)) (fun hHeld => ?_)
      generalize wr.drew = w9 at HB hx101_0 hHeld ⊢
      refine pure_ (i := 0) (N := some 12) (v := ?_) (a' := ?_) (bm 7 1) rfl rfl (by kernel_rfl) (fun _ _ _ h => h) (Or.inl ⟨by rfl, ?_⟩) ?_ ?_
      rotate_left
      ·intro w'
       go_simp
       with_reducible rfl
      rotate_left
      ·simp only [Act.put, ac_]
       rfl
      refine pure_ (i := 1) (N := some 13) (v := ?_) (a' := ?_) (bm 7 3) rfl rfl (by kernel_rfl) (fun _ _ _ h => h) (Or.inl ⟨by rfl, ?_⟩) ?_ ?_
      rotate_left
      ·intro w'
       go_simp
       with_reducible rfl
      rotate_left
      ·simp only [Act.put, ac_]
       rfl
      refine pure_ (i := 2) (N := some 14) (v := ?_) (a' := ?_) (bm 7 7) rfl rfl (by kernel_rfl) (fun _ _ _ h => h) (Or.inl ⟨by rfl, ?_⟩) ?_ ?_
      rotate_left
      ·intro w'
       go_simp
       with_reducible rfl
      rotate_left
      ·simp only [Act.put, ac_]
       rfl
      refine pure_ (i := 4) (N := some 16) (v := ?_) (a' := ?_) (bm 7 23) rfl rfl (by kernel_rfl) (fun _ _ _ h => h) (Or.inl ⟨by rfl, ?_⟩) ?_ ?_
      rotate_left
      ·intro w'
       go_simp
       with_reducible rfl
      rotate_left
      ·simp only [Act.put, ac_]
       rfl
      refine take_ (i := 3) (N := some 15) (v := ?_) (a' := ?_) (bm 7 31) rfl rfl (by kernel_rfl) (fun _ _ _ h => h) (Or.inl ⟨by rfl, ?_⟩) hHeld ?_ ?_
      rotate_left
      ·intro w' s0
       go_simp
       with_reducible rfl
      rotate_left
      ·simp only [Act.put, ac_]
       rfl
      refine one_ (i := 5) (N := some 17) (bm 7 63) rfl rfl (by kernel_rfl) (by decide) (fun K hK => ?_)
      refine goes_ Tryz.func61 (by kernel_rfl) rfl #[.int .i64 x1_1] (by rfl) rfl rfl aq3 ?_
      with_reducible refine (laws_markText.calls k1 x1_1 t102 _ A5.out).mono ?_
      rintro e w10 ⟨rfl, hb⟩
      refine ⟨_, rfl, ?_⟩
      have n0_ := am (below_step aq1 hb)
      clear HB
      have HB := n0_
      clear n0_
      (try clear hb)
      (try clear hb2)
      (try clear hk)
      (try clear hi)
      refine hK.out _ _ (((HB.out.cell (World.block_lt_of_cell? w _ hw101_0)).trans hw101_0)) (fun hHeld => ?_)
      clear hK K
      refine norm_ (a' := ?_) ?_ ?_
      rotate_left
      ·show Act.put _ (some 17) _ = _
       simp only [Act.put, ac_]
       rfl
      refine pure_ (i := 6) (N := some 18) (v := ?_) (a' := ?_) (bm 7 127) rfl rfl (by kernel_rfl) (fun _ _ _ h => h) (Or.inl ⟨by rfl, ?_⟩) ?_ ?_
      rotate_left
      ·intro w'
       go_simp
       with_reducible rfl
      rotate_left
      ·simp only [Act.put, ac_]
       rfl
      refine done_ (by kernel_rfl) ?_
      try go_wp2
      go_ret
      exact ⟨aq7, aq1⟩
    ·rw [if_neg c4] at H
     exact absurd H (by simp)
   ·rw [if_neg c3] at H
    have c3b0 : decide (x5_1 < (l0.length : Int)) = false := decide_eq_false c3
    clear c3
    obtain rfl := Option.some.inj H
    go_wp2
    go_ret
    exact ⟨aq7, aq1⟩
end Go.Proofs.YtdffgeoegdkiaaaGreatDoor.F

namespace Go.Proofs.YtdffgeoegdkiaaaGreatDoor.F
open Go.RowKit Go.Proofs.YtdffgeoegdkiaaaGreatDoor Go.Proofs.YtdffgeoegdkiaaaGreatDoorW.PrintWords Go.Proofs.YtdffgeoegdkiaaaGreatDoorW.PrintMore
set_option linter.unusedVariables false
set_option linter.unusedSimpArgs false
theorem eqS_l0 (l : List ByteArray) (hl : l.length ≤ 1000) : ∀ (n i : Nat), i + n = l.length → Ev (fun k => laws_eqStringS.l0 k l l (i : Int)) true
  | 0, i, hi => Ev.step (fun k => by rw [laws_eqStringS.l0, if_neg (by omega)]) (Ev.now _)
  | n + 1, i, hi => by
    have HW : Aside0 (wrap64 ((i : Int) + 1) = ((i + 1 : Nat) : Int)) := ⟨by rw [w64 (by omega) (by omega)]; rfl⟩
    refine Ev.step (fun k => ?_) (eqS_l0 l hl n (i + 1) (by omega))
    rw [laws_eqStringS.l0, if_pos (by omega), if_pos (by omega), if_pos (by omega), if_pos rfl, HW.out]
theorem eqS_ev (l : List ByteArray) (hl : l.length ≤ 1000) : Ev (fun k => laws_eqStringS.f k l l) true :=
  Ev.congr (fun k => by rw [laws_eqStringS.f, if_pos rfl]; rfl) (eqS_l0 l hl l.length 0 (by omega))
theorem markText_l0 : ∀ (d n : Nat) (acc : ByteArray), n < d → d < 100000 → acc.size + d < 1000000 → ∃ t, Ev (fun k => laws_markText.l0 k (n : Int) acc) t
  | 0, n, acc, h, _, _ => absurd h (Nat.not_lt_zero _)
  | d + 1, n, acc, h, hd, ha => by
    by_cases h0 : n = 0
    · subst h0
      exact ⟨_, Ev.step (fun k => by rw [laws_markText.l0, if_neg (by decide), if_pos (by omega)]) (Ev.now _)⟩
    · have e1 : Int.tdiv (n : Int) 10 = ((n / 10 : Nat) : Int) := rfl
      have hlt : n / 10 < d := by omega
      have hsz : (strOfNums [(wrap64 (48 + (Int.tmod (n : Int) 10))) % 256]).size = 1 := rfl
      obtain ⟨t, ht⟩ := markText_l0 d (n / 10) (strOfNums [(wrap64 (48 + (Int.tmod (n : Int) 10))) % 256] ++ acc) hlt (by omega) (by rw [ByteArray.size_append, hsz]; omega)
      have HW : Aside0 (wrap64 ((n / 10 : Nat) : Int) = ((n / 10 : Nat) : Int)) := ⟨w64 (by omega) (by omega)⟩
      refine ⟨t, Ev.step (fun k => ?_) ht⟩
      rw [laws_markText.l0, if_pos (by omega), Option.bind_some, if_pos (by rw [hsz]; omega), e1, HW.out]
theorem markText_ex (n : Nat) (hn : n < 5000) : ∃ t, Ev (fun k => laws_markText.f k (n : Int)) t := by
  by_cases h0 : n = 0
  · subst h0; exact ⟨_, Ev.congr (fun k => by rw [laws_markText.f, if_pos (by decide)]) (Ev.now _)⟩
  · obtain ⟨t, ht⟩ := markText_l0 (n + 1) n (⟨#[]⟩ : ByteArray) (by omega) (by omega) (by show 0 + (n + 1) < _; omega)
    exact ⟨t, Ev.congr (fun k => by rw [laws_markText.f, if_neg (by omega)]) ht⟩
noncomputable def mkT (n : Nat) : ByteArray := if h : n < 5000 then Classical.choose (markText_ex n h) else ByteArray.empty
theorem mkT_ev {n : Nat} (hn : n < 5000) : Ev (fun k => laws_markText.f k (n : Int)) (mkT n) := by
  unfold mkT; rw [dif_pos hn]; exact Classical.choose_spec (markText_ex n hn)
noncomputable def marksT (m n : Nat) : List ByteArray := (List.range n).map fun j => mkT (m + j)
theorem marksT_length (m n : Nat) : (marksT m n).length = n := by simp [marksT]
theorem markS_l0 (l : List ByteArray) (m : Nat) (hl : l.length ≤ 1000) (hm : m ≤ 1000) : ∀ (n i : Nat), i + n = l.length →
    Ev (fun k => laws_markStringS.l0 k (marksT m i ++ l.drop i) ((m + i : Nat) : Int) (i : Int)) (((m + l.length : Nat) : Int), marksT m l.length)
  | 0, i, hi => by
    obtain rfl : i = l.length := by omega
    rw [List.drop_eq_nil_of_le (Nat.le_refl _), List.append_nil]
    exact Ev.step (fun k => by rw [laws_markStringS.l0, if_neg (by rw [marksT_length]; omega)]) (Ev.now _)
  | n + 1, i, hi => by
    have hil : i < l.length := by omega
    have HW : Aside0 (wrap64 ((i : Int) + 1) = ((i + 1 : Nat) : Int)) := ⟨by rw [w64 (by omega) (by omega)]; rfl⟩
    have HM : Aside0 (wrap64 (((m + i : Nat) : Int) + 1) = ((m + (i + 1) : Nat) : Int)) := ⟨by rw [w64 (by omega) (by omega)]; omega⟩
    have hset : (marksT m i ++ l.drop i).set i (mkT (m + i)) = marksT m (i + 1) ++ l.drop (i + 1) := by
      rw [List.set_append_right _ _ (by rw [marksT_length]; exact Nat.le_refl _), marksT_length, Nat.sub_self, List.drop_eq_getElem_cons hil, List.set_cons_zero]
      unfold marksT
      rw [List.range_succ, List.map_append, List.append_assoc]; rfl
    have ih := markS_l0 l m hl hm n (i + 1) (by omega)
    refine Ev.step (f := fun k => (laws_markText.f k ((m + i : Nat) : Int)).bind fun t => laws_markStringS.l0 k ((marksT m i ++ l.drop i).set i t) ((m + (i + 1) : Nat) : Int) ((i + 1 : Nat) : Int)) (fun k => ?_) (Ev.bind (mkT_ev (by omega)) (by rw [hset]; exact ih))
    rw [laws_markStringS.l0, if_pos (by rw [List.length_append, marksT_length, List.length_drop]; omega), HW.out, HM.out]
    congr 1
theorem markS_ev (l : List ByteArray) (hl : l.length ≤ 1000) : Ev (fun k => laws_markStringS.f k l 1) (((1 + l.length : Nat) : Int), marksT 1 l.length) := by
  have h0 := markS_l0 l 1 hl (by omega) l.length 0 (by omega)
  exact h0
theorem heldS_l0 (m n : Nat) (hn : n ≤ 1000) (hm : m ≤ 1000) : ∀ (d i : Nat), i + d = n → Ev (fun k => laws_heldStringS.l0 k (marksT m n) ((m + i : Nat) : Int) (i : Int)) ((m + n : Nat) : Int)
  | 0, i, hi => by
    obtain rfl : i = n := by omega
    exact Ev.step (fun k => by rw [laws_heldStringS.l0, if_neg (by rw [marksT_length]; omega)]) (Ev.now _)
  | d + 1, i, hi => by
    have HW : Aside0 (wrap64 ((i : Int) + 1) = ((i + 1 : Nat) : Int)) := ⟨by rw [w64 (by omega) (by omega)]; rfl⟩
    have HM : Aside0 (wrap64 (((m + i : Nat) : Int) + 1) = ((m + (i + 1) : Nat) : Int)) := ⟨by rw [w64 (by omega) (by omega)]; omega⟩
    have hget : rdOf ByteArray.empty (marksT m n) (i : Int) = mkT (m + i) := by
      unfold rdOf marksT
      rw [Int.toNat_natCast, List.getD_eq_getElem?_getD, List.getElem?_map, List.getElem?_range (by omega)]; rfl
    refine Ev.step (f := fun k => (laws_markText.f k ((m + i : Nat) : Int)).bind fun t => if (mkT (m + i)).toList = t.toList then laws_heldStringS.l0 k (marksT m n) ((m + (i + 1) : Nat) : Int) ((i + 1 : Nat) : Int) else some (-1)) (fun k => ?_) (Ev.bind (mkT_ev (by omega)) (Ev.congr (fun k => if_pos rfl) (heldS_l0 m n hn hm d (i + 1) (by omega))))
    rw [laws_heldStringS.l0, if_pos (by rw [marksT_length]; omega), if_pos (by omega), HW.out, HM.out, hget]
theorem heldS_ev (n : Nat) (hn : n ≤ 1000) : Ev (fun k => laws_heldStringS.f k (marksT 1 n) 1) ((1 + n : Nat) : Int) := by
  have h0 := heldS_l0 1 n hn (by omega) n 0 (by omega)
  exact h0
end Go.Proofs.YtdffgeoegdkiaaaGreatDoor.F

namespace Go.Proofs.YtdffgeoegdkiaaaGreatDoor.F
open Go.Proofs.YtdffgeoegdkiaaaGreatDoor
open Go.RowKit Go.Proofs.YtdffgeoegdkiaaaGreatDoorW.PrintWords Go.Proofs.YtdffgeoegdkiaaaGreatDoorW.PrintLast Go.Proofs.YtdffgeoegdkiaaaGreatDoorW.PrintMore
attribute [local go_sem] max2_int min2_int max_two min_two max_three min_three max_four min_four   -- for this text's walks alone
set_option linter.unusedVariables false
set_option linter.unusedSimpArgs false
def laws_szPuzzle.f (a0_0 : ByteArray) (a0_1 : ByteArray) (a0_2 : Int) (a1 : Int) : Option (Int) := if (wrap64 (a1 - (a0_0.size : Int))) < 0 then (some (-1)) else (if (wrap64 ((wrap64 (a1 - (a0_0.size : Int))) - (a0_1.size : Int))) < 0 then (some (-1)) else (some (wrap64 ((wrap64 (a1 - (a0_0.size : Int))) - (a0_1.size : Int)))))
set_option maxHeartbeats 8000000 in
set_option maxRecDepth 100000 in
theorem laws_szPuzzle.calls (a0_0 : ByteArray) (a0_1 : ByteArray) (a0_2 : Int) (a1 : Int) (r : Int) (w : World) (h : laws_szPuzzle.f a0_0 a0_1 a0_2 a1 = some r) :
  Calls Tryz.prog 43 #[.agg #[.string a0_0, .string a0_1, .int .i64 a0_2], .int .i64 a1] w fun e w' => e = .returned (.int .i64 r) ∧ Below w.heap.size w w' := by
 have hu53 := Tryz.underlying53
 have HB := am (Below.refl w.heap.size w)
 have H : (if (wrap64 (a1 - (a0_0.size : Int))) < 0 then (some (-1)) else (if (wrap64 ((wrap64 (a1 - (a0_0.size : Int))) - (a0_1.size : Int))) < 0 then (some (-1)) else (some (wrap64 ((wrap64 (a1 - (a0_0.size : Int))) - (a0_1.size : Int)))))) = some r := h
 clear h
 by_cases c3 : (wrap64 (a1 - (a0_0.size : Int))) < 0
 ·rw [if_pos c3] at H
  have c3b0 : decide ((wrap64 (a1 - (a0_0.size : Int))) < 0) = true := decide_eq_true c3
  clear c3
  obtain rfl := Option.some.inj H
  go_enter Tryz.func43, Tryz.ntmps43
  go_wp2_with (first | ((with_reducible refine gate_dst (N := 2) rfl ?_); refine box_event ?hg (N := 2) ?hd (cs := #[.string a0_0, .string a0_1, .int .i64 a0_2]) (t := 53) ?hr ?_; (case hd => rfl); (case hg => rfl); (case hr => exact aq9); intro gb101 hg w4 hbox hb; have n0_ := am (below_step aq1 hb); have n1_ := am (hbox); have n2_ := am ((by rw [hg]; exact (below_size aq1) : w.heap.size ≤ gb101)); have n3_ := am ((by rw [hg]; exact (below_size aq1) : w.heap.size ≤ gb101)); clear HB; have HB := n0_; have BK101 := n1_; have GW101 := n2_; have GE101 := n3_; clear n0_ n1_ n2_ n3_; clear hb hbox hg; have hcz5_0 : w4.cell? ⟨gb101, 0, none⟩ = some (.string a0_0) := (blk_cell BK101.out 0).trans rfl; have hcz5_1 : w4.cell? ⟨gb101, 1, none⟩ = some (.string a0_1) := (blk_cell BK101.out 1).trans rfl; have hcz5_2 : w4.cell? ⟨gb101, 2, none⟩ = some (.int .i64 a0_2) := (blk_cell BK101.out 2).trans rfl; have hfz5_0 := blk_frozen BK101.out 0; have hfz5_1 := blk_frozen BK101.out 1; have hfz5_2 := blk_frozen BK101.out 2))
  go_ret
  exact ⟨aq7, aq0⟩
 ·rw [if_neg c3] at H
  have c3b0 : decide ((wrap64 (a1 - (a0_0.size : Int))) < 0) = false := decide_eq_false c3
  clear c3
  by_cases c6 : (wrap64 ((wrap64 (a1 - (a0_0.size : Int))) - (a0_1.size : Int))) < 0
  ·rw [if_pos c6] at H
   have c6b0 : decide ((wrap64 ((wrap64 (a1 - (a0_0.size : Int))) - (a0_1.size : Int))) < 0) = true := decide_eq_true c6
   clear c6
   obtain rfl := Option.some.inj H
   go_enter Tryz.func43, Tryz.ntmps43
   go_wp2_with (first | ((with_reducible refine gate_dst (N := 2) rfl ?_); refine box_event ?hg (N := 2) ?hd (cs := #[.string a0_0, .string a0_1, .int .i64 a0_2]) (t := 53) ?hr ?_; (case hd => rfl); (case hg => rfl); (case hr => exact aq9); intro gb101 hg w7 hbox hb; have n0_ := am (below_step aq1 hb); have n1_ := am (hbox); have n2_ := am ((by rw [hg]; exact (below_size aq1) : w.heap.size ≤ gb101)); have n3_ := am ((by rw [hg]; exact (below_size aq1) : w.heap.size ≤ gb101)); clear HB; have HB := n0_; have BK101 := n1_; have GW101 := n2_; have GE101 := n3_; clear n0_ n1_ n2_ n3_; clear hb hbox hg; have hcz8_0 : w7.cell? ⟨gb101, 0, none⟩ = some (.string a0_0) := (blk_cell BK101.out 0).trans rfl; have hcz8_1 : w7.cell? ⟨gb101, 1, none⟩ = some (.string a0_1) := (blk_cell BK101.out 1).trans rfl; have hcz8_2 : w7.cell? ⟨gb101, 2, none⟩ = some (.int .i64 a0_2) := (blk_cell BK101.out 2).trans rfl; have hfz8_0 := blk_frozen BK101.out 0; have hfz8_1 := blk_frozen BK101.out 1; have hfz8_2 := blk_frozen BK101.out 2))
   go_ret
   exact ⟨aq7, aq0⟩
  ·rw [if_neg c6] at H
   have c6b0 : decide ((wrap64 ((wrap64 (a1 - (a0_0.size : Int))) - (a0_1.size : Int))) < 0) = false := decide_eq_false c6
   clear c6
   obtain rfl := Option.some.inj H
   go_enter Tryz.func43, Tryz.ntmps43
   go_wp2_with (first | ((with_reducible refine gate_dst (N := 2) rfl ?_); refine box_event ?hg (N := 2) ?hd (cs := #[.string a0_0, .string a0_1, .int .i64 a0_2]) (t := 53) ?hr ?_; (case hd => rfl); (case hg => rfl); (case hr => exact aq9); intro gb101 hg w9 hbox hb; have n0_ := am (below_step aq1 hb); have n1_ := am (hbox); have n2_ := am ((by rw [hg]; exact (below_size aq1) : w.heap.size ≤ gb101)); have n3_ := am ((by rw [hg]; exact (below_size aq1) : w.heap.size ≤ gb101)); clear HB; have HB := n0_; have BK101 := n1_; have GW101 := n2_; have GE101 := n3_; clear n0_ n1_ n2_ n3_; clear hb hbox hg; have hcz10_0 : w9.cell? ⟨gb101, 0, none⟩ = some (.string a0_0) := (blk_cell BK101.out 0).trans rfl; have hcz10_1 : w9.cell? ⟨gb101, 1, none⟩ = some (.string a0_1) := (blk_cell BK101.out 1).trans rfl; have hcz10_2 : w9.cell? ⟨gb101, 2, none⟩ = some (.int .i64 a0_2) := (blk_cell BK101.out 2).trans rfl; have hfz10_0 := blk_frozen BK101.out 0; have hfz10_1 := blk_frozen BK101.out 1; have hfz10_2 := blk_frozen BK101.out 2))
   go_ret
   exact ⟨aq7, aq0⟩
def laws_toPuzzle.f (a0_0 : ByteArray) (a0_1 : ByteArray) (a0_2 : Int) : Option (ByteArray × ByteArray × Int) := some (a0_0, a0_1, a0_2)
set_option maxHeartbeats 8000000 in
set_option maxRecDepth 100000 in
theorem laws_toPuzzle.calls (a0_0 : ByteArray) (a0_1 : ByteArray) (a0_2 : Int) (r1 : ByteArray) (r2 : ByteArray) (r3 : Int) (w : World) (h : laws_toPuzzle.f a0_0 a0_1 a0_2 = some (r1, r2, r3)) :
  Calls Tryz.prog 45 #[.agg #[.string a0_0, .string a0_1, .int .i64 a0_2]] w fun e w' => e = .returned (.agg #[.string r1, .string r2, .int .i64 r3]) ∧ Below w.heap.size w w' := by
 have hu53 := Tryz.underlying53
 have hu56 := Tryz.underlying56
 have HB := am (Below.refl w.heap.size w)
 have H : (some (a0_0, a0_1, a0_2)) = some (r1, r2, r3) := h
 clear h
 simp only [Option.some.injEq, Prod.mk.injEq] at H
 obtain ⟨rfl, rfl, rfl⟩ := H
 go_enter Tryz.func45, Tryz.ntmps45
 go_wp2_with (first | ((with_reducible refine gate_dst (N := 1) rfl ?_); refine box_event ?hg (N := 1) ?hd (cs := #[.string a0_0, .string a0_1, .int .i64 a0_2]) (t := 53) ?hr ?_; (case hd => rfl); (case hg => rfl); (case hr => exact aq9); intro gb101 hg w2 hbox hb; have n0_ := am (below_step aq1 hb); have n1_ := am (hbox); have n2_ := am ((by rw [hg]; exact (below_size aq1) : w.heap.size ≤ gb101)); have n3_ := am ((by rw [hg]; exact (below_size aq1) : w.heap.size ≤ gb101)); clear HB; have HB := n0_; have BK101 := n1_; have GW101 := n2_; have GE101 := n3_; clear n0_ n1_ n2_ n3_; clear hb hbox hg) | ((with_reducible refine gate_dst (N := 2) rfl ?_); refine box_event ?hg (N := 2) ?hd (cs := #[.string (⟨#[]⟩ : ByteArray), .string (⟨#[]⟩ : ByteArray), .int .i64 0]) (t := 56) ?hr ?_; (case hd => rfl); (case hg => rfl); (case hr => exact aq9); intro gb102 hg w3 hbox hb; have n0_ := am (blk_below (g := gb101) (o := .cells #[.string a0_0, .string a0_1, .int .i64 a0_2] 53 (0, 0)) aq2 hb); have n1_ := am (below_step aq0 hb); have n2_ := am (hbox); have n3_ := am ((by rw [hg]; exact (below_size aq0) : w.heap.size ≤ gb102)); have n4_ := am ((by rw [hg]; exact (below_size aq0) : w.heap.size ≤ gb102)); have n5_ := am ((by rw [hg]; exact Nat.ne_of_lt (blk_lt (g := gb101) (o := .cells #[.string a0_0, .string a0_1, .int .i64 a0_2] 53 (0, 0)) aq2) : gb101 ≠ gb102)); have n6_ := am ((by rw [hg]; exact Nat.ne_of_gt (blk_lt (g := gb101) (o := .cells #[.string a0_0, .string a0_1, .int .i64 a0_2] 53 (0, 0)) aq2) : gb102 ≠ gb101)); clear BK101; clear HB; have BK101 := n0_; have HB := n1_; have BK102 := n2_; have GW102 := n3_; have GE102 := n4_; have NB101_102 := n5_; have NB102_101 := n6_; clear n0_ n1_ n2_ n3_ n4_ n5_ n6_; clear hb hbox hg) | ((with_reducible refine gate_dst (N := 3) rfl ?_); refine box_event ?hg (N := 3) ?hd (cs := #[.string (⟨#[]⟩ : ByteArray), .string (⟨#[]⟩ : ByteArray), .int .i64 0]) (t := 56) ?hr ?_; (case hd => rfl); (case hg => rfl); (case hr => exact aq9); intro gb103 hg w4 hbox hb; have n0_ := am (blk_below (g := gb101) (o := .cells #[.string a0_0, .string a0_1, .int .i64 a0_2] 53 (0, 0)) aq2 hb); have n1_ := am (blk_below (g := gb102) (o := .cells #[.string (⟨#[]⟩ : ByteArray), .string (⟨#[]⟩ : ByteArray), .int .i64 0] 56 (0, 0)) aq10 hb); have n2_ := am (below_step aq4 hb); have n3_ := am (hbox); have n4_ := am ((by rw [hg]; exact (below_size aq4) : w.heap.size ≤ gb103)); have n5_ := am ((by rw [hg]; exact (below_size aq4) : w.heap.size ≤ gb103)); have n6_ := am ((by rw [hg]; exact Nat.ne_of_lt (blk_lt (g := gb101) (o := .cells #[.string a0_0, .string a0_1, .int .i64 a0_2] 53 (0, 0)) aq2) : gb101 ≠ gb103)); have n7_ := am ((by rw [hg]; exact Nat.ne_of_gt (blk_lt (g := gb101) (o := .cells #[.string a0_0, .string a0_1, .int .i64 a0_2] 53 (0, 0)) aq2) : gb103 ≠ gb101)); have n8_ := am ((by rw [hg]; exact Nat.ne_of_lt (blk_lt (g := gb102) (o := .cells #[.string (⟨#[]⟩ : ByteArray), .string (⟨#[]⟩ : ByteArray), .int .i64 0] 56 (0, 0)) aq10) : gb102 ≠ gb103)); have n9_ := am ((by rw [hg]; exact Nat.ne_of_gt (blk_lt (g := gb102) (o := .cells #[.string (⟨#[]⟩ : ByteArray), .string (⟨#[]⟩ : ByteArray), .int .i64 0] 56 (0, 0)) aq10) : gb103 ≠ gb102)); clear BK101; clear BK102; clear HB; have BK101 := n0_; have BK102 := n1_; have HB := n2_; have BK103 := n3_; have GW103 := n4_; have GE103 := n5_; have NB101_103 := n6_; have NB103_101 := n7_; have NB102_103 := n8_; have NB103_102 := n9_; clear n0_ n1_ n2_ n3_ n4_ n5_ n6_ n7_ n8_ n9_; clear hb hbox hg; have hnb5 := NB101_102.out; have hnc5 := NB102_101.out; have hnb6 := NB101_103.out; have hnc6 := NB103_101.out; have hcz7_0 : w4.cell? ⟨gb101, 0, none⟩ = some (.string a0_0) := (blk_cell BK101.out 0).trans rfl; have hcz7_1 : w4.cell? ⟨gb101, 1, none⟩ = some (.string a0_1) := (blk_cell BK101.out 1).trans rfl; have hcz7_2 : w4.cell? ⟨gb101, 2, none⟩ = some (.int .i64 a0_2) := (blk_cell BK101.out 2).trans rfl; have hfz7_0 := blk_frozen BK101.out 0; have hfz7_1 := blk_frozen BK101.out 1; have hfz7_2 := blk_frozen BK101.out 2; have hnb8 := NB103_102.out; have hnc8 := NB102_103.out; have hcz9_0 : w4.cell? ⟨gb103, 0, none⟩ = some (.string (⟨#[]⟩ : ByteArray)) := (blk_cell BK103.out 0).trans rfl; have hcz9_1 : w4.cell? ⟨gb103, 1, none⟩ = some (.string (⟨#[]⟩ : ByteArray)) := (blk_cell BK103.out 1).trans rfl; have hcz9_2 : w4.cell? ⟨gb103, 2, none⟩ = some (.int .i64 0) := (blk_cell BK103.out 2).trans rfl; have hfz9_0 := blk_frozen BK103.out 0; have hfz9_1 := blk_frozen BK103.out 1; have hfz9_2 := blk_frozen BK103.out 2; have hcz10_0 : w4.cell? ⟨gb102, 0, none⟩ = some (.string (⟨#[]⟩ : ByteArray)) := (blk_cell BK102.out 0).trans rfl; have hcz10_1 : w4.cell? ⟨gb102, 1, none⟩ = some (.string (⟨#[]⟩ : ByteArray)) := (blk_cell BK102.out 1).trans rfl; have hcz10_2 : w4.cell? ⟨gb102, 2, none⟩ = some (.int .i64 0) := (blk_cell BK102.out 2).trans rfl; have hfz10_0 := blk_frozen BK102.out 0; have hfz10_1 := blk_frozen BK102.out 1; have hfz10_2 := blk_frozen BK102.out 2))
 refine bodyPost_ret (results_cell_row rfl _ _ gb102 56 #[.string a0_0, .string a0_1, .int .i64 a0_2] (0, 0) _ rfl (by (with_reducible repeat (first | refine blk_drewN ?_ _ | refine blk_drew ?_ | refine blk_alloc ?_ _)); refine blk_put (cs := #[.string a0_0, .string a0_1, .int .i64 0]) ?_ 2 _ rfl; (with_reducible repeat (first | refine blk_drewN ?_ _ | refine blk_drew ?_ | refine blk_alloc ?_ _)); refine blk_put (cs := #[.string a0_0, .string (⟨#[]⟩ : ByteArray), .int .i64 0]) ?_ 1 _ rfl; (with_reducible repeat (first | refine blk_drewN ?_ _ | refine blk_drew ?_ | refine blk_alloc ?_ _)); refine blk_put (cs := #[.string (⟨#[]⟩ : ByteArray), .string (⟨#[]⟩ : ByteArray), .int .i64 0]) ?_ 0 _ rfl; (with_reducible repeat (first | refine blk_drewN ?_ _ | refine blk_drew ?_ | refine blk_alloc ?_ _)); refine blk_far ?_ NB102_103.out _; (with_reducible repeat (first | refine blk_drewN ?_ _ | refine blk_drew ?_ | refine blk_alloc ?_ _)); refine blk_far ?_ NB102_103.out _; (with_reducible repeat (first | refine blk_drewN ?_ _ | refine blk_drew ?_ | refine blk_alloc ?_ _)); refine blk_far ?_ NB102_103.out _; (with_reducible repeat (first | refine blk_drewN ?_ _ | refine blk_drew ?_ | refine blk_alloc ?_ _)); exact BK102.out) Tryz.underlying56 rfl (by kernel_rfl)) rfl ?_
 exact ⟨aq7, by repeat (first | (with_reducible first | exact HB.out | apply below_alloc | apply pw_below_drewN | apply below_drew1 | refine below_set ?_ GE101.out | refine below_set ?_ GE102.out | refine below_set ?_ GE103.out) | exact HB.out)⟩
mutual
def spec_ReplayOf.j0 : Nat → ByteArray → Bool → ByteArray → ByteArray → Int → Option (List ByteArray × Bool)
 | 0, _, _, _, _, _ => none
 | k + 1, x1, x17, x102000, x102001, x102002 => if x17 = true then (some (([] : List ByteArray), false)) else ((spec_tyRead.f k x102000).bind fun bt104 => (spec_ReplayOf.l0 k x1 (([x102000] : List ByteArray)) 0 bt104.1 bt104.2.1 bt104.2.2.1))
def spec_ReplayOf.l0 : Nat → ByteArray → List ByteArray → Int → Int → Int → List Int → Option (List ByteArray × Bool)
 | 0, _, _, _, _, _, _ => none
 | k + 1, x1, x8, x9, x111000, x111001, x111002 => if x9 < (x1.size : Int) then (if 0 ≤ x9 then (if x9 ≤ (wrap64 (x9 + 1)) then (if (wrap64 (x9 + 1)) ≤ (x1.size : Int) then ((spec_tiDir.f k (x1.extract (x9 : Int).toNat ((wrap64 (x9 + 1)) : Int).toNat)).bind fun t114 => ((spec_tiTilt.f x111000 x111001 x111002 t114).bind fun bt115 => ((spec_tyText.f k bt115.1 bt115.2.1 bt115.2.2).bind fun t120 => (if x8.length < 8796093022208 then (spec_ReplayOf.l0 k x1 (x8 ++ [t120]) (wrap64 (x9 + 1)) bt115.1 bt115.2.1 bt115.2.2) else (none))))) else (none)) else (none)) else (none)) else (some (x8, true))
end
def spec_ReplayOf.f (k : Nat) (a0_0 : ByteArray) (a0_1 : ByteArray) (a0_2 : Int) (a1 : ByteArray) : Option (List ByteArray × Bool) := (spec_puGood.f k a0_0 a0_1 a0_2).bind fun t102 => (if t102 = true then ((spec_tiWord.f k a1).bind fun t103 => (spec_ReplayOf.j0 k a1 (!t103) a0_0 a0_1 a0_2)) else (spec_ReplayOf.j0 k a1 true a0_0 a0_1 a0_2))
theorem spec_ReplayOf.mono_l : ∀ k, (∀ y0 y1 y2 y3 y4, LeO (spec_ReplayOf.j0 k y0 y1 y2 y3 y4) (spec_ReplayOf.j0 (k + 1) y0 y1 y2 y3 y4)) ∧ (∀ y0 y1 y2 y3 y4 y5, LeO (spec_ReplayOf.l0 k y0 y1 y2 y3 y4 y5) (spec_ReplayOf.l0 (k + 1) y0 y1 y2 y3 y4 y5))
 | 0 => ⟨fun _ _ _ _ _ r h => by simp [spec_ReplayOf.j0] at h, fun _ _ _ _ _ _ r h => by simp [spec_ReplayOf.l0] at h⟩
 | k + 1 => by
  obtain ⟨ih0, ih1⟩ := spec_ReplayOf.mono_l k
  refine ⟨?_, ?_⟩
  ·intro y0 y1 y2 y3 y4
   unfold spec_ReplayOf.j0
   repeat' first
   | (with_reducible exact ih0 _ _ _ _ _)
   | (with_reducible exact ih1 _ _ _ _ _ _)
   | (with_reducible exact spec_puGood.mono _ _ _ _)
   | (with_reducible exact spec_tiDir.mono _ _)
   | (with_reducible exact spec_tiWord.mono _ _)
   | (with_reducible exact spec_tyRead.mono _ _)
   | (with_reducible exact spec_tyText.mono _ _ _ _)
   | (with_reducible exact LeO.refl _)
   | (with_reducible exact LeO.none _)
   | (with_reducible refine LeO.ite ?_ ?_)
   | (with_reducible refine LeO.bind ?_ (fun _ => ?_))
   | exact ih0 _ _ _ _ _
   | exact ih1 _ _ _ _ _ _
   | exact spec_puGood.mono _ _ _ _
   | exact spec_tiDir.mono _ _
   | exact spec_tiWord.mono _ _
   | exact spec_tyRead.mono _ _
   | exact spec_tyText.mono _ _ _ _
   | exact LeO.none _
   | refine LeO.ite ?_ ?_
   | refine LeO.bind ?_ (fun _ => ?_)
  ·intro y0 y1 y2 y3 y4 y5
   unfold spec_ReplayOf.l0
   repeat' first
   | (with_reducible exact ih0 _ _ _ _ _)
   | (with_reducible exact ih1 _ _ _ _ _ _)
   | (with_reducible exact spec_puGood.mono _ _ _ _)
   | (with_reducible exact spec_tiDir.mono _ _)
   | (with_reducible exact spec_tiWord.mono _ _)
   | (with_reducible exact spec_tyRead.mono _ _)
   | (with_reducible exact spec_tyText.mono _ _ _ _)
   | (with_reducible exact LeO.refl _)
   | (with_reducible exact LeO.none _)
   | (with_reducible refine LeO.ite ?_ ?_)
   | (with_reducible refine LeO.bind ?_ (fun _ => ?_))
   | exact ih0 _ _ _ _ _
   | exact ih1 _ _ _ _ _ _
   | exact spec_puGood.mono _ _ _ _
   | exact spec_tiDir.mono _ _
   | exact spec_tiWord.mono _ _
   | exact spec_tyRead.mono _ _
   | exact spec_tyText.mono _ _ _ _
   | exact LeO.none _
   | refine LeO.ite ?_ ?_
   | refine LeO.bind ?_ (fun _ => ?_)
theorem spec_ReplayOf.mono : ∀ a0 a1 a2 a3 k, LeO (spec_ReplayOf.f k a0 a1 a2 a3) (spec_ReplayOf.f (k + 1) a0 a1 a2 a3) := by
 intro a0 a1 a2 a3 k
 obtain ⟨ih0, ih1⟩ := spec_ReplayOf.mono_l k
 unfold spec_ReplayOf.f
 repeat' first
   | (with_reducible exact ih0 _ _ _ _ _)
   | (with_reducible exact ih1 _ _ _ _ _ _)
   | (with_reducible exact spec_puGood.mono _ _ _ _)
   | (with_reducible exact spec_tiDir.mono _ _)
   | (with_reducible exact spec_tiWord.mono _ _)
   | (with_reducible exact spec_tyRead.mono _ _)
   | (with_reducible exact spec_tyText.mono _ _ _ _)
   | (with_reducible exact LeO.refl _)
   | (with_reducible exact LeO.none _)
   | (with_reducible refine LeO.ite ?_ ?_)
   | (with_reducible refine LeO.bind ?_ (fun _ => ?_))
   | exact ih0 _ _ _ _ _
   | exact ih1 _ _ _ _ _ _
   | exact spec_puGood.mono _ _ _ _
   | exact spec_tiDir.mono _ _
   | exact spec_tiWord.mono _ _
   | exact spec_tyRead.mono _ _
   | exact spec_tyText.mono _ _ _ _
   | exact LeO.none _
   | refine LeO.ite ?_ ?_
   | refine LeO.bind ?_ (fun _ => ?_)
def spec_ReplayOf.T8 : Bool × List (List Nat × List Nat) := (true, [([], []), ([], []), ([], []), ([], []), ([3], [3]), ([1, 2, 4], [1, 2, 4]), ([5], [5]), ([0, 6, 6], [0, 6]), ([7, 7, 0, 1, 2, 3, 4, 5, 6, 7], [7])])
def spec_ReplayOf.B8 : List Nat := [0, 0, 0, 0, 8, 30, 62, 127, 255]
theorem spec_ReplayOf.tab8 : rtab .any (opsOf Tryz.f44 8) = spec_ReplayOf.T8 := by kernel_rfl
theorem spec_ReplayOf.bits8 : waitsOk spec_ReplayOf.T8.2 spec_ReplayOf.B8 = true := by kernel_rfl
set_option maxHeartbeats 8000000 in
set_option maxRecDepth 100000 in
theorem spec_ReplayOf.calls (k : Nat) (a0_0 : ByteArray) (a0_1 : ByteArray) (a0_2 : Int) (a1 : ByteArray) (r1 : List ByteArray) (r2 : Bool) (w : World) (h : spec_ReplayOf.f k a0_0 a0_1 a0_2 a1 = some (r1, r2)) :
  Calls Tryz.prog 44 #[.agg #[.string a0_0, .string a0_1, .int .i64 a0_2], .string a1] w fun e w' => ∃ v0_ : Value, e = .returned (.tuple #[v0_, .bool r2]) ∧ Kd.R Kd.string 9 w' w.heap.size (fun _ => True) v0_ r1 ∧ Below w.heap.size w w' := by
 have hu56 := Tryz.underlying56
 have hu62 := Tryz.underlying62
 have HB := am (Below.refl w.heap.size w)
 have H : ((spec_puGood.f k a0_0 a0_1 a0_2).bind fun t102 => (if t102 = true then ((spec_tiWord.f k a1).bind fun t103 => (spec_ReplayOf.j0 k a1 (!t103) a0_0 a0_1 a0_2)) else (spec_ReplayOf.j0 k a1 true a0_0 a0_1 a0_2))) = some (r1, r2) := h
 clear h
 have HC3 := am H
 clear H
 go_enter Tryz.func44, Tryz.ntmps44
 go_upto_region 1 with (first | ((with_reducible refine gate_dst (N := 2) rfl ?_); refine box_event ?hg (N := 2) ?hd (cs := #[.string a0_0, .string a0_1, .int .i64 a0_2]) (t := 56) ?hr ?_; (case hd => rfl); (case hg => rfl); (case hr => exact aq9); intro gb101 hg w4 hbox hb; have n0_ := am (below_step aq1 hb); have n1_ := am (hbox); have n2_ := am ((by rw [hg]; exact (below_size aq1) : w.heap.size ≤ gb101)); have n3_ := am ((by rw [hg]; exact (below_size aq1) : w.heap.size ≤ gb101)); clear HB; have HB := n0_; have BK101 := n1_; have GW101 := n2_; have GE101 := n3_; clear n0_ n1_ n2_ n3_; clear hb hbox hg))
 (try simp only [Act.put, List.setIfInBounds_toArray, List.set_cons_zero, List.set_cons_succ])
 go_cut [17] (fun v17 wc => ∃ (kq : Nat) (x17_2 : Bool), v17 = .bool x17_2 ∧ Aside0 (spec_ReplayOf.j0 kq a1 x17_2 a0_0 a0_1 a0_2 = some (r1, r2)) ∧ Aside0 (kq ≤ k) ∧ Aside0 (wc.heap[gb101]? = some (.cells #[.string a0_0, .string a0_1, .int .i64 a0_2] 56 (0, 0))) ∧ Aside0 (Below w.heap.size w wc))
 case first =>
  have H := HC3.out
  clear HC3
  replace H := Option.bind_eq_some_iff.mp H
  obtain ⟨t102, A50, H⟩ := H
  replace H : (if t102 = true then ((spec_tiWord.f k a1).bind fun t103 => (spec_ReplayOf.j0 k a1 (!t103) a0_0 a0_1 a0_2)) else (spec_ReplayOf.j0 k a1 true a0_0 a0_1 a0_2)) = some (r1, r2) := H
  have A5 := am A50
  clear A50
  by_cases c6 : t102 = true
  ·subst c6
   have H1 : ((spec_tiWord.f k a1).bind fun t103 => (spec_ReplayOf.j0 k a1 (!t103) a0_0 a0_1 a0_2)) = some (r1, r2) := by rw [if_pos rfl] at H; exact H
   clear H
   have H := H1
   clear H1
   replace H := Option.bind_eq_some_iff.mp H
   obtain ⟨t103, A70, H⟩ := H
   replace H : (spec_ReplayOf.j0 k a1 (!t103) a0_0 a0_1 a0_2) = some (r1, r2) := H
   have A7 := am A70
   clear A70
   have H' := am H
   clear H
   have hcz8_0 : w4.cell? ⟨gb101, 0, none⟩ = some (.string a0_0) := (blk_cell BK101.out 0).trans rfl
   have hcz8_1 : w4.cell? ⟨gb101, 1, none⟩ = some (.string a0_1) := (blk_cell BK101.out 1).trans rfl
   have hcz8_2 : w4.cell? ⟨gb101, 2, none⟩ = some (.int .i64 a0_2) := (blk_cell BK101.out 2).trans rfl
   have hfz8_0 := blk_frozen BK101.out 0
   have hfz8_1 := blk_frozen BK101.out 1
   have hfz8_2 := blk_frozen BK101.out 2
   go_wp2_with (first | ((with_reducible refine gate_callee (f := 83) rfl ?_); refine goesL_ (some 11) rfl rfl Tryz.func83 (by kernel_rfl) rfl #[.agg #[.string a0_0, .string a0_1, .int .i64 a0_2]] rfl aq3 ?_; (with_reducible refine (spec_puGood.calls k a0_0 a0_1 a0_2 true _ A5.out).mono ?_); rintro e w9 ⟨rfl, hb⟩; refine ⟨_, rfl, ?_⟩; have n0_ := am (blk_below (g := gb101) (o := .cells #[.string a0_0, .string a0_1, .int .i64 a0_2] 56 (0, 0)) aq2 hb); have n1_ := am (below_step aq0 hb); clear BK101; clear HB; have BK101 := n0_; have HB := n1_; clear n0_ n1_; (try clear hb); (try clear hb2); (try clear hk); (try clear hi)) | (go_at_call 84; (with_reducible refine (spec_tiWord.calls k a1 t103 _ A7.out).mono ?_); rintro e w' ⟨rfl, ⟨nd, rfl⟩⟩))
   go_meet
   case rel => exact ⟨_, (!t103), aq8, H', ⟨aq45⟩, ⟨aq2⟩, ⟨aq0⟩⟩
  ·replace c6 := Bool.eq_false_iff.mpr c6
   subst c6
   have H1 : (spec_ReplayOf.j0 k a1 true a0_0 a0_1 a0_2) = some (r1, r2) := by rw [if_neg (show ¬ (false = true) by decide)] at H; exact H
   clear H
   have H := H1
   clear H1
   have H' := am H
   clear H
   have hcz10_0 : w4.cell? ⟨gb101, 0, none⟩ = some (.string a0_0) := (blk_cell BK101.out 0).trans rfl
   have hcz10_1 : w4.cell? ⟨gb101, 1, none⟩ = some (.string a0_1) := (blk_cell BK101.out 1).trans rfl
   have hcz10_2 : w4.cell? ⟨gb101, 2, none⟩ = some (.int .i64 a0_2) := (blk_cell BK101.out 2).trans rfl
   have hfz10_0 := blk_frozen BK101.out 0
   have hfz10_1 := blk_frozen BK101.out 1
   have hfz10_2 := blk_frozen BK101.out 2
   go_wp2_with (first | ((with_reducible refine gate_callee (f := 83) rfl ?_); refine goesL_ (some 11) rfl rfl Tryz.func83 (by kernel_rfl) rfl #[.agg #[.string a0_0, .string a0_1, .int .i64 a0_2]] rfl aq3 ?_; (with_reducible refine (spec_puGood.calls k a0_0 a0_1 a0_2 false _ A5.out).mono ?_); rintro e w11 ⟨rfl, hb⟩; refine ⟨_, rfl, ?_⟩; have n0_ := am (blk_below (g := gb101) (o := .cells #[.string a0_0, .string a0_1, .int .i64 a0_2] 56 (0, 0)) aq2 hb); have n1_ := am (below_step aq0 hb); clear BK101; clear HB; have BK101 := n0_; have HB := n1_; clear n0_ n1_; (try clear hb); (try clear hb2); (try clear hk); (try clear hi)))
   go_meet
   case rel => exact ⟨_, (true), aq8, H', ⟨aq45⟩, ⟨aq2⟩, ⟨aq0⟩⟩
 case rest =>
  clear HC3
  try clear p2
  try clear c4
  try clear c6
  try clear c8
  try clear hcz10_0
  try clear hcz10_1
  try clear hcz10_2
  try clear hcz8_0
  try clear hcz8_1
  try clear hcz8_2
  try clear hfz10_0
  try clear hfz10_1
  try clear hfz10_2
  try clear hfz8_0
  try clear hfz8_1
  try clear hfz8_2
  obtain ⟨kq, x17_2, rfl, HA, HJ2, BK101, HB⟩ := hcut
  cases kq with
  | zero => exact absurd HA.out (by simp [spec_ReplayOf.j0])
  | succ kj2 =>
   have H := HA.out
   clear HA
   simp only [spec_ReplayOf.j0] at H
   by_cases c12 : x17_2 = true
   ·subst c12
    have H1 : (some (([] : List ByteArray), false)) = some (r1, r2) := by rw [if_pos rfl] at H; exact H
    clear H
    have H := H1
    clear H1
    simp only [Option.some.injEq, Prod.mk.injEq] at H
    obtain ⟨rfl, rfl⟩ := H
    go_wp2
    go_ret2
    exact ⟨_, aq7, aq22, aq0⟩
   ·replace c12 := Bool.eq_false_iff.mpr c12
    subst c12
    have H1 : ((spec_tyRead.f kj2 a0_0).bind fun bt104 => (spec_ReplayOf.l0 kj2 a1 (([a0_0] : List ByteArray)) 0 bt104.1 bt104.2.1 bt104.2.2.1)) = some (r1, r2) := by rw [if_neg (show ¬ (false = true) by decide)] at H; exact H
    clear H
    have H := H1
    clear H1
    replace H := Option.bind_eq_some_iff.mp H
    obtain ⟨⟨t104, t105, t106, t109⟩, A130, H⟩ := H
    replace H : (spec_ReplayOf.l0 kj2 a1 (([a0_0] : List ByteArray)) 0 t104 t105 t106) = some (r1, r2) := H
    have A13 := am A130
    clear A130
    obtain ⟨y111, hy111⟩ : ∃ y_ : List ByteArray, y_ = (([a0_0] : List ByteArray)) := ⟨_, rfl⟩
    replace H : (spec_ReplayOf.l0 kj2 a1 y111 0 t104 t105 t106) = some (r1, r2) := by first | (rw [hy111]; with_reducible exact H) | (have H2_ := (Option.bind_some _ _).symm.trans H; rw [hy111]; with_reducible exact H2_) | (have H2_ := (Option.bind_some _ _).symm.trans H; with_reducible exact H2_) | with_reducible exact H | (rw [hy111]; exact H) | exact H
    have Ny111 := am hy111
    clear hy111
    have H' := am H
    clear H
    have hcz14_0 : wc.cell? ⟨gb101, 0, none⟩ = some (.string a0_0) := (blk_cell BK101.out 0).trans rfl
    have hcz14_1 : wc.cell? ⟨gb101, 1, none⟩ = some (.string a0_1) := (blk_cell BK101.out 1).trans rfl
    have hcz14_2 : wc.cell? ⟨gb101, 2, none⟩ = some (.int .i64 a0_2) := (blk_cell BK101.out 2).trans rfl
    have hfz14_0 := blk_frozen BK101.out 0
    have hfz14_1 := blk_frozen BK101.out 1
    have hfz14_2 := blk_frozen BK101.out 2
    go_wp2_with (first | ((with_reducible refine gate_callee (f := 51) rfl ?_); refine goesL_ (some 21) rfl rfl Tryz.func51 (by kernel_rfl) rfl #[.string a0_0] rfl aq3 ?_; (with_reducible refine (spec_tyRead.calls kj2 a0_0 t104 t105 t106 t109 _ A13.out).mono ?_); rintro e w15 ⟨v107, rfl, ho0, hb⟩; refine ⟨_, rfl, ?_⟩; have n0_ := am (Kd.R_lower ho0 (below_size aq0)); have n1_ := am (blk_below (g := gb101) (o := .cells #[.string a0_0, .string a0_1, .int .i64 a0_2] 56 (0, 0)) aq2 hb); have n2_ := am (below_step aq0 hb); clear BK101; clear HB; have HO108 := n0_; have BK101 := n1_; have HB := n2_; clear n0_ n1_ n2_; (try clear hb); (try clear hb2); (try clear hk); (try clear hi); (try clear ho0)) | ((with_reducible refine gate_dst (N := 6) rfl ?_); refine box_event ?hg (N := 6) ?hd (cs := #[.int .i64 0, .int .i64 0, .slice none 0 0]) (t := 62) ?hr ?_; (case hd => rfl); (case hg => rfl); (case hr => exact aq9); intro gb110 hg w16 hbox hb; have n0_ := am (Kd.R_below aq38 hb); have n1_ := am (blk_below (g := gb101) (o := .cells #[.string a0_0, .string a0_1, .int .i64 a0_2] 56 (0, 0)) aq2 hb); have n2_ := am (below_step aq0 hb); have n3_ := am (hbox); have n4_ := am ((by rw [hg]; exact (below_size aq0) : w.heap.size ≤ gb110)); have n5_ := am ((by rw [hg]; exact (below_size aq0) : w.heap.size ≤ gb110)); have n6_ := am ((by rw [hg]; exact Nat.ne_of_lt (blk_lt (g := gb101) (o := .cells #[.string a0_0, .string a0_1, .int .i64 a0_2] 56 (0, 0)) aq2) : gb101 ≠ gb110)); have n7_ := am ((by rw [hg]; exact Nat.ne_of_gt (blk_lt (g := gb101) (o := .cells #[.string a0_0, .string a0_1, .int .i64 a0_2] 56 (0, 0)) aq2) : gb110 ≠ gb101)); clear HO108; clear BK101; clear HB; have HO108 := n0_; have BK101 := n1_; have HB := n2_; have BK110 := n3_; have GW110 := n4_; have GE110 := n5_; have NB101_110 := n6_; have NB110_101 := n7_; clear n0_ n1_ n2_ n3_ n4_ n5_ n6_ n7_; clear hb hbox hg; have hnb17 := NB110_101.out; have hnc17 := NB101_110.out; have hcz18_0 : w16.cell? ⟨gb110, 0, none⟩ = some (.int .i64 0) := (blk_cell BK110.out 0).trans rfl; have hcz18_1 : w16.cell? ⟨gb110, 1, none⟩ = some (.int .i64 0) := (blk_cell BK110.out 1).trans rfl; have hcz18_2 : w16.cell? ⟨gb110, 2, none⟩ = some (.slice none 0 0) := (blk_cell BK110.out 2).trans rfl; have hfz18_0 := blk_frozen BK110.out 0; have hfz18_1 := blk_frozen BK110.out 1; have hfz18_2 := blk_frozen BK110.out 2; obtain ⟨Ao19, co19, eo19⟩ := Kd.R_slice HO108.out; subst eo19; have hcz20_0 : w16.cell? ⟨gb101, 0, none⟩ = some (.string a0_0) := (blk_cell BK101.out 0).trans rfl; have hcz20_1 : w16.cell? ⟨gb101, 1, none⟩ = some (.string a0_1) := (blk_cell BK101.out 1).trans rfl; have hcz20_2 : w16.cell? ⟨gb101, 2, none⟩ = some (.int .i64 a0_2) := (blk_cell BK101.out 2).trans rfl; have hfz20_0 := blk_frozen BK101.out 0; have hfz20_1 := blk_frozen BK101.out 1; have hfz20_2 := blk_frozen BK101.out 2) | ((with_reducible refine gate_dst (N := 26) rfl ?_); refine Kd.R_lit Kd.string _ 9 ?hg (N := 26) ?hd (xs := ([a0_0] : List ByteArray)) (inner := [.string a0_0]) (ok := fun _ => True) (okp := fun _ => True) ?hr ?hp (fun _ hk => hk) trivial (Below.refl _ _) (Nat.le_refl _) (by simp) ?_; (case hd => rfl); (case hg => rfl); (case hr => exact aq9); (case hp => exact (Reps.one (show Kd.M Kd.string _ _ _ a0_0 [.string a0_0] from rfl) (Reps.none _ _))); intro v112 w21 ho22 hb hg_ hnew_; clear hg_ hnew_; (first | rw [← Ny111.out] at ho22 | (simp only [Int.reduceToNat] at ho22; rw [← Ny111.out] at ho22)); have n0_ := am (Kd.R_below (by (with_reducible repeat (first | apply Kd.R_alloc | apply Kd.R_drewN | apply Kd.R_drew)); exact (Kd.R_mono (Kd.R_far (p := ⟨gb110, 2, none⟩) (Kd.R_far (p := ⟨gb110, 1, none⟩) (Kd.R_far (p := ⟨gb110, 0, none⟩) (Kd.R_types HO108.out BK110.out (by decide)) (fun _ hk => hk.2) (.int .i64 t104)) (fun _ hk => hk.2) (.int .i64 t105)) (fun _ hk => hk.2) (.slice Ao19 t106.length co19)) (fun _ h_ => h_.1))) hb); have n1_ := am (Kd.R_lower ho22 (below_size aq16)); have n2_ := am (blk_below (g := gb101) (o := .cells #[.string a0_0, .string a0_1, .int .i64 a0_2] 56 (0, 0)) aq34 hb); have n3_ := am (blk_below (g := gb110) (o := .cells #[.int .i64 t104, .int .i64 t105, .slice Ao19 t106.length co19] 62 (0, 0)) (by (with_reducible repeat (first | refine blk_drewN ?_ _ | refine blk_drew ?_ | refine blk_alloc ?_ _)); refine blk_put (cs := #[.int .i64 t104, .int .i64 t105, .slice none 0 0]) ?_ 2 _ rfl; (with_reducible repeat (first | refine blk_drewN ?_ _ | refine blk_drew ?_ | refine blk_alloc ?_ _)); refine blk_put (cs := #[.int .i64 t104, .int .i64 0, .slice none 0 0]) ?_ 1 _ rfl; (with_reducible repeat (first | refine blk_drewN ?_ _ | refine blk_drew ?_ | refine blk_alloc ?_ _)); refine blk_put (cs := #[.int .i64 0, .int .i64 0, .slice none 0 0]) ?_ 0 _ rfl; (with_reducible repeat (first | refine blk_drewN ?_ _ | refine blk_drew ?_ | refine blk_alloc ?_ _)); exact BK110.out) hb); have n4_ := am (below_step aq16 hb); clear HO108; clear BK101; clear BK110; clear HB; have HO108 := n0_; have HO113 := n1_; have BK101 := n2_; have BK110 := n3_; have HB := n4_; clear n0_ n1_ n2_ n3_ n4_; clear hb ho22))
    go_loopg [8, 9] kj2 (fun kq v8 v9 w' => ∃ (x8_2 : List ByteArray) (x9_2 : Int) (x111000_2 : Int) (x111001_2 : Int) (x111002_2 : List Int) (u111002 : Value), v9 = .int .i64 x9_2 ∧ Aside0 (spec_ReplayOf.l0 kq a1 x8_2 x9_2 x111000_2 x111001_2 x111002_2 = some (r1, r2)) ∧ Aside0 (kq ≤ kj2) ∧ Aside0 (Kd.R Kd.string 9 w' w.heap.size (fun _ => True) v8 x8_2) ∧ Aside0 (Kd.R (Kd.int .u8) 5 w' w.heap.size (fun _ => True) u111002 x111002_2) ∧ Aside0 (w'.heap[gb101]? = some (.cells #[.string a0_0, .string a0_1, .int .i64 a0_2] 56 (0, 0))) ∧ Aside0 (w'.heap[gb110]? = some (.cells #[.int .i64 x111000_2, .int .i64 x111001_2, u111002] 62 (0, 0))) ∧ Aside0 (Below w.heap.size w w'))
    case atStart => exact ⟨(y111), (0), (t104), (t105), (t106), (.slice Ao19 t106.length co19), aq8, H', ⟨Nat.le_refl _⟩, ⟨by (with_reducible repeat (first | apply Kd.R_alloc | apply Kd.R_drewN | apply Kd.R_drew)); exact HO113.out⟩, ⟨aq38⟩, ⟨aq2⟩, ⟨aq44⟩, ⟨aq16⟩⟩
    case round =>
     clear H'
     try clear c1
     try clear p2
     try clear c4
     try clear c5
     try clear c6
     try clear c8
     try clear c12
     try clear c17
     try clear hcz10_0
     try clear hcz10_1
     try clear hcz10_2
     try clear hcz14_0
     try clear hcz14_1
     try clear hcz14_2
     try clear hcz18_0
     try clear hcz18_1
     try clear hcz18_2
     try clear hcz20_0
     try clear hcz20_1
     try clear hcz20_2
     try clear hcz8_0
     try clear hcz8_1
     try clear hcz8_2
     try clear hfz10_0
     try clear hfz10_1
     try clear hfz10_2
     try clear hfz14_0
     try clear hfz14_1
     try clear hfz14_2
     try clear hfz18_0
     try clear hfz18_1
     try clear hfz18_2
     try clear hfz20_0
     try clear hfz20_1
     try clear hfz20_2
     try clear hfz8_0
     try clear hfz8_1
     try clear hfz8_2
     try clear p2
     obtain ⟨x8_2, x9_2, x111000_2, x111001_2, x111002_2, u111002, rfl, HA, HK2, HO_8, HO_111002, BK101, BK110, HB⟩ := hrel
     cases gk with
     | zero => exact absurd HA.out (by simp [spec_ReplayOf.l0])
     | succ k2 =>
      have H := HA.out
      clear HA
      simp only [spec_ReplayOf.l0] at H
      by_cases c23 : x9_2 < (a1.size : Int)
      ·rw [if_pos c23] at H
       have c23b0 : decide (x9_2 < (a1.size : Int)) = true := decide_eq_true c23
       clear c23
       by_cases c24 : 0 ≤ x9_2
       ·rw [if_pos c24] at H
        have c24b0 := eq_true c24
        have c24b1 : decide (0 ≤ x9_2) = true := decide_eq_true c24
        clear c24
        by_cases c25 : x9_2 ≤ (wrap64 (x9_2 + 1))
        ·rw [if_pos c25] at H
         have c25b0 := eq_true c25
         have c25b1 : decide (x9_2 ≤ (wrap64 (x9_2 + 1))) = true := decide_eq_true c25
         by_cases c26 : (wrap64 (x9_2 + 1)) ≤ (a1.size : Int)
         ·rw [if_pos c26] at H
          have c26b0 := eq_true c26
          have c26b1 : decide ((wrap64 (x9_2 + 1)) ≤ (a1.size : Int)) = true := decide_eq_true c26
          replace H := Option.bind_eq_some_iff.mp H
          obtain ⟨t114, A270, H⟩ := H
          replace H : ((spec_tiTilt.f x111000_2 x111001_2 x111002_2 t114).bind fun bt115 => ((spec_tyText.f k2 bt115.1 bt115.2.1 bt115.2.2).bind fun t120 => (if x8_2.length < 8796093022208 then (spec_ReplayOf.l0 k2 a1 (x8_2 ++ [t120]) (wrap64 (x9_2 + 1)) bt115.1 bt115.2.1 bt115.2.2) else (none)))) = some (r1, r2) := H
          have A27 := am A270
          clear A270
          replace H := Option.bind_eq_some_iff.mp H
          obtain ⟨⟨t115, t116, t117⟩, A280, H⟩ := H
          replace H : ((spec_tyText.f k2 t115 t116 t117).bind fun t120 => (if x8_2.length < 8796093022208 then (spec_ReplayOf.l0 k2 a1 (x8_2 ++ [t120]) (wrap64 (x9_2 + 1)) t115 t116 t117) else (none))) = some (r1, r2) := H
          have A28 := am A280
          clear A280
          replace H := Option.bind_eq_some_iff.mp H
          obtain ⟨t120, A290, H⟩ := H
          replace H : (if x8_2.length < 8796093022208 then (spec_ReplayOf.l0 k2 a1 (x8_2 ++ [t120]) (wrap64 (x9_2 + 1)) t115 t116 t117) else (none)) = some (r1, r2) := H
          have A29 := am A290
          clear A290
          by_cases c30 : x8_2.length < 8796093022208
          ·rw [if_pos c30] at H
           have LMc30 := am c30
           clear c30
           obtain ⟨y121, hy121⟩ : ∃ y_ : List ByteArray, y_ = (x8_2 ++ [t120]) := ⟨_, rfl⟩
           replace H : (spec_ReplayOf.l0 k2 a1 y121 (wrap64 (x9_2 + 1)) t115 t116 t117) = some (r1, r2) := by first | (rw [hy121]; with_reducible exact H) | (have H2_ := (Option.bind_some _ _).symm.trans H; rw [hy121]; with_reducible exact H2_) | (have H2_ := (Option.bind_some _ _).symm.trans H; with_reducible exact H2_) | with_reducible exact H | (rw [hy121]; exact H) | exact H
           have Ny121 := am hy121
           clear hy121
           have H' := am H
           clear H
           try go_wp2
           have n0_ := am (Kd.R_drew HO_8.out)
           have n1_ := am (Kd.R_drew HO_111002.out)
           have n2_ := am (blk_drew BK101.out)
           have n3_ := am (blk_drew BK110.out)
           have n4_ := am (below_drew1 HB.out)
           clear HO_8
           clear HO_111002
           clear BK101
           clear BK110
           clear HB
           have HO_8 := n0_
           have HO_111002 := n1_
           have BK101 := n2_
           have BK110 := n3_
           have HB := n4_
           clear n0_ n1_ n2_ n3_ n4_
           refine start_ (n := 9) (S := fun w' => w'.cell? ⟨gb110, 0, none⟩ = some (.int .i64 x111000_2) ∧ w'.cell? ⟨gb110, 1, none⟩ = some (.int .i64 x111001_2) ∧ w'.cell? ⟨gb110, 2, none⟩ = some (u111002)) (ds := [8]) #[false, false, false, false, false, false, false, false, false] (by kernel_rfl) rfl rfl ⟨(blk_cell BK110.out 0).trans rfl, (blk_cell BK110.out 1).trans rfl, (blk_cell BK110.out 2).trans rfl⟩ (fun hHeld => ?_); refine with_tabW spec_ReplayOf.tab8 spec_ReplayOf.bits8 (fun HT_ HW_ => ?_)
           generalize wr.drew = w31 at HO_8 HO_111002 BK101 BK110 HB hHeld ⊢
           refine pure_ (i := 1) (N := some 34) (v := ?_) (a' := ?_) (bm 9 2) rfl rfl (any_of HT_.out (by kernel_rfl)) (fun _ _ _ h => h) (Or.inl ⟨by rfl, ?_⟩) ?_ ?_
           rotate_left
           ·intro w'
            go_simp
            with_reducible rfl
           rotate_left
           ·simp only [Act.put, ac_]
            rfl
           refine pure_ (i := 2) (N := some 35) (v := ?_) (a' := ?_) (bm 9 6) rfl rfl (any_of HT_.out (by kernel_rfl)) (fun _ _ _ h => h) (Or.inl ⟨by rfl, ?_⟩) ?_ ?_
           rotate_left
           ·intro w'
            go_simp
            with_reducible rfl
           rotate_left
           ·simp only [Act.put, ac_]
            rfl
           refine pure_ (i := 3) (N := some 36) (v := ?_) (a' := ?_) (bm 9 14) rfl rfl (any_of HT_.out (by kernel_rfl)) (fun _ _ _ h => h) (Or.inl ⟨by rfl, ?_⟩) ?_ ?_
           rotate_left
           ·intro w'
            go_simp
            with_reducible rfl
           rotate_left
           ·simp only [Act.put, ac_]
            rfl
           refine pure_ (i := 4) (N := some 37) (v := ?_) (a' := ?_) (bm 9 30) rfl rfl (any_of HT_.out (by kernel_rfl)) (fun _ _ _ h => h) (Or.inl ⟨by rfl, ?_⟩) ?_ ?_
           rotate_left
           ·intro w'
            go_simp
            with_reducible rfl
           rotate_left
           ·simp only [Act.put, ac_]
            rfl
           refine pure_ (i := 5) (N := some 38) (v := ?_) (a' := ?_) (bm 9 62) rfl rfl (any_of HT_.out (by kernel_rfl)) (fun _ _ _ h => h) (Or.inl ⟨by rfl, ?_⟩) ?_ ?_
           rotate_left
           ·intro w'
            go_simp
            with_reducible rfl
           rotate_left
           ·simp only [Act.put, ac_]
            rfl
           refine take_ (i := 0) (N := some 33) (v := ?_) (a' := ?_) (bm 9 63) rfl rfl (take_ofW HT_.out HW_.out (by kernel_rfl)) (fun _ _ _ h => h) (Or.inl ⟨by rfl, ?_⟩) hHeld ?_ ?_
           rotate_left
           ·rintro w' ⟨s0, s1, s2⟩
            go_simp
            with_reducible rfl
           rotate_left
           ·simp only [Act.put, ac_]
            rfl
           refine one_ (i := 6) (N := some 39) (bm 9 127) rfl rfl (one_of HT_.out (by kernel_rfl)) (by decide) (fun K hK => ?_)
           refine goes_ Tryz.func86 (by kernel_rfl) rfl #[.string (a1.extract (x9_2 : Int).toNat ((wrap64 (x9_2 + 1)) : Int).toNat)] (by rfl) rfl rfl aq3 ?_
           with_reducible refine (spec_tiDir.calls k2 (a1.extract (x9_2 : Int).toNat ((wrap64 (x9_2 + 1)) : Int).toNat) t114 _ A27.out).mono ?_
           rintro e w' ⟨rfl, ⟨nd, rfl⟩⟩
           refine ⟨_, rfl, ?_⟩
           obtain ⟨Ao32, co32, eo32⟩ := Kd.R_slice HO_111002.out
           (first | subst eo32 | (injection eo32 with f1_ f2_ f3_; have f4_ := f1_.symm; have f5_ := f3_.symm; clear f1_ f2_ f3_; subst f4_; subst f5_))
           refine hK.out _ _ ⟨(blk_cell BK110.out 0).trans rfl, (blk_cell BK110.out 1).trans rfl, (blk_cell BK110.out 2).trans rfl⟩ (fun hHeld => ?_)
           clear hK K
           refine norm_ (a' := ?_) ?_ ?_
           rotate_left
           ·show Act.put _ (some 39) _ = _
            simp only [Act.put, ac_]
            rfl
           refine one_ (i := 7) (N := some 40) (bm 9 255) rfl rfl (one_of HT_.out (by kernel_rfl)) (by decide) (fun K hK => ?_)
           refine goes_ Tryz.func85 (by kernel_rfl) rfl #[.agg #[.int .i64 x111000_2, .int .i64 x111001_2, .slice Ao32 x111002_2.length co32], .int .i64 t114] (by rfl) rfl rfl aq3 ?_
           with_reducible refine (spec_tiTilt.calls x111000_2 x111001_2 _ _ x111002_2 t114 t115 t116 t117 _ ?side1 ?side2 A28.out).mono ?_
           (case side1 => repeat (first | exact (Kd.R_reads' HO_111002.out).2.2 | (with_reducible refine Kd.C_alloc ?_ _) | (with_reducible refine Kd.C_drewN ?_ _) | (with_reducible refine Kd.C_drew ?_)))
           (case side2 => exact (Kd.R_reads' HO_111002.out).2.1)
           rintro e w33 ⟨v118, rfl, ho0, hb⟩
           refine ⟨_, rfl, ?_⟩
           have n0_ := am (Kd.R_below aq12 hb)
           have n1_ := am (Kd.R_elder' aq52 (Kd.R_base ho0) hb)
           have n2_ := am (Kd.R_lower (Kd.R_new' ho0 (Kd.R_lt aq52)) (below_size aq16))
           have n3_ := am (blk_below (g := gb101) (o := .cells #[.string a0_0, .string a0_1, .int .i64 a0_2] 56 (0, 0)) aq2 hb)
           have n4_ := am (blk_below (g := gb110) (o := .cells #[.int .i64 x111000_2, .int .i64 x111001_2, .slice Ao32 x111002_2.length co32] 62 (0, 0)) aq44 hb)
           have n5_ := am (below_step aq16 hb)
           clear HO_8
           clear HO_111002
           clear BK101
           clear BK110
           clear HB
           have HO_8 := n0_
           have HO_111002 := n1_
           have HO119 := n2_
           have BK101 := n3_
           have BK110 := n4_
           have HB := n5_
           clear n0_ n1_ n2_ n3_ n4_ n5_
           (try clear hb)
           (try clear hb2)
           (try clear hk)
           (try clear hi)
           (try clear ho0)
           obtain ⟨Ao36, co36, eo36⟩ := Kd.R_slice HO119.out
           (first | subst eo36 | (injection eo36 with f1_ f2_ f3_; have f4_ := f1_.symm; have f5_ := f3_.symm; clear f1_ f2_ f3_; subst f4_; subst f5_))
           refine hK.out _ _ ⟨(blk_cell BK110.out 0).trans rfl, (blk_cell BK110.out 1).trans rfl, (blk_cell BK110.out 2).trans rfl⟩ (fun hHeld => ?_)
           clear hK K
           refine norm_ (a' := ?_) ?_ ?_
           rotate_left
           ·show Act.put _ (some 40) _ = _
            simp only [Act.put, ac_]
            rfl
           refine last_ (i := 8) (N := none) (bm 9 511) rfl rfl (one_of HT_.out (by kernel_rfl)) (by decide) (fun K hK => ?_)
           have hs34 : w33.cell? ⟨gb110, 0, none⟩ = some (.int .i64 x111000_2) := (blk_cell BK110.out 0).trans rfl
           have hfs34 := blk_frozen BK110.out 0
           have hns34_0 := NB101_110.out
           have hms34_0 := NB110_101.out
           have hs35 : w33.cell? ⟨gb110, 1, none⟩ = some (.int .i64 x111001_2) := (blk_cell BK110.out 1).trans rfl
           have hfs35 := blk_frozen BK110.out 1
           have hns35_0 := NB101_110.out
           have hms35_0 := NB110_101.out
           have hs37 : w33.cell? ⟨gb110, 2, none⟩ = some (.slice Ao32 x111002_2.length co32) := (blk_cell BK110.out 2).trans rfl
           have hfs37 := blk_frozen BK110.out 2
           have hns37_0 := NB101_110.out
           have hms37_0 := NB110_101.out
           refine skip_ (w1 := ?_) (by rfl) rfl ?_ ?_
           rotate_left
           ·go_simp
            rfl
           refine hK.out _ _ ?_
           clear hK K
           refine done_ (done_of HT_.out (by kernel_rfl)) ?_
           have hnb38 := NB110_101.out
           have hnc38 := NB101_110.out
           have hcz39_0 : w33.cell? ⟨gb110, 0, none⟩ = some (.int .i64 x111000_2) := (blk_cell BK110.out 0).trans rfl
           have hcz39_1 : w33.cell? ⟨gb110, 1, none⟩ = some (.int .i64 x111001_2) := (blk_cell BK110.out 1).trans rfl
           have hcz39_2 : w33.cell? ⟨gb110, 2, none⟩ = some (.slice Ao32 x111002_2.length co32) := (blk_cell BK110.out 2).trans rfl
           have hfz39_0 := blk_frozen BK110.out 0
           have hfz39_1 := blk_frozen BK110.out 1
           have hfz39_2 := blk_frozen BK110.out 2
           try go_wp2_with (first | ((with_reducible refine gate_callee (f := 87) rfl ?_); refine goesL_ (some 43) rfl rfl Tryz.func87 (by kernel_rfl) rfl #[.agg #[.int .i64 t115, .int .i64 t116, .slice Ao36 t117.length co36]] rfl aq3 ?_; (with_reducible refine (spec_tyText.calls k2 t115 t116 _ _ t117 t120 _ ?side1 ?side2 A29.out).mono ?_); (case side1 => refine (Kd.R_reads' (e := 5) (base := w.heap.size) (ok := fun k_ => (True ∧ some k_ ≠ (.slice Ao32 x111002_2.length co32 : Value).ownBlock)) (n := t117.length) (c := co36) ?_).2.2; exact aq43); (case side2 => exact (Kd.R_reads' HO119.out).2.1); rintro e w40 ⟨rfl, hb⟩; refine ⟨_, rfl, ?_⟩; have n0_ := am (Kd.R_below (by (with_reducible repeat (first | apply Kd.R_alloc | apply Kd.R_drewN | apply Kd.R_drew)); exact (Kd.R_mono (Kd.R_far (p := ⟨gb110, 2, none⟩) (Kd.R_far (p := ⟨gb110, 1, none⟩) (Kd.R_far (p := ⟨gb110, 0, none⟩) (Kd.R_types HO_8.out BK110.out (by decide)) (fun _ hk => hk.2) (.int .i64 t115)) (fun _ hk => hk.2) (.int .i64 t116)) (fun _ hk => hk.2) (.slice Ao36 t117.length co36)) (fun _ h_ => h_.1))) hb); have n1_ := am (Kd.R_below (by (with_reducible repeat (first | apply Kd.R_alloc | apply Kd.R_drewN | apply Kd.R_drew)); exact (Kd.R_mono (Kd.R_far (p := ⟨gb110, 2, none⟩) (Kd.R_far (p := ⟨gb110, 1, none⟩) (Kd.R_far (p := ⟨gb110, 0, none⟩) (Kd.R_types HO_111002.out BK110.out (by decide)) (fun _ hk => hk.2) (.int .i64 t115)) (fun _ hk => hk.2) (.int .i64 t116)) (fun _ hk => hk.2) (.slice Ao36 t117.length co36)) (fun _ h_ => h_.1))) hb); have n2_ := am (Kd.R_below aq43 hb); have n3_ := am (blk_below (g := gb101) (o := .cells #[.string a0_0, .string a0_1, .int .i64 a0_2] 56 (0, 0)) aq34 hb); have n4_ := am (blk_below (g := gb110) (o := .cells #[.int .i64 t115, .int .i64 t116, .slice Ao36 t117.length co36] 62 (0, 0)) (by (with_reducible repeat (first | refine blk_drewN ?_ _ | refine blk_drew ?_ | refine blk_alloc ?_ _)); refine blk_put (cs := #[.int .i64 t115, .int .i64 t116, .slice Ao32 x111002_2.length co32]) ?_ 2 _ rfl; (with_reducible repeat (first | refine blk_drewN ?_ _ | refine blk_drew ?_ | refine blk_alloc ?_ _)); refine blk_put (cs := #[.int .i64 t115, .int .i64 x111001_2, .slice Ao32 x111002_2.length co32]) ?_ 1 _ rfl; (with_reducible repeat (first | refine blk_drewN ?_ _ | refine blk_drew ?_ | refine blk_alloc ?_ _)); refine blk_put (cs := #[.int .i64 x111000_2, .int .i64 x111001_2, .slice Ao32 x111002_2.length co32]) ?_ 0 _ rfl; (with_reducible repeat (first | refine blk_drewN ?_ _ | refine blk_drew ?_ | refine blk_alloc ?_ _)); exact BK110.out) hb); have n5_ := am (below_step aq16 hb); clear HO_8; clear HO_111002; clear HO119; clear BK101; clear BK110; clear HB; have HO_8 := n0_; have HO_111002 := n1_; have HO119 := n2_; have BK101 := n3_; have BK110 := n4_; have HB := n5_; clear n0_ n1_ n2_ n3_ n4_ n5_; (try clear hb); (try clear hb2); (try clear hk); (try clear hi)) | ((with_reducible refine gate_builtin (b := .append) (xs := #[.tmp 41, .tmp 44]) rfl ?_); at_builtin; refine Kd.R_append Kd.string (w0 := w) w.heap.size rfl (.tmp 41) (.tmp 44) 22 9 (.string ⟨#[]⟩) 16 rfl Tryz.underlying22 info9 rfl (by decide) (by omega) u8 x8_2 t120 [.string t120] (fun _ => True) (fun _ => False) rfl rfl ?aP (fun _ hk => hk.elim) ?aF ?aO ?aB ?aS ?aL ?_; (case aP => exact rfl); (case aB => exact aq16); (case aF => exact aq47); (case aO => exact aq12); (case aS => exact (below_size aq16)); (case aL => have := LMc30.out; omega); intro v122 w41 ho hb hg hat; rw [← Ny121.out] at ho; have n0_ := am (Kd.R_over' aq52 (Kd.R_typed aq12) (by decide) hg); have n1_ := am (blk_grown (g := gb101) (o := .cells #[.string a0_0, .string a0_1, .int .i64 a0_2] 56 (0, 0)) aq2 hg (Kd.R_ne HO_8.out BK101.out (by decide))); have n2_ := am (blk_grown (g := gb110) (o := .cells #[.int .i64 t115, .int .i64 t116, .slice Ao36 t117.length co36] 62 (0, 0)) aq44 hg (Kd.R_ne HO_8.out BK110.out (by decide))); have n3_ := am (Kd.R_over' (by (with_reducible repeat (first | apply Kd.R_alloc | apply Kd.R_drewN | apply Kd.R_drew)); exact HO119.out) (Kd.R_typed aq12) (by decide) hg); have n4_ := am (hb); have n5_ := am (ho); clear HO_111002; clear BK101; clear BK110; clear HO119; clear HB; clear HO_8; have HO_111002 := n0_; have BK101 := n1_; have BK110 := n2_; have HO119 := n3_; have HB := n4_; have HO123 := n5_; clear n0_ n1_ n2_ n3_ n4_ n5_; clear ho hb hg hat))
           go_roundg k2
           case measure => have := HJ2.out; have := HK2.out; omega
           case rel => exact ⟨(y121), (wrap64 (x9_2 + 1)), (t115), (t116), (t117), (.slice Ao36 t117.length co36), aq8, H', ⟨by have := HJ2.out; have := HK2.out; omega⟩, ⟨by (with_reducible repeat (first | apply Kd.R_alloc | apply Kd.R_drewN | apply Kd.R_drew)); exact HO123.out⟩, ⟨by (with_reducible repeat (first | apply Kd.R_alloc | apply Kd.R_drewN | apply Kd.R_drew)); exact Kd.R_mono HO119.out (fun _ hk => trivial)⟩, ⟨aq2⟩, ⟨aq44⟩, ⟨aq16⟩⟩
          ·rw [if_neg c30] at H
           exact absurd H (by simp)
         ·rw [if_neg c26] at H
          exact absurd H (by simp)
        ·rw [if_neg c25] at H
         exact absurd H (by simp)
       ·rw [if_neg c24] at H
        exact absurd H (by simp)
      ·rw [if_neg c23] at H
       have c23b0 : decide (x9_2 < (a1.size : Int)) = false := decide_eq_false c23
       clear c23
       simp only [Option.some.injEq, Prod.mk.injEq] at H
       obtain ⟨rfl, rfl⟩ := H
       go_wp2
       go_ret2
       exact ⟨_, aq7, aq12, aq16⟩
mutual
def impl_ReplayOf.j0 : Nat → ByteArray → Bool → ByteArray → ByteArray → Int → Option (List ByteArray × Bool)
 | 0, _, _, _, _, _ => none
 | k + 1, x1, x15, x102000, x102001, x102002 => if x15 = true then (some (([] : List ByteArray), false)) else (impl_ReplayOf.l0 k x1 (([] : List ByteArray)) (wrap64 ((x1.size : Int) + 1)) 0 x102000 x102001 x102002)
def impl_ReplayOf.l0 : Nat → ByteArray → List ByteArray → Int → Int → ByteArray → ByteArray → Int → Option (List ByteArray × Bool)
 | 0, _, _, _, _, _, _, _ => none
 | k + 1, x1, x6, x19, x20, x102000, x102001, x102002 => if x20 < x19 then ((impl_read.f x102000).bind fun bt107 => (if 0 ≤ x20 then (if x20 ≤ (x1.size : Int) then ((impl_tray_tiltedAll.f k bt107.1 bt107.2.1 bt107.2.2 (x1.extract 0 (x20 : Int).toNat)).bind fun bt112 => ((impl_tray_text.f bt112.1 bt112.2.1 bt112.2.2).bind fun t117 => (if x6.length < 8796093022208 then (impl_ReplayOf.l0 k x1 (x6 ++ [t117]) x19 (wrap64 (x20 + 1)) x102000 x102001 x102002) else (none)))) else (none)) else (none))) else (some (x6, true))
end
def impl_ReplayOf.f (k : Nat) (a0_0 : ByteArray) (a0_1 : ByteArray) (a0_2 : Int) (a1 : ByteArray) : Option (List ByteArray × Bool) := (impl_IsPuzzle.f k a0_0 a0_1 a0_2).bind fun t102 => (if t102 = true then ((impl_IsWord.f a1).bind fun t103 => (impl_ReplayOf.j0 k a1 (!t103) a0_0 a0_1 a0_2)) else (impl_ReplayOf.j0 k a1 true a0_0 a0_1 a0_2))
theorem impl_ReplayOf.mono_l : ∀ k, (∀ y0 y1 y2 y3 y4, LeO (impl_ReplayOf.j0 k y0 y1 y2 y3 y4) (impl_ReplayOf.j0 (k + 1) y0 y1 y2 y3 y4)) ∧ (∀ y0 y1 y2 y3 y4 y5 y6, LeO (impl_ReplayOf.l0 k y0 y1 y2 y3 y4 y5 y6) (impl_ReplayOf.l0 (k + 1) y0 y1 y2 y3 y4 y5 y6))
 | 0 => ⟨fun _ _ _ _ _ r h => by simp [impl_ReplayOf.j0] at h, fun _ _ _ _ _ _ _ r h => by simp [impl_ReplayOf.l0] at h⟩
 | k + 1 => by
  obtain ⟨ih0, ih1⟩ := impl_ReplayOf.mono_l k
  refine ⟨?_, ?_⟩
  ·intro y0 y1 y2 y3 y4
   unfold impl_ReplayOf.j0
   repeat' first
   | (with_reducible exact ih0 _ _ _ _ _)
   | (with_reducible exact ih1 _ _ _ _ _ _ _)
   | (with_reducible exact impl_IsPuzzle.mono _ _ _ _)
   | (with_reducible exact impl_tray_tiltedAll.mono _ _ _ _ _)
   | (with_reducible exact LeO.refl _)
   | (with_reducible exact LeO.none _)
   | (with_reducible refine LeO.ite ?_ ?_)
   | (with_reducible refine LeO.bind ?_ (fun _ => ?_))
   | exact ih0 _ _ _ _ _
   | exact ih1 _ _ _ _ _ _ _
   | exact impl_IsPuzzle.mono _ _ _ _
   | exact impl_tray_tiltedAll.mono _ _ _ _ _
   | exact LeO.none _
   | refine LeO.ite ?_ ?_
   | refine LeO.bind ?_ (fun _ => ?_)
  ·intro y0 y1 y2 y3 y4 y5 y6
   unfold impl_ReplayOf.l0
   repeat' first
   | (with_reducible exact ih0 _ _ _ _ _)
   | (with_reducible exact ih1 _ _ _ _ _ _ _)
   | (with_reducible exact impl_IsPuzzle.mono _ _ _ _)
   | (with_reducible exact impl_tray_tiltedAll.mono _ _ _ _ _)
   | (with_reducible exact LeO.refl _)
   | (with_reducible exact LeO.none _)
   | (with_reducible refine LeO.ite ?_ ?_)
   | (with_reducible refine LeO.bind ?_ (fun _ => ?_))
   | exact ih0 _ _ _ _ _
   | exact ih1 _ _ _ _ _ _ _
   | exact impl_IsPuzzle.mono _ _ _ _
   | exact impl_tray_tiltedAll.mono _ _ _ _ _
   | exact LeO.none _
   | refine LeO.ite ?_ ?_
   | refine LeO.bind ?_ (fun _ => ?_)
theorem impl_ReplayOf.mono : ∀ a0 a1 a2 a3 k, LeO (impl_ReplayOf.f k a0 a1 a2 a3) (impl_ReplayOf.f (k + 1) a0 a1 a2 a3) := by
 intro a0 a1 a2 a3 k
 obtain ⟨ih0, ih1⟩ := impl_ReplayOf.mono_l k
 unfold impl_ReplayOf.f
 repeat' first
   | (with_reducible exact ih0 _ _ _ _ _)
   | (with_reducible exact ih1 _ _ _ _ _ _ _)
   | (with_reducible exact impl_IsPuzzle.mono _ _ _ _)
   | (with_reducible exact impl_tray_tiltedAll.mono _ _ _ _ _)
   | (with_reducible exact LeO.refl _)
   | (with_reducible exact LeO.none _)
   | (with_reducible refine LeO.ite ?_ ?_)
   | (with_reducible refine LeO.bind ?_ (fun _ => ?_))
   | exact ih0 _ _ _ _ _
   | exact ih1 _ _ _ _ _ _ _
   | exact impl_IsPuzzle.mono _ _ _ _
   | exact impl_tray_tiltedAll.mono _ _ _ _ _
   | exact LeO.none _
   | refine LeO.ite ?_ ?_
   | refine LeO.bind ?_ (fun _ => ?_)
def impl_ReplayOf.T7 : Bool × List (List Nat × List Nat) := (true, [([], []), ([], []), ([1], [1]), ([2], [2]), ([], []), ([], []), ([4, 5], [4, 5]), ([3, 6, 3], [3, 6]), ([7, 7], [7]), ([8], [8]), ([0, 9, 8], [0, 9]), ([10, 10, 0, 1, 2, 3, 4, 5, 6, 7, 8, 9, 10], [0, 10])])
def impl_ReplayOf.B7 : List Nat := [0, 0, 2, 6, 0, 0, 48, 126, 254, 510, 1023, 2047]
theorem impl_ReplayOf.tab7 : rtab .any (opsOf Tryz.f46 7) = impl_ReplayOf.T7 := by kernel_rfl
theorem impl_ReplayOf.bits7 : waitsOk impl_ReplayOf.T7.2 impl_ReplayOf.B7 = true := by kernel_rfl
set_option maxHeartbeats 8000000 in
set_option maxRecDepth 100000 in
theorem impl_ReplayOf.calls (k : Nat) (a0_0 : ByteArray) (a0_1 : ByteArray) (a0_2 : Int) (a1 : ByteArray) (r1 : List ByteArray) (r2 : Bool) (w : World) (h : impl_ReplayOf.f k a0_0 a0_1 a0_2 a1 = some (r1, r2)) :
  Calls Tryz.prog 46 #[.agg #[.string a0_0, .string a0_1, .int .i64 a0_2], .string a1] w fun e w' => ∃ v0_ : Value, e = .returned (.tuple #[v0_, .bool r2]) ∧ Kd.R Kd.string 9 w' w.heap.size (fun _ => True) v0_ r1 ∧ Below w.heap.size w w' := by
 have hu56 := Tryz.underlying56
 have HB := am (Below.refl w.heap.size w)
 have H : ((impl_IsPuzzle.f k a0_0 a0_1 a0_2).bind fun t102 => (if t102 = true then ((impl_IsWord.f a1).bind fun t103 => (impl_ReplayOf.j0 k a1 (!t103) a0_0 a0_1 a0_2)) else (impl_ReplayOf.j0 k a1 true a0_0 a0_1 a0_2))) = some (r1, r2) := h
 clear h
 have HC3 := am H
 clear H
 go_enter Tryz.func46, Tryz.ntmps46
 go_upto_region 1 with (first | ((with_reducible refine gate_dst (N := 2) rfl ?_); refine box_event ?hg (N := 2) ?hd (cs := #[.string a0_0, .string a0_1, .int .i64 a0_2]) (t := 56) ?hr ?_; (case hd => rfl); (case hg => rfl); (case hr => exact aq9); intro gb101 hg w4 hbox hb; have n0_ := am (below_step aq1 hb); have n1_ := am (hbox); have n2_ := am ((by rw [hg]; exact (below_size aq1) : w.heap.size ≤ gb101)); have n3_ := am ((by rw [hg]; exact (below_size aq1) : w.heap.size ≤ gb101)); clear HB; have HB := n0_; have BK101 := n1_; have GW101 := n2_; have GE101 := n3_; clear n0_ n1_ n2_ n3_; clear hb hbox hg))
 (try simp only [Act.put, List.setIfInBounds_toArray, List.set_cons_zero, List.set_cons_succ])
 go_cut [15] (fun v15 wc => ∃ (kq : Nat) (x15_2 : Bool), v15 = .bool x15_2 ∧ Aside0 (impl_ReplayOf.j0 kq a1 x15_2 a0_0 a0_1 a0_2 = some (r1, r2)) ∧ Aside0 (kq ≤ k) ∧ Aside0 (wc.heap[gb101]? = some (.cells #[.string a0_0, .string a0_1, .int .i64 a0_2] 56 (0, 0))) ∧ Aside0 (Below w.heap.size w wc))
 case first =>
  have H := HC3.out
  clear HC3
  replace H := Option.bind_eq_some_iff.mp H
  obtain ⟨t102, A50, H⟩ := H
  replace H : (if t102 = true then ((impl_IsWord.f a1).bind fun t103 => (impl_ReplayOf.j0 k a1 (!t103) a0_0 a0_1 a0_2)) else (impl_ReplayOf.j0 k a1 true a0_0 a0_1 a0_2)) = some (r1, r2) := H
  have A5 := am A50
  clear A50
  by_cases c6 : t102 = true
  ·subst c6
   have H1 : ((impl_IsWord.f a1).bind fun t103 => (impl_ReplayOf.j0 k a1 (!t103) a0_0 a0_1 a0_2)) = some (r1, r2) := by rw [if_pos rfl] at H; exact H
   clear H
   have H := H1
   clear H1
   replace H := Option.bind_eq_some_iff.mp H
   obtain ⟨t103, A70, H⟩ := H
   replace H : (impl_ReplayOf.j0 k a1 (!t103) a0_0 a0_1 a0_2) = some (r1, r2) := H
   have A7 := am A70
   clear A70
   have H' := am H
   clear H
   have hcz8_0 : w4.cell? ⟨gb101, 0, none⟩ = some (.string a0_0) := (blk_cell BK101.out 0).trans rfl
   have hcz8_1 : w4.cell? ⟨gb101, 1, none⟩ = some (.string a0_1) := (blk_cell BK101.out 1).trans rfl
   have hcz8_2 : w4.cell? ⟨gb101, 2, none⟩ = some (.int .i64 a0_2) := (blk_cell BK101.out 2).trans rfl
   have hfz8_0 := blk_frozen BK101.out 0
   have hfz8_1 := blk_frozen BK101.out 1
   have hfz8_2 := blk_frozen BK101.out 2
   go_wp2_with (first | ((with_reducible refine gate_callee (f := 88) rfl ?_); refine goesL_ (some 9) rfl rfl Tryz.func88 (by kernel_rfl) rfl #[.agg #[.string a0_0, .string a0_1, .int .i64 a0_2]] rfl aq3 ?_; (with_reducible refine (impl_IsPuzzle.calls k a0_0 a0_1 a0_2 true _ A5.out).mono ?_); rintro e w9 ⟨rfl, hb⟩; refine ⟨_, rfl, ?_⟩; have n0_ := am (blk_below (g := gb101) (o := .cells #[.string a0_0, .string a0_1, .int .i64 a0_2] 56 (0, 0)) aq2 hb); have n1_ := am (below_step aq0 hb); clear BK101; clear HB; have BK101 := n0_; have HB := n1_; clear n0_ n1_; (try clear hb); (try clear hb2); (try clear hk); (try clear hi)) | (go_at_call 65; (with_reducible refine (impl_IsWord.calls a1 t103 _ A7.out).mono ?_); rintro e w10 ⟨rfl, hb⟩; have n0_ := am (blk_below (g := gb101) (o := .cells #[.string a0_0, .string a0_1, .int .i64 a0_2] 56 (0, 0)) aq2 hb); have n1_ := am (below_step aq0 hb); clear BK101; clear HB; have BK101 := n0_; have HB := n1_; clear n0_ n1_; (try clear hb); (try clear hb2); (try clear hk); (try clear hi)))
   go_meet
   case rel => exact ⟨_, (!t103), aq8, H', ⟨aq45⟩, ⟨aq2⟩, ⟨aq0⟩⟩
  ·replace c6 := Bool.eq_false_iff.mpr c6
   subst c6
   have H1 : (impl_ReplayOf.j0 k a1 true a0_0 a0_1 a0_2) = some (r1, r2) := by rw [if_neg (show ¬ (false = true) by decide)] at H; exact H
   clear H
   have H := H1
   clear H1
   have H' := am H
   clear H
   have hcz11_0 : w4.cell? ⟨gb101, 0, none⟩ = some (.string a0_0) := (blk_cell BK101.out 0).trans rfl
   have hcz11_1 : w4.cell? ⟨gb101, 1, none⟩ = some (.string a0_1) := (blk_cell BK101.out 1).trans rfl
   have hcz11_2 : w4.cell? ⟨gb101, 2, none⟩ = some (.int .i64 a0_2) := (blk_cell BK101.out 2).trans rfl
   have hfz11_0 := blk_frozen BK101.out 0
   have hfz11_1 := blk_frozen BK101.out 1
   have hfz11_2 := blk_frozen BK101.out 2
   go_wp2_with (first | ((with_reducible refine gate_callee (f := 88) rfl ?_); refine goesL_ (some 9) rfl rfl Tryz.func88 (by kernel_rfl) rfl #[.agg #[.string a0_0, .string a0_1, .int .i64 a0_2]] rfl aq3 ?_; (with_reducible refine (impl_IsPuzzle.calls k a0_0 a0_1 a0_2 false _ A5.out).mono ?_); rintro e w12 ⟨rfl, hb⟩; refine ⟨_, rfl, ?_⟩; have n0_ := am (blk_below (g := gb101) (o := .cells #[.string a0_0, .string a0_1, .int .i64 a0_2] 56 (0, 0)) aq2 hb); have n1_ := am (below_step aq0 hb); clear BK101; clear HB; have BK101 := n0_; have HB := n1_; clear n0_ n1_; (try clear hb); (try clear hb2); (try clear hk); (try clear hi)))
   go_meet
   case rel => exact ⟨_, (true), aq8, H', ⟨aq45⟩, ⟨aq2⟩, ⟨aq0⟩⟩
 case rest =>
  clear HC3
  try clear p2
  try clear c4
  try clear c6
  try clear c8
  try clear hcz11_0
  try clear hcz11_1
  try clear hcz11_2
  try clear hcz8_0
  try clear hcz8_1
  try clear hcz8_2
  try clear hfz11_0
  try clear hfz11_1
  try clear hfz11_2
  try clear hfz8_0
  try clear hfz8_1
  try clear hfz8_2
  obtain ⟨kq, x15_2, rfl, HA, HJ2, BK101, HB⟩ := hcut
  cases kq with
  | zero => exact absurd HA.out (by simp [impl_ReplayOf.j0])
  | succ kj2 =>
   have H := HA.out
   clear HA
   simp only [impl_ReplayOf.j0] at H
   by_cases c13 : x15_2 = true
   ·subst c13
    have H1 : (some (([] : List ByteArray), false)) = some (r1, r2) := by rw [if_pos rfl] at H; exact H
    clear H
    have H := H1
    clear H1
    simp only [Option.some.injEq, Prod.mk.injEq] at H
    obtain ⟨rfl, rfl⟩ := H
    go_wp2
    go_ret2
    exact ⟨_, aq7, aq22, aq0⟩
   ·replace c13 := Bool.eq_false_iff.mpr c13
    subst c13
    have H1 : (impl_ReplayOf.l0 kj2 a1 (([] : List ByteArray)) (wrap64 ((a1.size : Int) + 1)) 0 a0_0 a0_1 a0_2) = some (r1, r2) := by rw [if_neg (show ¬ (false = true) by decide)] at H; exact H
    clear H
    have H := H1
    clear H1
    obtain ⟨y104, hy104⟩ : ∃ y_ : List ByteArray, y_ = (([] : List ByteArray)) := ⟨_, rfl⟩
    replace H : (impl_ReplayOf.l0 kj2 a1 y104 (wrap64 ((a1.size : Int) + 1)) 0 a0_0 a0_1 a0_2) = some (r1, r2) := by first | (rw [hy104]; with_reducible exact H) | (have H2_ := (Option.bind_some _ _).symm.trans H; rw [hy104]; with_reducible exact H2_) | (have H2_ := (Option.bind_some _ _).symm.trans H; with_reducible exact H2_) | with_reducible exact H | (rw [hy104]; exact H) | exact H
    have Ny104 := am hy104
    clear hy104
    have H' := am H
    clear H
    go_wp2_with (first | ((with_reducible refine gate_dst (N := 16) rfl ?_); refine Kd.R_lit Kd.string _ 9 ?hg (N := 16) ?hd (xs := ([] : List ByteArray)) (inner := []) (ok := fun _ => True) (okp := fun _ => True) ?hr ?hp (fun _ hk => hk) trivial (Below.refl _ _) (Nat.le_refl _) (by simp) ?_; (case hd => rfl); (case hg => rfl); (case hr => exact aq9); (case hp => exact (Reps.none _ _)); intro v105 w14 ho15 hb hg_ hnew_; clear hg_ hnew_; (first | rw [← Ny104.out] at ho15 | (simp only [Int.reduceToNat] at ho15; rw [← Ny104.out] at ho15)); have n0_ := am (Kd.R_lower ho15 (below_size aq0)); have n1_ := am (blk_below (g := gb101) (o := .cells #[.string a0_0, .string a0_1, .int .i64 a0_2] 56 (0, 0)) aq2 hb); have n2_ := am (below_step aq0 hb); clear BK101; clear HB; have HO106 := n0_; have BK101 := n1_; have HB := n2_; clear n0_ n1_ n2_; clear hb ho15))
    go_loopg [6, 20] kj2 (fun kq v6 v20 w' => ∃ (x6_2 : List ByteArray) (x20_2 : Int), v20 = .int .i64 x20_2 ∧ Aside0 (impl_ReplayOf.l0 kq a1 x6_2 (wrap64 ((a1.size : Int) + 1)) x20_2 a0_0 a0_1 a0_2 = some (r1, r2)) ∧ Aside0 (kq ≤ kj2) ∧ Aside0 (Kd.R Kd.string 9 w' w.heap.size (fun _ => True) v6 x6_2) ∧ Aside0 (w'.heap[gb101]? = some (.cells #[.string a0_0, .string a0_1, .int .i64 a0_2] 56 (0, 0))) ∧ Aside0 (Below w.heap.size w w'))
    case atStart => exact ⟨(y104), (0), aq8, H', ⟨Nat.le_refl _⟩, ⟨aq20⟩, ⟨aq2⟩, ⟨aq0⟩⟩
    case round =>
     clear H'
     try clear c1
     try clear p2
     try clear c4
     try clear c6
     try clear p6
     try clear c8
     try clear c13
     try clear hcz11_0
     try clear hcz11_1
     try clear hcz11_2
     try clear hcz8_0
     try clear hcz8_1
     try clear hcz8_2
     try clear hfz11_0
     try clear hfz11_1
     try clear hfz11_2
     try clear hfz8_0
     try clear hfz8_1
     try clear hfz8_2
     try clear p2
     obtain ⟨x6_2, x20_2, rfl, HA, HK2, HO_6, BK101, HB⟩ := hrel
     cases gk with
     | zero => exact absurd HA.out (by simp [impl_ReplayOf.l0])
     | succ k2 =>
      have H := HA.out
      clear HA
      simp only [impl_ReplayOf.l0] at H
      by_cases c16 : x20_2 < (wrap64 ((a1.size : Int) + 1))
      ·rw [if_pos c16] at H
       have c16b0 : decide (x20_2 < (wrap64 ((a1.size : Int) + 1))) = true := decide_eq_true c16
       clear c16
       replace H := Option.bind_eq_some_iff.mp H
       obtain ⟨⟨t107, t108, t109⟩, A170, H⟩ := H
       replace H : (if 0 ≤ x20_2 then (if x20_2 ≤ (a1.size : Int) then ((impl_tray_tiltedAll.f k2 t107 t108 t109 (a1.extract 0 (x20_2 : Int).toNat)).bind fun bt112 => ((impl_tray_text.f bt112.1 bt112.2.1 bt112.2.2).bind fun t117 => (if x6_2.length < 8796093022208 then (impl_ReplayOf.l0 k2 a1 (x6_2 ++ [t117]) (wrap64 ((a1.size : Int) + 1)) (wrap64 (x20_2 + 1)) a0_0 a0_1 a0_2) else (none)))) else (none)) else (none)) = some (r1, r2) := H
       have A17 := am A170
       clear A170
       by_cases c18 : 0 ≤ x20_2
       ·rw [if_pos c18] at H
        have c18b0 := eq_true c18
        have c18b1 : decide (0 ≤ x20_2) = true := decide_eq_true c18
        clear c18
        by_cases c19 : x20_2 ≤ (a1.size : Int)
        ·rw [if_pos c19] at H
         have c19b0 := eq_true c19
         have c19b1 : decide (x20_2 ≤ (a1.size : Int)) = true := decide_eq_true c19
         clear c19
         replace H := Option.bind_eq_some_iff.mp H
         obtain ⟨⟨t112, t113, t114⟩, A200, H⟩ := H
         replace H : ((impl_tray_text.f t112 t113 t114).bind fun t117 => (if x6_2.length < 8796093022208 then (impl_ReplayOf.l0 k2 a1 (x6_2 ++ [t117]) (wrap64 ((a1.size : Int) + 1)) (wrap64 (x20_2 + 1)) a0_0 a0_1 a0_2) else (none))) = some (r1, r2) := H
         have A20 := am A200
         clear A200
         replace H := Option.bind_eq_some_iff.mp H
         obtain ⟨t117, A210, H⟩ := H
         replace H : (if x6_2.length < 8796093022208 then (impl_ReplayOf.l0 k2 a1 (x6_2 ++ [t117]) (wrap64 ((a1.size : Int) + 1)) (wrap64 (x20_2 + 1)) a0_0 a0_1 a0_2) else (none)) = some (r1, r2) := H
         have A21 := am A210
         clear A210
         by_cases c22 : x6_2.length < 8796093022208
         ·rw [if_pos c22] at H
          have LMc22 := am c22
          clear c22
          obtain ⟨y118, hy118⟩ : ∃ y_ : List ByteArray, y_ = (x6_2 ++ [t117]) := ⟨_, rfl⟩
          replace H : (impl_ReplayOf.l0 k2 a1 y118 (wrap64 ((a1.size : Int) + 1)) (wrap64 (x20_2 + 1)) a0_0 a0_1 a0_2) = some (r1, r2) := by first | (rw [hy118]; with_reducible exact H) | (have H2_ := (Option.bind_some _ _).symm.trans H; rw [hy118]; with_reducible exact H2_) | (have H2_ := (Option.bind_some _ _).symm.trans H; with_reducible exact H2_) | with_reducible exact H | (rw [hy118]; exact H) | exact H
          have Ny118 := am hy118
          clear hy118
          have H' := am H
          clear H
          try go_wp2
          have n0_ := am (Kd.R_drew HO_6.out)
          have n1_ := am (blk_drew BK101.out)
          have n2_ := am (below_drew1 HB.out)
          clear HO_6
          clear BK101
          clear HB
          have HO_6 := n0_
          have BK101 := n1_
          have HB := n2_
          clear n0_ n1_ n2_
          refine start_ (n := 12) (S := fun w' => w'.cell? ⟨gb101, 0, none⟩ = some (.string a0_0) ∧ w'.cell? ⟨gb101, 1, none⟩ = some (.string a0_1) ∧ w'.cell? ⟨gb101, 2, none⟩ = some (.int .i64 a0_2)) (ds := []) #[false, false, false, false, false, false, false, false, false, false, false, false] (by kernel_rfl) rfl rfl ⟨(blk_cell BK101.out 0).trans rfl, (blk_cell BK101.out 1).trans rfl, (blk_cell BK101.out 2).trans rfl⟩ (fun hHeld => ?_); refine with_tabW impl_ReplayOf.tab7 impl_ReplayOf.bits7 (fun HT_ HW_ => ?_)
          generalize wr.drew = w23 at HO_6 BK101 HB hHeld ⊢
          refine pure_ (i := 0) (N := some 23) (v := ?_) (a' := ?_) (bm 12 1) rfl rfl (any_of HT_.out (by kernel_rfl)) (fun _ _ _ h => h) (Or.inl ⟨by rfl, ?_⟩) ?_ ?_
          rotate_left
          ·intro w'
           go_simp
           with_reducible rfl
          rotate_left
          ·simp only [Act.put, ac_]
           rfl
          refine pure_ (i := 1) (N := some 24) (v := ?_) (a' := ?_) (bm 12 3) rfl rfl (any_of HT_.out (by kernel_rfl)) (fun _ _ _ h => h) (Or.inl ⟨by rfl, ?_⟩) ?_ ?_
          rotate_left
          ·intro w'
           go_simp
           with_reducible rfl
          rotate_left
          ·simp only [Act.put, ac_]
           rfl
          refine pure_ (i := 4) (N := some 27) (v := ?_) (a' := ?_) (bm 12 19) rfl rfl (any_of HT_.out (by kernel_rfl)) (fun _ _ _ h => h) (Or.inl ⟨by rfl, ?_⟩) ?_ ?_
          rotate_left
          ·intro w'
           go_simp
           with_reducible rfl
          rotate_left
          ·simp only [Act.put, ac_]
           rfl
          refine pure_ (i := 5) (N := some 28) (v := ?_) (a' := ?_) (bm 12 51) rfl rfl (any_of HT_.out (by kernel_rfl)) (fun _ _ _ h => h) (Or.inl ⟨by rfl, ?_⟩) ?_ ?_
          rotate_left
          ·intro w'
           go_simp
           with_reducible rfl
          rotate_left
          ·simp only [Act.put, ac_]
           rfl
          refine pure_ (i := 6) (N := some 29) (v := ?_) (a' := ?_) (bm 12 115) rfl rfl (any_of HT_.out (by kernel_rfl)) (fun _ _ _ h => h) (Or.inl ⟨by rfl, ?_⟩) ?_ ?_
          rotate_left
          ·intro w'
           go_simp
           with_reducible rfl
          rotate_left
          ·simp only [Act.put, ac_]
           rfl
          refine take_ (i := 2) (N := some 25) (v := ?_) (a' := ?_) (bm 12 119) rfl rfl (take_ofW HT_.out HW_.out (by kernel_rfl)) (fun _ _ _ h => h) (Or.inl ⟨by rfl, ?_⟩) hHeld ?_ ?_
          rotate_left
          ·rintro w' ⟨s0, s1, s2⟩
           go_simp
           with_reducible rfl
          rotate_left
          ·simp only [Act.put, ac_]
           rfl
          refine one_ (i := 3) (N := some 26) (bm 12 127) rfl rfl (one_of HT_.out (by kernel_rfl)) (by decide) (fun K hK => ?_)
          refine goes_ Tryz.func89 (by kernel_rfl) rfl #[.string a0_0] (by rfl) rfl rfl aq3 ?_
          with_reducible refine (impl_read.calls a0_0 t107 t108 t109 _ A17.out).mono ?_
          rintro e w24 ⟨v110, rfl, ho0, hb⟩
          refine ⟨_, rfl, ?_⟩
          have n0_ := am (Kd.R_below aq23 hb)
          have n1_ := am (Kd.V_lower (Kd.V_mono (ok' := fun k_ => some k_ ≠ (u6 : Value).ownBlock ∧ k_ ≠ gb101) ho0 (fun k_ hk_ => ⟨(Kd.fresh' (Kd.R_lt aq23) k_ hk_), (Kd.freshB (g := gb101) (o := .cells #[.string a0_0, .string a0_1, .int .i64 a0_2] 56 (0, 0)) aq2 k_ hk_)⟩)) (below_size aq0))
          have n2_ := am (blk_below (g := gb101) (o := .cells #[.string a0_0, .string a0_1, .int .i64 a0_2] 56 (0, 0)) aq2 hb)
          have n3_ := am (below_step aq0 hb)
          clear HO_6
          clear BK101
          clear HB
          have HO_6 := n0_
          have HO111 := n1_
          have BK101 := n2_
          have HB := n3_
          clear n0_ n1_ n2_ n3_
          (try clear hb)
          (try clear hb2)
          (try clear hk)
          (try clear hi)
          (try clear ho0)
          obtain ⟨Ao25, co25, eo25⟩ := Kd.V_slice HO111.out
          (first | subst eo25 | (injection eo25 with f1_ f2_ f3_; have f4_ := f1_.symm; have f5_ := f3_.symm; clear f1_ f2_ f3_; subst f4_; subst f5_))
          refine hK.out _ _ ⟨(blk_cell BK101.out 0).trans rfl, (blk_cell BK101.out 1).trans rfl, (blk_cell BK101.out 2).trans rfl⟩ (fun hHeld => ?_)
          clear hK K
          refine norm_ (a' := ?_) ?_ ?_
          rotate_left
          ·show Act.put _ (some 26) _ = _
           simp only [Act.put, ac_]
           rfl
          refine one_ (i := 7) (N := some 30) (bm 12 255) rfl rfl (one_of HT_.out (by kernel_rfl)) (by decide) (fun K hK => ?_)
          refine goes_ Tryz.func90 (by kernel_rfl) rfl #[.agg #[.int .i64 t107, .int .i64 t108, .slice Ao25 t109.length co25], .string (a1.extract 0 (x20_2 : Int).toNat)] (by rfl) rfl rfl aq3 ?_
          with_reducible refine (impl_tray_tiltedAll.calls k2 t107 t108 (fun k_ => (some k_ ≠ (u6 : Value).ownBlock ∧ k_ ≠ gb101)) _ _ t109 (a1.extract 0 (x20_2 : Int).toNat) t112 t113 t114 _ ?side1 A20.out).mono ?_
          (case side1 => exact HO111.out)
          rintro e w26 ⟨v115, rfl, ho0, hb⟩
          refine ⟨_, rfl, ?_⟩
          have n0_ := am (Kd.R_below aq23 hb)
          have n1_ := am (Kd.V_below (by (with_reducible repeat (first | apply Kd.V_alloc | apply Kd.V_drewN | apply Kd.V_drew)); exact HO111.out) hb)
          have n2_ := am (Kd.V_lower (Kd.V_mono (ok' := fun k_ => some k_ ≠ (u6 : Value).ownBlock ∧ k_ ≠ gb101) ho0 (fun k_ hk_ => ⟨Or.elim hk_ (fun hs_ => hs_.1) (fun hn_ => (Kd.fresh' (Kd.R_lt aq23) k_ hn_)), Or.elim hk_ (fun hs_ => hs_.2) (fun hn_ => (Kd.freshB (g := gb101) (o := .cells #[.string a0_0, .string a0_1, .int .i64 a0_2] 56 (0, 0)) aq2 k_ hn_))⟩)) (below_size aq0))
          have n3_ := am (blk_below (g := gb101) (o := .cells #[.string a0_0, .string a0_1, .int .i64 a0_2] 56 (0, 0)) aq2 hb)
          have n4_ := am (below_step aq0 hb)
          clear HO_6
          clear HO111
          clear BK101
          clear HB
          have HO_6 := n0_
          have HO111 := n1_
          have HO116 := n2_
          have BK101 := n3_
          have HB := n4_
          clear n0_ n1_ n2_ n3_ n4_
          (try clear hb)
          (try clear hb2)
          (try clear hk)
          (try clear hi)
          (try clear ho0)
          obtain ⟨Ao27, co27, eo27⟩ := Kd.V_slice HO116.out
          (first | subst eo27 | (injection eo27 with f1_ f2_ f3_; have f4_ := f1_.symm; have f5_ := f3_.symm; clear f1_ f2_ f3_; subst f4_; subst f5_))
          refine hK.out _ _ ⟨(blk_cell BK101.out 0).trans rfl, (blk_cell BK101.out 1).trans rfl, (blk_cell BK101.out 2).trans rfl⟩ (fun hHeld => ?_)
          clear hK K
          refine norm_ (a' := ?_) ?_ ?_
          rotate_left
          ·show Act.put _ (some 30) _ = _
           simp only [Act.put, ac_]
           rfl
          refine one_ (i := 8) (N := some 31) (bm 12 511) rfl rfl (one_of HT_.out (by kernel_rfl)) (by decide) (fun K hK => ?_)
          refine goes_ Tryz.func91 (by kernel_rfl) rfl #[.agg #[.int .i64 t112, .int .i64 t113, .slice Ao27 t114.length co27]] (by rfl) rfl rfl aq3 ?_
          with_reducible refine (impl_tray_text.calls t112 t113 _ _ t114 t117 _ ?side1 ?side2 A21.out).mono ?_
          (case side1 => repeat (first | exact (Kd.V_reads' HO116.out).2.2 | (with_reducible refine Kd.C_alloc ?_ _) | (with_reducible refine Kd.C_drewN ?_ _) | (with_reducible refine Kd.C_drew ?_)))
          (case side2 => exact (Kd.V_reads' HO116.out).2.1)
          rintro e w28 ⟨rfl, hb⟩
          refine ⟨_, rfl, ?_⟩
          have n0_ := am (Kd.R_below aq23 hb)
          have n1_ := am (Kd.V_below (by (with_reducible repeat (first | apply Kd.V_alloc | apply Kd.V_drewN | apply Kd.V_drew)); exact HO111.out) hb)
          have n2_ := am (Kd.V_below (by (with_reducible repeat (first | apply Kd.V_alloc | apply Kd.V_drewN | apply Kd.V_drew)); exact HO116.out) hb)
          have n3_ := am (blk_below (g := gb101) (o := .cells #[.string a0_0, .string a0_1, .int .i64 a0_2] 56 (0, 0)) aq2 hb)
          have n4_ := am (below_step aq0 hb)
          clear HO_6
          clear HO111
          clear HO116
          clear BK101
          clear HB
          have HO_6 := n0_
          have HO111 := n1_
          have HO116 := n2_
          have BK101 := n3_
          have HB := n4_
          clear n0_ n1_ n2_ n3_ n4_
          (try clear hb)
          (try clear hb2)
          (try clear hk)
          (try clear hi)
          refine hK.out _ _ ⟨(blk_cell BK101.out 0).trans rfl, (blk_cell BK101.out 1).trans rfl, (blk_cell BK101.out 2).trans rfl⟩ (fun hHeld => ?_)
          clear hK K
          refine norm_ (a' := ?_) ?_ ?_
          rotate_left
          ·show Act.put _ (some 31) _ = _
           simp only [Act.put, ac_]
           rfl
          refine one_ (i := 9) (N := some 32) (bm 12 1023) rfl rfl (one_of HT_.out (by kernel_rfl)) (by decide) (fun K hK => ?_)
          refine value_ (w1 := ?_) (v := ?_) (by rfl) rfl ?_ ?_
          rotate_left 2
          ·go_simp
           constructor
           ·rfl
           ·rfl
          refine hK.out _ _ ⟨(blk_cell (blk_alloc BK101.out _) 0).trans rfl, (blk_cell (blk_alloc BK101.out _) 1).trans rfl, (blk_cell (blk_alloc BK101.out _) 2).trans rfl⟩ (fun hHeld => ?_)
          clear hK K
          refine norm_ (a' := ?_) ?_ ?_
          rotate_left
          ·show Act.put _ (some 32) _ = _
           simp only [Act.put, ac_]
           rfl
          refine one_ (i := 10) (N := some 33) (bm 12 2047) rfl rfl (one_of HT_.out (by kernel_rfl)) (by decide) (fun K hK => ?_)
          refine Kd.R_append_step Kd.string (w0 := w) w.heap.size (by rfl) (.tmp 23) (.tmp 32) 22 9 (.string ⟨#[]⟩) 16 rfl Tryz.underlying22 info9 rfl (by decide) (by omega) u6 x6_2 t117 [.string t117] (fun _ => True) (fun _ => False) rfl rfl ?aP (fun _ hk => hk.elim) ?aF ?aO ?aB ?aS ?aL ?_
          (case aP => exact rfl)
          (case aB => exact aq0)
          (case aF => exact aq47)
          (case aO => exact aq23)
          (case aS => exact aq50)
          (case aL => have := LMc22.out; omega)
          intro v119 w29 ho hb hg hat
          rw [← Ny118.out] at ho
          have n0_ := am (blk_grown (g := gb101) (o := .cells #[.string a0_0, .string a0_1, .int .i64 a0_2] 56 (0, 0)) aq2 hg (Kd.R_ne HO_6.out BK101.out (by decide)))
          have n1_ := am (Kd.V_afterv (ok := (fun k_ => k_ ≠ gb101)) (by (with_reducible repeat (first | apply Kd.V_alloc | apply Kd.V_drewN | apply Kd.V_drew)); exact Kd.V_mono HO111.out (fun _ hk => ⟨hk.2, hk.1⟩)) hg hat)
          have n2_ := am (Kd.V_afterv (ok := (fun k_ => k_ ≠ gb101)) (by (with_reducible repeat (first | apply Kd.V_alloc | apply Kd.V_drewN | apply Kd.V_drew)); exact Kd.V_mono HO116.out (fun _ hk => ⟨hk.2, hk.1⟩)) hg hat)
          have n3_ := am (hb)
          have n4_ := am (ho)
          clear BK101
          clear HO111
          clear HO116
          clear HB
          clear HO_6
          have BK101 := n0_
          have HO111 := n1_
          have HO116 := n2_
          have HB := n3_
          have HO120 := n4_
          clear n0_ n1_ n2_ n3_ n4_
          clear ho hb hg hat
          refine hK.out _ _ ⟨(blk_cell BK101.out 0).trans rfl, (blk_cell BK101.out 1).trans rfl, (blk_cell BK101.out 2).trans rfl⟩ (fun hHeld => ?_)
          clear hK K
          refine norm_ (a' := ?_) ?_ ?_
          rotate_left
          ·show Act.put _ (some 33) _ = _
           simp only [Act.put, ac_]
           rfl
          refine pure_ (i := 11) (N := some 6) (v := ?_) (a' := ?_) (bm 12 4095) rfl rfl (any_of HT_.out (by kernel_rfl)) (fun _ _ _ h => h) (Or.inl ⟨by rfl, ?_⟩) ?_ ?_
          rotate_left
          ·intro w'
           go_simp
           with_reducible rfl
          rotate_left
          ·simp only [Act.put, ac_]
           rfl
          refine done_ (done_of HT_.out (by kernel_rfl)) ?_
          try go_wp2
          go_roundg k2
          case measure => have := HJ2.out; have := HK2.out; omega
          case rel => exact ⟨(y118), (wrap64 (x20_2 + 1)), aq8, H', ⟨by have := HJ2.out; have := HK2.out; omega⟩, ⟨by (with_reducible repeat (first | apply Kd.R_alloc | apply Kd.R_drewN | apply Kd.R_drew)); exact HO120.out⟩, ⟨aq2⟩, ⟨aq0⟩⟩
         ·rw [if_neg c22] at H
          exact absurd H (by simp)
        ·rw [if_neg c19] at H
         exact absurd H (by simp)
       ·rw [if_neg c18] at H
        exact absurd H (by simp)
      ·rw [if_neg c16] at H
       have c16b0 : decide (x20_2 < (wrap64 ((a1.size : Int) + 1))) = false := decide_eq_false c16
       clear c16
       simp only [Option.some.injEq, Prod.mk.injEq] at H
       obtain ⟨rfl, rfl⟩ := H
       go_wp2
       go_ret2
       exact ⟨_, aq7, aq23, aq0⟩
mutual
def laws_FnExactReplayOf.j0 : Nat → ByteArray → List ByteArray → Bool → List ByteArray → Bool → ByteArray → ByteArray → Int → Option (Bool)
 | 0, _, _, _, _, _, _, _, _ => none
 | k + 1, x1, x6, x7, x8, x44, x102000, x102001, x102002 => if x44 = true then (some false) else ((laws_markStringS.f k x8 1).bind fun bt118 => ((laws_heldStringS.f k bt118.2 1).bind fun t120 => (if t120 < 0 then (some false) else (if t120 = bt118.1 then ((laws_toPuzzle.f x102000 x102001 x102002).bind fun bt121 => ((impl_ReplayOf.f k bt121.1 bt121.2.1 bt121.2.2 x1).bind fun bt124 => ((laws_eqStringS.f k bt124.1 x6).bind fun t128 => (if t128 = true then (laws_FnExactReplayOf.j1 k bt118.2 bt118.1 (bt124.2 != x7)) else (laws_FnExactReplayOf.j1 k bt118.2 bt118.1 true))))) else (some false)))))
def laws_FnExactReplayOf.j1 : Nat → List ByteArray → Int → Bool → Option (Bool)
 | 0, _, _, _ => none
 | k + 1, x8, x10, x71 => if x71 = true then (some false) else ((laws_heldStringS.f k x8 1).bind fun t129 => (if t129 < 0 then (some false) else (if t129 = x10 then (some true) else (some false))))
end
def laws_FnExactReplayOf.f (k : Nat) (a0_0 : ByteArray) (a0_1 : ByteArray) (a0_2 : Int) (a1 : ByteArray) : Option (Bool) := if (a1.size : Int) > 1048576 then (some true) else ((laws_szPuzzle.f a0_0 a0_1 a0_2 1048576).bind fun t102 => (if t102 < 0 then (some true) else ((laws_toPuzzle.f a0_0 a0_1 a0_2).bind fun bt103 => ((spec_ReplayOf.f k bt103.1 bt103.2.1 bt103.2.2 a1).bind fun bt106 => ((laws_toPuzzle.f a0_0 a0_1 a0_2).bind fun bt110 => ((impl_ReplayOf.f k bt110.1 bt110.2.1 bt110.2.2 a1).bind fun bt113 => ((laws_eqStringS.f k bt113.1 bt106.1).bind fun t117 => (if t117 = true then (laws_FnExactReplayOf.j0 k a1 bt106.1 bt106.2 bt113.1 (bt113.2 != bt106.2) a0_0 a0_1 a0_2) else (laws_FnExactReplayOf.j0 k a1 bt106.1 bt106.2 bt113.1 true a0_0 a0_1 a0_2)))))))))
theorem laws_FnExactReplayOf.mono_l : ∀ k, (∀ y0 y1 y2 y3 y4 y5 y6 y7, LeO (laws_FnExactReplayOf.j0 k y0 y1 y2 y3 y4 y5 y6 y7) (laws_FnExactReplayOf.j0 (k + 1) y0 y1 y2 y3 y4 y5 y6 y7)) ∧ (∀ y0 y1 y2, LeO (laws_FnExactReplayOf.j1 k y0 y1 y2) (laws_FnExactReplayOf.j1 (k + 1) y0 y1 y2))
 | 0 => ⟨fun _ _ _ _ _ _ _ _ r h => by simp [laws_FnExactReplayOf.j0] at h, fun _ _ _ r h => by simp [laws_FnExactReplayOf.j1] at h⟩
 | k + 1 => by
  obtain ⟨ih0, ih1⟩ := laws_FnExactReplayOf.mono_l k
  refine ⟨?_, ?_⟩
  ·intro y0 y1 y2 y3 y4 y5 y6 y7
   unfold laws_FnExactReplayOf.j0
   repeat' first
   | (with_reducible exact ih0 _ _ _ _ _ _ _ _)
   | (with_reducible exact ih1 _ _ _)
   | (with_reducible exact impl_ReplayOf.mono _ _ _ _ _)
   | (with_reducible exact laws_eqStringS.mono _ _ _)
   | (with_reducible exact laws_heldStringS.mono _ _ _)
   | (with_reducible exact laws_markStringS.mono _ _ _)
   | (with_reducible exact spec_ReplayOf.mono _ _ _ _ _)
   | (with_reducible exact LeO.refl _)
   | (with_reducible exact LeO.none _)
   | (with_reducible refine LeO.ite ?_ ?_)
   | (with_reducible refine LeO.bind ?_ (fun _ => ?_))
   | exact ih0 _ _ _ _ _ _ _ _
   | exact ih1 _ _ _
   | exact impl_ReplayOf.mono _ _ _ _ _
   | exact laws_eqStringS.mono _ _ _
   | exact laws_heldStringS.mono _ _ _
   | exact laws_markStringS.mono _ _ _
   | exact spec_ReplayOf.mono _ _ _ _ _
   | exact LeO.none _
   | refine LeO.ite ?_ ?_
   | refine LeO.bind ?_ (fun _ => ?_)
  ·intro y0 y1 y2
   unfold laws_FnExactReplayOf.j1
   repeat' first
   | (with_reducible exact ih0 _ _ _ _ _ _ _ _)
   | (with_reducible exact ih1 _ _ _)
   | (with_reducible exact impl_ReplayOf.mono _ _ _ _ _)
   | (with_reducible exact laws_eqStringS.mono _ _ _)
   | (with_reducible exact laws_heldStringS.mono _ _ _)
   | (with_reducible exact laws_markStringS.mono _ _ _)
   | (with_reducible exact spec_ReplayOf.mono _ _ _ _ _)
   | (with_reducible exact LeO.refl _)
   | (with_reducible exact LeO.none _)
   | (with_reducible refine LeO.ite ?_ ?_)
   | (with_reducible refine LeO.bind ?_ (fun _ => ?_))
   | exact ih0 _ _ _ _ _ _ _ _
   | exact ih1 _ _ _
   | exact impl_ReplayOf.mono _ _ _ _ _
   | exact laws_eqStringS.mono _ _ _
   | exact laws_heldStringS.mono _ _ _
   | exact laws_markStringS.mono _ _ _
   | exact spec_ReplayOf.mono _ _ _ _ _
   | exact LeO.none _
   | refine LeO.ite ?_ ?_
   | refine LeO.bind ?_ (fun _ => ?_)
set_option maxHeartbeats 8000000 in
set_option maxRecDepth 100000 in
theorem laws_FnExactReplayOf.calls (k : Nat) (a0_0 : ByteArray) (a0_1 : ByteArray) (a0_2 : Int) (a1 : ByteArray) (r : Bool) (w : World) (h : laws_FnExactReplayOf.f k a0_0 a0_1 a0_2 a1 = some r) :
  Calls Tryz.prog 12 #[.agg #[.string a0_0, .string a0_1, .int .i64 a0_2], .string a1] w fun e w' => e = .returned (.bool r) ∧ Below w.heap.size w w' := by
 have hu53 := Tryz.underlying53
 have HB := am (Below.refl w.heap.size w)
 have H : (if (a1.size : Int) > 1048576 then (some true) else ((laws_szPuzzle.f a0_0 a0_1 a0_2 1048576).bind fun t102 => (if t102 < 0 then (some true) else ((laws_toPuzzle.f a0_0 a0_1 a0_2).bind fun bt103 => ((spec_ReplayOf.f k bt103.1 bt103.2.1 bt103.2.2 a1).bind fun bt106 => ((laws_toPuzzle.f a0_0 a0_1 a0_2).bind fun bt110 => ((impl_ReplayOf.f k bt110.1 bt110.2.1 bt110.2.2 a1).bind fun bt113 => ((laws_eqStringS.f k bt113.1 bt106.1).bind fun t117 => (if t117 = true then (laws_FnExactReplayOf.j0 k a1 bt106.1 bt106.2 bt113.1 (bt113.2 != bt106.2) a0_0 a0_1 a0_2) else (laws_FnExactReplayOf.j0 k a1 bt106.1 bt106.2 bt113.1 true a0_0 a0_1 a0_2)))))))))) = some r := h
 clear h
 by_cases c3 : (a1.size : Int) > 1048576
 ·rw [if_pos c3] at H
  have c3b0 : decide (1048576 < (a1.size : Int)) = true := decide_eq_true c3
  have c3b1 : decide (1048576 < a1.size) = true := decide_eq_true (by omega)
  clear c3
  obtain rfl := Option.some.inj H
  go_enter Tryz.func12, Tryz.ntmps12
  go_wp2_with (first | ((with_reducible refine gate_dst (N := 2) rfl ?_); refine box_event ?hg (N := 2) ?hd (cs := #[.string a0_0, .string a0_1, .int .i64 a0_2]) (t := 53) ?hr ?_; (case hd => rfl); (case hg => rfl); (case hr => exact aq9); intro gb101 hg w4 hbox hb; have n0_ := am (below_step aq1 hb); have n1_ := am (hbox); have n2_ := am ((by rw [hg]; exact (below_size aq1) : w.heap.size ≤ gb101)); have n3_ := am ((by rw [hg]; exact (below_size aq1) : w.heap.size ≤ gb101)); clear HB; have HB := n0_; have BK101 := n1_; have GW101 := n2_; have GE101 := n3_; clear n0_ n1_ n2_ n3_; clear hb hbox hg))
  go_ret
  exact ⟨aq7, aq0⟩
 ·rw [if_neg c3] at H
  have c3b0 : decide (1048576 < (a1.size : Int)) = false := decide_eq_false c3
  have c3b1 : decide (1048576 < a1.size) = false := decide_eq_false (by omega)
  clear c3
  replace H := Option.bind_eq_some_iff.mp H
  obtain ⟨t102, A50, H⟩ := H
  replace H : (if t102 < 0 then (some true) else ((laws_toPuzzle.f a0_0 a0_1 a0_2).bind fun bt103 => ((spec_ReplayOf.f k bt103.1 bt103.2.1 bt103.2.2 a1).bind fun bt106 => ((laws_toPuzzle.f a0_0 a0_1 a0_2).bind fun bt110 => ((impl_ReplayOf.f k bt110.1 bt110.2.1 bt110.2.2 a1).bind fun bt113 => ((laws_eqStringS.f k bt113.1 bt106.1).bind fun t117 => (if t117 = true then (laws_FnExactReplayOf.j0 k a1 bt106.1 bt106.2 bt113.1 (bt113.2 != bt106.2) a0_0 a0_1 a0_2) else (laws_FnExactReplayOf.j0 k a1 bt106.1 bt106.2 bt113.1 true a0_0 a0_1 a0_2)))))))) = some r := H
  have A5 := am A50
  clear A50
  by_cases c6 : t102 < 0
  ·rw [if_pos c6] at H
   have c6b0 : decide (t102 < 0) = true := decide_eq_true c6
   clear c6
   obtain rfl := Option.some.inj H
   go_enter Tryz.func12, Tryz.ntmps12
   go_wp2_with (first | ((with_reducible refine gate_dst (N := 2) rfl ?_); refine box_event ?hg (N := 2) ?hd (cs := #[.string a0_0, .string a0_1, .int .i64 a0_2]) (t := 53) ?hr ?_; (case hd => rfl); (case hg => rfl); (case hr => exact aq9); intro gb101 hg w7 hbox hb; have n0_ := am (below_step aq1 hb); have n1_ := am (hbox); have n2_ := am ((by rw [hg]; exact (below_size aq1) : w.heap.size ≤ gb101)); have n3_ := am ((by rw [hg]; exact (below_size aq1) : w.heap.size ≤ gb101)); clear HB; have HB := n0_; have BK101 := n1_; have GW101 := n2_; have GE101 := n3_; clear n0_ n1_ n2_ n3_; clear hb hbox hg; have hcz8_0 : w7.cell? ⟨gb101, 0, none⟩ = some (.string a0_0) := (blk_cell BK101.out 0).trans rfl; have hcz8_1 : w7.cell? ⟨gb101, 1, none⟩ = some (.string a0_1) := (blk_cell BK101.out 1).trans rfl; have hcz8_2 : w7.cell? ⟨gb101, 2, none⟩ = some (.int .i64 a0_2) := (blk_cell BK101.out 2).trans rfl; have hfz8_0 := blk_frozen BK101.out 0; have hfz8_1 := blk_frozen BK101.out 1; have hfz8_2 := blk_frozen BK101.out 2) | ((with_reducible refine gate_callee (f := 43) rfl ?_); refine goesL_ (some 19) rfl rfl Tryz.func43 (by kernel_rfl) rfl #[.agg #[.string a0_0, .string a0_1, .int .i64 a0_2], .int .i64 1048576] rfl aq3 ?_; (with_reducible refine (laws_szPuzzle.calls a0_0 a0_1 a0_2 1048576 t102 _ A5.out).mono ?_); rintro e w9 ⟨rfl, hb⟩; refine ⟨_, rfl, ?_⟩; have n0_ := am (blk_below (g := gb101) (o := .cells #[.string a0_0, .string a0_1, .int .i64 a0_2] 53 (0, 0)) aq2 hb); have n1_ := am (below_step aq0 hb); clear BK101; clear HB; have BK101 := n0_; have HB := n1_; clear n0_ n1_; (try clear hb); (try clear hb2); (try clear hk); (try clear hi)))
   go_ret
   exact ⟨aq7, aq0⟩
  ·rw [if_neg c6] at H
   have c6b0 : decide (t102 < 0) = false := decide_eq_false c6
   clear c6
   replace H := Option.bind_eq_some_iff.mp H
   obtain ⟨⟨t103, t104, t105⟩, A100, H⟩ := H
   replace H : ((spec_ReplayOf.f k t103 t104 t105 a1).bind fun bt106 => ((laws_toPuzzle.f a0_0 a0_1 a0_2).bind fun bt110 => ((impl_ReplayOf.f k bt110.1 bt110.2.1 bt110.2.2 a1).bind fun bt113 => ((laws_eqStringS.f k bt113.1 bt106.1).bind fun t117 => (if t117 = true then (laws_FnExactReplayOf.j0 k a1 bt106.1 bt106.2 bt113.1 (bt113.2 != bt106.2) a0_0 a0_1 a0_2) else (laws_FnExactReplayOf.j0 k a1 bt106.1 bt106.2 bt113.1 true a0_0 a0_1 a0_2)))))) = some r := H
   have A10 := am A100
   clear A100
   replace H := Option.bind_eq_some_iff.mp H
   obtain ⟨⟨t106, t109⟩, A110, H⟩ := H
   replace H : ((laws_toPuzzle.f a0_0 a0_1 a0_2).bind fun bt110 => ((impl_ReplayOf.f k bt110.1 bt110.2.1 bt110.2.2 a1).bind fun bt113 => ((laws_eqStringS.f k bt113.1 t106).bind fun t117 => (if t117 = true then (laws_FnExactReplayOf.j0 k a1 t106 t109 bt113.1 (bt113.2 != t109) a0_0 a0_1 a0_2) else (laws_FnExactReplayOf.j0 k a1 t106 t109 bt113.1 true a0_0 a0_1 a0_2))))) = some r := H
   have A11 := am A110
   clear A110
   replace H := Option.bind_eq_some_iff.mp H
   obtain ⟨⟨t110, t111, t112⟩, A120, H⟩ := H
   replace H : ((impl_ReplayOf.f k t110 t111 t112 a1).bind fun bt113 => ((laws_eqStringS.f k bt113.1 t106).bind fun t117 => (if t117 = true then (laws_FnExactReplayOf.j0 k a1 t106 t109 bt113.1 (bt113.2 != t109) a0_0 a0_1 a0_2) else (laws_FnExactReplayOf.j0 k a1 t106 t109 bt113.1 true a0_0 a0_1 a0_2)))) = some r := H
   have A12 := am A120
   clear A120
   replace H := Option.bind_eq_some_iff.mp H
   obtain ⟨⟨t113, t116⟩, A130, H⟩ := H
   replace H : ((laws_eqStringS.f k t113 t106).bind fun t117 => (if t117 = true then (laws_FnExactReplayOf.j0 k a1 t106 t109 t113 (t116 != t109) a0_0 a0_1 a0_2) else (laws_FnExactReplayOf.j0 k a1 t106 t109 t113 true a0_0 a0_1 a0_2))) = some r := H
   have A13 := am A130
   clear A130
   have HC14 := am H
   clear H
   go_enter Tryz.func12, Tryz.ntmps12
   go_upto_region 9 with (first | ((with_reducible refine gate_dst (N := 2) rfl ?_); refine box_event ?hg (N := 2) ?hd (cs := #[.string a0_0, .string a0_1, .int .i64 a0_2]) (t := 53) ?hr ?_; (case hd => rfl); (case hg => rfl); (case hr => exact aq9); intro gb101 hg w15 hbox hb; have n0_ := am (below_step aq1 hb); have n1_ := am (hbox); have n2_ := am ((by rw [hg]; exact (below_size aq1) : w.heap.size ≤ gb101)); have n3_ := am ((by rw [hg]; exact (below_size aq1) : w.heap.size ≤ gb101)); clear HB; have HB := n0_; have BK101 := n1_; have GW101 := n2_; have GE101 := n3_; clear n0_ n1_ n2_ n3_; clear hb hbox hg; have hcz16_0 : w15.cell? ⟨gb101, 0, none⟩ = some (.string a0_0) := (blk_cell BK101.out 0).trans rfl; have hcz16_1 : w15.cell? ⟨gb101, 1, none⟩ = some (.string a0_1) := (blk_cell BK101.out 1).trans rfl; have hcz16_2 : w15.cell? ⟨gb101, 2, none⟩ = some (.int .i64 a0_2) := (blk_cell BK101.out 2).trans rfl; have hfz16_0 := blk_frozen BK101.out 0; have hfz16_1 := blk_frozen BK101.out 1; have hfz16_2 := blk_frozen BK101.out 2) | ((with_reducible refine gate_callee (f := 43) rfl ?_); refine goesL_ (some 19) rfl rfl Tryz.func43 (by kernel_rfl) rfl #[.agg #[.string a0_0, .string a0_1, .int .i64 a0_2], .int .i64 1048576] rfl aq3 ?_; (with_reducible refine (laws_szPuzzle.calls a0_0 a0_1 a0_2 1048576 t102 _ A5.out).mono ?_); rintro e w17 ⟨rfl, hb⟩; refine ⟨_, rfl, ?_⟩; have n0_ := am (blk_below (g := gb101) (o := .cells #[.string a0_0, .string a0_1, .int .i64 a0_2] 53 (0, 0)) aq2 hb); have n1_ := am (below_step aq0 hb); clear BK101; clear HB; have BK101 := n0_; have HB := n1_; clear n0_ n1_; (try clear hb); (try clear hb2); (try clear hk); (try clear hi); have hcz18_0 : w17.cell? ⟨gb101, 0, none⟩ = some (.string a0_0) := (blk_cell BK101.out 0).trans rfl; have hcz18_1 : w17.cell? ⟨gb101, 1, none⟩ = some (.string a0_1) := (blk_cell BK101.out 1).trans rfl; have hcz18_2 : w17.cell? ⟨gb101, 2, none⟩ = some (.int .i64 a0_2) := (blk_cell BK101.out 2).trans rfl; have hfz18_0 := blk_frozen BK101.out 0; have hfz18_1 := blk_frozen BK101.out 1; have hfz18_2 := blk_frozen BK101.out 2) | ((with_reducible refine gate_callee (f := 45) rfl ?_); refine goesL_ (some 24) rfl rfl Tryz.func45 (by kernel_rfl) rfl #[.agg #[.string a0_0, .string a0_1, .int .i64 a0_2]] rfl aq3 ?_; (with_reducible refine (laws_toPuzzle.calls a0_0 a0_1 a0_2 t103 t104 t105 _ A10.out).mono ?_); rintro e w19 ⟨rfl, hb⟩; refine ⟨_, rfl, ?_⟩; have n0_ := am (blk_below (g := gb101) (o := .cells #[.string a0_0, .string a0_1, .int .i64 a0_2] 53 (0, 0)) aq2 hb); have n1_ := am (below_step aq0 hb); clear BK101; clear HB; have BK101 := n0_; have HB := n1_; clear n0_ n1_; (try clear hb); (try clear hb2); (try clear hk); (try clear hi)) | ((with_reducible refine gate_callee (f := 44) rfl ?_); refine goesL_ (some 26) rfl rfl Tryz.func44 (by kernel_rfl) rfl #[.agg #[.string t103, .string t104, .int .i64 t105], .string a1] rfl aq3 ?_; (with_reducible refine (spec_ReplayOf.calls k t103 t104 t105 a1 t106 t109 _ A11.out).mono ?_); rintro e w20 ⟨v107, rfl, ho0, hb⟩; refine ⟨_, rfl, ?_⟩; have n0_ := am (Kd.R_lower ho0 (below_size aq0)); have n1_ := am (blk_below (g := gb101) (o := .cells #[.string a0_0, .string a0_1, .int .i64 a0_2] 53 (0, 0)) aq2 hb); have n2_ := am (below_step aq0 hb); clear BK101; clear HB; have HO108 := n0_; have BK101 := n1_; have HB := n2_; clear n0_ n1_ n2_; (try clear hb); (try clear hb2); (try clear hk); (try clear hi); (try clear ho0); have hcz21_0 : w20.cell? ⟨gb101, 0, none⟩ = some (.string a0_0) := (blk_cell BK101.out 0).trans rfl; have hcz21_1 : w20.cell? ⟨gb101, 1, none⟩ = some (.string a0_1) := (blk_cell BK101.out 1).trans rfl; have hcz21_2 : w20.cell? ⟨gb101, 2, none⟩ = some (.int .i64 a0_2) := (blk_cell BK101.out 2).trans rfl; have hfz21_0 := blk_frozen BK101.out 0; have hfz21_1 := blk_frozen BK101.out 1; have hfz21_2 := blk_frozen BK101.out 2) | ((with_reducible refine gate_callee (f := 45) rfl ?_); refine goesL_ (some 31) rfl rfl Tryz.func45 (by kernel_rfl) rfl #[.agg #[.string a0_0, .string a0_1, .int .i64 a0_2]] rfl aq3 ?_; (with_reducible refine (laws_toPuzzle.calls a0_0 a0_1 a0_2 t110 t111 t112 _ A12.out).mono ?_); rintro e w22 ⟨rfl, hb⟩; refine ⟨_, rfl, ?_⟩; have n0_ := am (Kd.R_below aq38 hb); have n1_ := am (blk_below (g := gb101) (o := .cells #[.string a0_0, .string a0_1, .int .i64 a0_2] 53 (0, 0)) aq2 hb); have n2_ := am (below_step aq0 hb); clear HO108; clear BK101; clear HB; have HO108 := n0_; have BK101 := n1_; have HB := n2_; clear n0_ n1_ n2_; (try clear hb); (try clear hb2); (try clear hk); (try clear hi)) | ((with_reducible refine gate_callee (f := 46) rfl ?_); refine goesL_ (some 33) rfl rfl Tryz.func46 (by kernel_rfl) rfl #[.agg #[.string t110, .string t111, .int .i64 t112], .string a1] rfl aq3 ?_; (with_reducible refine (impl_ReplayOf.calls k t110 t111 t112 a1 t113 t116 _ A13.out).mono ?_); rintro e w23 ⟨v114, rfl, ho0, hb⟩; refine ⟨_, rfl, ?_⟩; have n0_ := am (Kd.R_elder' aq38 (Kd.R_base ho0) hb); have n1_ := am (Kd.R_lower (Kd.R_new' ho0 (Kd.R_lt aq38)) (below_size aq0)); have n2_ := am (blk_below (g := gb101) (o := .cells #[.string a0_0, .string a0_1, .int .i64 a0_2] 53 (0, 0)) aq2 hb); have n3_ := am (below_step aq0 hb); clear HO108; clear BK101; clear HB; have HO108 := n0_; have HO115 := n1_; have BK101 := n2_; have HB := n3_; clear n0_ n1_ n2_ n3_; (try clear hb); (try clear hb2); (try clear hk); (try clear hi); (try clear ho0)))
   (try simp only [Act.put, List.setIfInBounds_toArray, List.set_cons_zero, List.set_cons_succ])
   go_cut [44] (fun v44 wc => ∃ (kq : Nat) (x44_13 : Bool), v44 = .bool x44_13 ∧ Aside0 (laws_FnExactReplayOf.j0 kq a1 t106 t109 t113 x44_13 a0_0 a0_1 a0_2 = some r) ∧ Aside0 (kq ≤ k) ∧ Aside0 (Kd.R Kd.string 9 wc w.heap.size (fun k_ => some k_ ≠ (v114 : Value).ownBlock) v107 t106) ∧ Aside0 (Kd.R Kd.string 9 wc w.heap.size (fun k_ => some k_ ≠ (v107 : Value).ownBlock) v114 t113) ∧ Aside0 (wc.heap[gb101]? = some (.cells #[.string a0_0, .string a0_1, .int .i64 a0_2] 53 (0, 0))) ∧ Aside0 (Below w.heap.size w wc))
   case first =>
    have H := HC14.out
    clear HC14
    replace H := Option.bind_eq_some_iff.mp H
    obtain ⟨t117, A240, H⟩ := H
    replace H : (if t117 = true then (laws_FnExactReplayOf.j0 k a1 t106 t109 t113 (t116 != t109) a0_0 a0_1 a0_2) else (laws_FnExactReplayOf.j0 k a1 t106 t109 t113 true a0_0 a0_1 a0_2)) = some r := H
    have A24 := am A240
    clear A240
    by_cases c25 : t117 = true
    ·subst c25
     have H1 : (laws_FnExactReplayOf.j0 k a1 t106 t109 t113 (t116 != t109) a0_0 a0_1 a0_2) = some r := by rw [if_pos rfl] at H; exact H
     clear H
     have H := H1
     clear H1
     have H' := am H
     clear H
     obtain ⟨Ao26, co26, eo26⟩ := Kd.R_slice HO115.out
     subst eo26
     obtain ⟨Ao27, co27, eo27⟩ := Kd.R_slice HO108.out
     subst eo27
     go_wp2_with (first | ((with_reducible refine gate_callee (f := 17) rfl ?_); refine goesL_ (some 38) rfl rfl Tryz.func17 (by kernel_rfl) rfl #[.slice Ao26 t113.length co26, .slice Ao27 t106.length co27] rfl aq3 ?_; (with_reducible refine (laws_eqStringS.calls k _ _ t113 _ _ t106 true _ ?side1 ?side2 ?side3 ?side4 A24.out).mono ?_); (case side1 => exact aq66); (case side2 => exact (Kd.R_reads' HO115.out).2.1); (case side3 => exact aq67); (case side4 => exact (Kd.R_reads' HO108.out).2.1); rintro e w' ⟨rfl, ⟨nd, rfl⟩⟩; refine ⟨_, rfl, ?_⟩))
     go_meet
     case rel => exact ⟨_, ((t116 != t109)), aq8, H', ⟨aq45⟩, ⟨aq76⟩, ⟨aq75⟩, ⟨aq2⟩, ⟨aq0⟩⟩
    ·replace c25 := Bool.eq_false_iff.mpr c25
     subst c25
     have H1 : (laws_FnExactReplayOf.j0 k a1 t106 t109 t113 true a0_0 a0_1 a0_2) = some r := by rw [if_neg (show ¬ (false = true) by decide)] at H; exact H
     clear H
     have H := H1
     clear H1
     have H' := am H
     clear H
     obtain ⟨Ao28, co28, eo28⟩ := Kd.R_slice HO115.out
     subst eo28
     obtain ⟨Ao29, co29, eo29⟩ := Kd.R_slice HO108.out
     subst eo29
     go_wp2_with (first | ((with_reducible refine gate_callee (f := 17) rfl ?_); refine goesL_ (some 38) rfl rfl Tryz.func17 (by kernel_rfl) rfl #[.slice Ao28 t113.length co28, .slice Ao29 t106.length co29] rfl aq3 ?_; (with_reducible refine (laws_eqStringS.calls k _ _ t113 _ _ t106 false _ ?side1 ?side2 ?side3 ?side4 A24.out).mono ?_); (case side1 => exact aq66); (case side2 => exact (Kd.R_reads' HO115.out).2.1); (case side3 => exact aq67); (case side4 => exact (Kd.R_reads' HO108.out).2.1); rintro e w' ⟨rfl, ⟨nd, rfl⟩⟩; refine ⟨_, rfl, ?_⟩))
     go_meet
     case rel => exact ⟨_, (true), aq8, H', ⟨aq45⟩, ⟨aq76⟩, ⟨aq75⟩, ⟨aq2⟩, ⟨aq0⟩⟩
   case rest =>
    clear HC14
    try clear c1
    try clear c2
    try clear p2
    try clear c3
    try clear c3b0
    try clear c3b1
    try clear c4
    try clear c6
    try clear c6b0
    try clear c12
    try clear c17
    try clear c25
    try clear hcz16_0
    try clear hcz16_1
    try clear hcz16_2
    try clear hcz18_0
    try clear hcz18_1
    try clear hcz18_2
    try clear hcz21_0
    try clear hcz21_1
    try clear hcz21_2
    try clear hcz8_0
    try clear hcz8_1
    try clear hcz8_2
    try clear hfz16_0
    try clear hfz16_1
    try clear hfz16_2
    try clear hfz18_0
    try clear hfz18_1
    try clear hfz18_2
    try clear hfz21_0
    try clear hfz21_1
    try clear hfz21_2
    try clear hfz8_0
    try clear hfz8_1
    try clear hfz8_2
    obtain ⟨kq, x44_13, rfl, HA, HJ13, HO_6, HO_8, BK101, HB⟩ := hcut
    cases kq with
    | zero => exact absurd HA.out (by simp [laws_FnExactReplayOf.j0])
    | succ kj13 =>
     have H := HA.out
     clear HA
     simp only [laws_FnExactReplayOf.j0] at H
     by_cases c30 : x44_13 = true
     ·subst c30
      have H1 : (some false) = some r := by rw [if_pos rfl] at H; exact H
      clear H
      have H := H1
      clear H1
      obtain rfl := Option.some.inj H
      go_wp2
      go_ret
      exact ⟨aq7, aq0⟩
     ·replace c30 := Bool.eq_false_iff.mpr c30
      subst c30
      have H1 : ((laws_markStringS.f kj13 t113 1).bind fun bt118 => ((laws_heldStringS.f kj13 bt118.2 1).bind fun t120 => (if t120 < 0 then (some false) else (if t120 = bt118.1 then ((laws_toPuzzle.f a0_0 a0_1 a0_2).bind fun bt121 => ((impl_ReplayOf.f kj13 bt121.1 bt121.2.1 bt121.2.2 a1).bind fun bt124 => ((laws_eqStringS.f kj13 bt124.1 t106).bind fun t128 => (if t128 = true then (laws_FnExactReplayOf.j1 kj13 bt118.2 bt118.1 (bt124.2 != t109)) else (laws_FnExactReplayOf.j1 kj13 bt118.2 bt118.1 true))))) else (some false))))) = some r := by rw [if_neg (show ¬ (false = true) by decide)] at H; exact H
      clear H
      have H := H1
      clear H1
      replace H := Option.bind_eq_some_iff.mp H
      obtain ⟨⟨t118, t119⟩, A310, H⟩ := H
      replace H : ((laws_heldStringS.f kj13 t119 1).bind fun t120 => (if t120 < 0 then (some false) else (if t120 = t118 then ((laws_toPuzzle.f a0_0 a0_1 a0_2).bind fun bt121 => ((impl_ReplayOf.f kj13 bt121.1 bt121.2.1 bt121.2.2 a1).bind fun bt124 => ((laws_eqStringS.f kj13 bt124.1 t106).bind fun t128 => (if t128 = true then (laws_FnExactReplayOf.j1 kj13 t119 t118 (bt124.2 != t109)) else (laws_FnExactReplayOf.j1 kj13 t119 t118 true))))) else (some false)))) = some r := H
      have A31 := am A310
      clear A310
      replace H := Option.bind_eq_some_iff.mp H
      obtain ⟨t120, A320, H⟩ := H
      replace H : (if t120 < 0 then (some false) else (if t120 = t118 then ((laws_toPuzzle.f a0_0 a0_1 a0_2).bind fun bt121 => ((impl_ReplayOf.f kj13 bt121.1 bt121.2.1 bt121.2.2 a1).bind fun bt124 => ((laws_eqStringS.f kj13 bt124.1 t106).bind fun t128 => (if t128 = true then (laws_FnExactReplayOf.j1 kj13 t119 t118 (bt124.2 != t109)) else (laws_FnExactReplayOf.j1 kj13 t119 t118 true))))) else (some false))) = some r := H
      have A32 := am A320
      clear A320
      by_cases c33 : t120 < 0
      ·rw [if_pos c33] at H
       have c33b0 : decide (t120 < 0) = true := decide_eq_true c33
       clear c33
       obtain rfl := Option.some.inj H
       obtain ⟨Ao34, co34, eo34⟩ := Kd.R_slice HO_8.out
       subst eo34
       go_wp2_with (first | ((with_reducible refine gate_callee (f := 18) rfl ?_); refine goesL_ (some 47) rfl rfl Tryz.func18 (by kernel_rfl) rfl #[.slice Ao34 t113.length co34, .int .i64 1] rfl aq3 ?_; (with_reducible refine (laws_markStringS.calls kj13 (fun k_ => some k_ = (.slice Ao34 t113.length co34 : Value).ownBlock) (.slice Ao34 t113.length co34) t113 1 t118 t119 w _ ?side1 ?side2 A31.out).mono ?_); (case side1 => exact aq0); (case side2 => exact Kd.R_tight rfl HO_8.out); rintro e w35 ⟨rfl, hy0, hb, hkp⟩; refine ⟨_, rfl, ?_⟩; have n0_ := am (Kd.R_mono (ok' := fun k_ => some k_ ≠ (.slice Ao34 t113.length co34 : Value).ownBlock) (Kd.R_keptB (HO_6.out) hkp (fun k_ hk_ hs_ => (hk_) hs_)) (fun k_ hk_ => hk_.1)); have n1_ := am (Kd.R_reok rfl hy0 (fun k_ e_ => HO_8.out.1 k_ e_)); have n2_ := am (blk_kept aq2 hkp (fun hs_ => (fun e_ => (Kd.R_ne HO_8.out BK101.out (by decide)) e_) hs_)); have n3_ := am (hb); clear HO_6; clear HO_8; clear BK101; clear HB; have HO_6 := n0_; have HO_8 := n1_; have BK101 := n2_; have HB := n3_; clear n0_ n1_ n2_ n3_; (try clear hb); (try clear hkp); (try clear hy0)) | ((with_reducible refine gate_callee (f := 19) rfl ?_); refine goesL_ (some 50) rfl rfl Tryz.func19 (by kernel_rfl) rfl #[.slice Ao34 t119.length co34, .int .i64 1] rfl aq37 ?_; (with_reducible refine (laws_heldStringS.calls kj13 _ _ t119 1 t120 _ ?side1 ?side2 A32.out).mono ?_); (case side1 => exact aq25); (case side2 => exact aq60); rintro e w36 ⟨rfl, hb⟩; refine ⟨_, rfl, ?_⟩; have n0_ := am (Kd.R_below aq23 hb); have n1_ := am (Kd.R_below aq12 hb); have n2_ := am (blk_below (g := gb101) (o := .cells #[.string a0_0, .string a0_1, .int .i64 a0_2] 53 (0, 0)) aq2 hb); have n3_ := am (below_step aq0 hb); clear HO_6; clear HO_8; clear BK101; clear HB; have HO_6 := n0_; have HO_8 := n1_; have BK101 := n2_; have HB := n3_; clear n0_ n1_ n2_ n3_; (try clear hb); (try clear hb2); (try clear hk); (try clear hi)))
       go_ret
       exact ⟨aq7, aq0⟩
      ·rw [if_neg c33] at H
       have c33b0 : decide (t120 < 0) = false := decide_eq_false c33
       clear c33
       by_cases c37 : t120 = t118
       ·rw [if_pos c37] at H
        have c37b0 : (t120 == t118) = true := beq_iff_eq.mpr c37
        have c37b1 : (t120 != t118) = false := bne_eq_false_iff_eq.mpr c37
        clear c37
        replace H := Option.bind_eq_some_iff.mp H
        obtain ⟨⟨t121, t122, t123⟩, A380, H⟩ := H
        replace H : ((impl_ReplayOf.f kj13 t121 t122 t123 a1).bind fun bt124 => ((laws_eqStringS.f kj13 bt124.1 t106).bind fun t128 => (if t128 = true then (laws_FnExactReplayOf.j1 kj13 t119 t118 (bt124.2 != t109)) else (laws_FnExactReplayOf.j1 kj13 t119 t118 true)))) = some r := H
        have A38 := am A380
        clear A380
        replace H := Option.bind_eq_some_iff.mp H
        obtain ⟨⟨t124, t127⟩, A390, H⟩ := H
        replace H : ((laws_eqStringS.f kj13 t124 t106).bind fun t128 => (if t128 = true then (laws_FnExactReplayOf.j1 kj13 t119 t118 (t127 != t109)) else (laws_FnExactReplayOf.j1 kj13 t119 t118 true))) = some r := H
        have A39 := am A390
        clear A390
        have HC40 := am H
        clear H
        obtain ⟨Ao41, co41, eo41⟩ := Kd.R_slice HO_8.out
        subst eo41
        go_upto_region 20 with (first | ((with_reducible refine gate_callee (f := 18) rfl ?_); refine goesL_ (some 47) rfl rfl Tryz.func18 (by kernel_rfl) rfl #[.slice Ao41 t113.length co41, .int .i64 1] rfl aq3 ?_; (with_reducible refine (laws_markStringS.calls kj13 (fun k_ => some k_ = (.slice Ao41 t113.length co41 : Value).ownBlock) (.slice Ao41 t113.length co41) t113 1 t118 t119 w _ ?side1 ?side2 A31.out).mono ?_); (case side1 => exact aq0); (case side2 => exact Kd.R_tight rfl HO_8.out); rintro e w42 ⟨rfl, hy0, hb, hkp⟩; refine ⟨_, rfl, ?_⟩; have n0_ := am (Kd.R_mono (ok' := fun k_ => some k_ ≠ (.slice Ao41 t113.length co41 : Value).ownBlock) (Kd.R_keptB (HO_6.out) hkp (fun k_ hk_ hs_ => (hk_) hs_)) (fun k_ hk_ => hk_.1)); have n1_ := am (Kd.R_reok rfl hy0 (fun k_ e_ => HO_8.out.1 k_ e_)); have n2_ := am (blk_kept aq2 hkp (fun hs_ => (fun e_ => (Kd.R_ne HO_8.out BK101.out (by decide)) e_) hs_)); have n3_ := am (hb); clear HO_6; clear HO_8; clear BK101; clear HB; have HO_6 := n0_; have HO_8 := n1_; have BK101 := n2_; have HB := n3_; clear n0_ n1_ n2_ n3_; (try clear hb); (try clear hkp); (try clear hy0)) | ((with_reducible refine gate_callee (f := 19) rfl ?_); refine goesL_ (some 50) rfl rfl Tryz.func19 (by kernel_rfl) rfl #[.slice Ao41 t119.length co41, .int .i64 1] rfl aq37 ?_; (with_reducible refine (laws_heldStringS.calls kj13 _ _ t119 1 t120 _ ?side1 ?side2 A32.out).mono ?_); (case side1 => exact aq25); (case side2 => exact aq60); rintro e w43 ⟨rfl, hb⟩; refine ⟨_, rfl, ?_⟩; have n0_ := am (Kd.R_below aq23 hb); have n1_ := am (Kd.R_below aq12 hb); have n2_ := am (blk_below (g := gb101) (o := .cells #[.string a0_0, .string a0_1, .int .i64 a0_2] 53 (0, 0)) aq2 hb); have n3_ := am (below_step aq0 hb); clear HO_6; clear HO_8; clear BK101; clear HB; have HO_6 := n0_; have HO_8 := n1_; have BK101 := n2_; have HB := n3_; clear n0_ n1_ n2_ n3_; (try clear hb); (try clear hb2); (try clear hk); (try clear hi); have hcz44_0 : w43.cell? ⟨gb101, 0, none⟩ = some (.string a0_0) := (blk_cell BK101.out 0).trans rfl; have hcz44_1 : w43.cell? ⟨gb101, 1, none⟩ = some (.string a0_1) := (blk_cell BK101.out 1).trans rfl; have hcz44_2 : w43.cell? ⟨gb101, 2, none⟩ = some (.int .i64 a0_2) := (blk_cell BK101.out 2).trans rfl; have hfz44_0 := blk_frozen BK101.out 0; have hfz44_1 := blk_frozen BK101.out 1; have hfz44_2 := blk_frozen BK101.out 2) | ((with_reducible refine gate_callee (f := 45) rfl ?_); refine goesL_ (some 58) rfl rfl Tryz.func45 (by kernel_rfl) rfl #[.agg #[.string a0_0, .string a0_1, .int .i64 a0_2]] rfl aq3 ?_; (with_reducible refine (laws_toPuzzle.calls a0_0 a0_1 a0_2 t121 t122 t123 _ A38.out).mono ?_); rintro e w45 ⟨rfl, hb⟩; refine ⟨_, rfl, ?_⟩; have n0_ := am (Kd.R_below aq23 hb); have n1_ := am (Kd.R_below aq12 hb); have n2_ := am (blk_below (g := gb101) (o := .cells #[.string a0_0, .string a0_1, .int .i64 a0_2] 53 (0, 0)) aq2 hb); have n3_ := am (below_step aq0 hb); clear HO_6; clear HO_8; clear BK101; clear HB; have HO_6 := n0_; have HO_8 := n1_; have BK101 := n2_; have HB := n3_; clear n0_ n1_ n2_ n3_; (try clear hb); (try clear hb2); (try clear hk); (try clear hi)) | ((with_reducible refine gate_callee (f := 46) rfl ?_); refine goesL_ (some 60) rfl rfl Tryz.func46 (by kernel_rfl) rfl #[.agg #[.string t121, .string t122, .int .i64 t123], .string a1] rfl aq3 ?_; (with_reducible refine (impl_ReplayOf.calls kj13 t121 t122 t123 a1 t124 t127 _ A39.out).mono ?_); rintro e w46 ⟨v125, rfl, ho0, hb⟩; refine ⟨_, rfl, ?_⟩; have n0_ := am (Kd.R_elder' aq23 (Kd.R_base ho0) hb); have n1_ := am (Kd.R_elder' aq12 (Kd.R_base ho0) hb); have n2_ := am (Kd.R_lower (Kd.R_new' (Kd.R_new' ho0 (Kd.R_lt aq23)) (Kd.R_lt aq12)) (below_size aq0)); have n3_ := am (blk_below (g := gb101) (o := .cells #[.string a0_0, .string a0_1, .int .i64 a0_2] 53 (0, 0)) aq2 hb); have n4_ := am (below_step aq0 hb); clear HO_6; clear HO_8; clear BK101; clear HB; have HO_6 := n0_; have HO_8 := n1_; have HO126 := n2_; have BK101 := n3_; have HB := n4_; clear n0_ n1_ n2_ n3_ n4_; (try clear hb); (try clear hb2); (try clear hk); (try clear hi); (try clear ho0)))
        (try simp only [Act.put, List.setIfInBounds_toArray, List.set_cons_zero, List.set_cons_succ])
        go_cut [71] (fun v71 wc => ∃ (kq : Nat) (x71_39 : Bool), v71 = .bool x71_39 ∧ Aside0 (laws_FnExactReplayOf.j1 kq t119 t118 x71_39 = some r) ∧ Aside0 (kq ≤ kj13) ∧ Aside0 (Kd.R Kd.string 9 wc w.heap.size (fun _ => True) (.slice Ao41 t113.length co41) t119) ∧ Aside0 (wc.heap[gb101]? = some (.cells #[.string a0_0, .string a0_1, .int .i64 a0_2] 53 (0, 0))) ∧ Aside0 (Below w.heap.size w wc))
        case first =>
         have H := HC40.out
         clear HC40
         replace H := Option.bind_eq_some_iff.mp H
         obtain ⟨t128, A470, H⟩ := H
         replace H : (if t128 = true then (laws_FnExactReplayOf.j1 kj13 t119 t118 (t127 != t109)) else (laws_FnExactReplayOf.j1 kj13 t119 t118 true)) = some r := H
         have A47 := am A470
         clear A470
         by_cases c48 : t128 = true
         ·subst c48
          have H1 : (laws_FnExactReplayOf.j1 kj13 t119 t118 (t127 != t109)) = some r := by rw [if_pos rfl] at H; exact H
          clear H
          have H := H1
          clear H1
          have H' := am H
          clear H
          obtain ⟨Ao49, co49, eo49⟩ := Kd.R_slice HO126.out
          subst eo49
          obtain ⟨Ao50, co50, eo50⟩ := Kd.R_slice HO_6.out
          subst eo50
          go_wp2_with (first | ((with_reducible refine gate_callee (f := 17) rfl ?_); refine goesL_ (some 65) rfl rfl Tryz.func17 (by kernel_rfl) rfl #[.slice Ao49 t124.length co49, .slice Ao50 t106.length co50] rfl aq3 ?_; (with_reducible refine (laws_eqStringS.calls kj13 _ _ t124 _ _ t106 true _ ?side1 ?side2 ?side3 ?side4 A47.out).mono ?_); (case side1 => exact aq65); (case side2 => exact (Kd.R_reads' HO126.out).2.1); (case side3 => exact aq68); (case side4 => exact (Kd.R_reads' HO_6.out).2.1); rintro e w' ⟨rfl, ⟨nd, rfl⟩⟩; refine ⟨_, rfl, ?_⟩))
          go_meet
          case rel => exact ⟨_, ((t127 != t109)), aq8, H', ⟨by have := HJ13.out; first | omega | exact Nat.le_refl _⟩, ⟨aq74⟩, ⟨aq2⟩, ⟨aq0⟩⟩
         ·replace c48 := Bool.eq_false_iff.mpr c48
          subst c48
          have H1 : (laws_FnExactReplayOf.j1 kj13 t119 t118 true) = some r := by rw [if_neg (show ¬ (false = true) by decide)] at H; exact H
          clear H
          have H := H1
          clear H1
          have H' := am H
          clear H
          obtain ⟨Ao51, co51, eo51⟩ := Kd.R_slice HO126.out
          subst eo51
          obtain ⟨Ao52, co52, eo52⟩ := Kd.R_slice HO_6.out
          subst eo52
          go_wp2_with (first | ((with_reducible refine gate_callee (f := 17) rfl ?_); refine goesL_ (some 65) rfl rfl Tryz.func17 (by kernel_rfl) rfl #[.slice Ao51 t124.length co51, .slice Ao52 t106.length co52] rfl aq3 ?_; (with_reducible refine (laws_eqStringS.calls kj13 _ _ t124 _ _ t106 false _ ?side1 ?side2 ?side3 ?side4 A47.out).mono ?_); (case side1 => exact aq65); (case side2 => exact (Kd.R_reads' HO126.out).2.1); (case side3 => exact aq68); (case side4 => exact (Kd.R_reads' HO_6.out).2.1); rintro e w' ⟨rfl, ⟨nd, rfl⟩⟩; refine ⟨_, rfl, ?_⟩))
          go_meet
          case rel => exact ⟨_, (true), aq8, H', ⟨by have := HJ13.out; first | omega | exact Nat.le_refl _⟩, ⟨aq74⟩, ⟨aq2⟩, ⟨aq0⟩⟩
        case rest =>
         clear HC40
         try clear c1
         try clear c2
         try clear p2
         try clear c3
         try clear c3b0
         try clear c3b1
         try clear c4
         try clear c6
         try clear c6b0
         try clear c12
         try clear c17
         try clear c18
         try clear c19
         try clear c25
         try clear c30
         try clear c33
         try clear c33b0
         try clear c37
         try clear c37b0
         try clear c37b1
         try clear c43
         try clear c44
         try clear c45
         try clear c46
         try clear c48
         try clear hcz16_0
         try clear hcz16_1
         try clear hcz16_2
         try clear hcz18_0
         try clear hcz18_1
         try clear hcz18_2
         try clear hcz21_0
         try clear hcz21_1
         try clear hcz21_2
         try clear hcz44_0
         try clear hcz44_1
         try clear hcz44_2
         try clear hcz8_0
         try clear hcz8_1
         try clear hcz8_2
         try clear hfz16_0
         try clear hfz16_1
         try clear hfz16_2
         try clear hfz18_0
         try clear hfz18_1
         try clear hfz18_2
         try clear hfz21_0
         try clear hfz21_1
         try clear hfz21_2
         try clear hfz44_0
         try clear hfz44_1
         try clear hfz44_2
         try clear hfz8_0
         try clear hfz8_1
         try clear hfz8_2
         try clear p2
         obtain ⟨kq, x71_39, rfl, HA, HJ39, HO_8, BK101, HB⟩ := hcut
         have hl8_39 := (Kd.R_reads' HO_8.out).1
         rw [hl8_39] at HO_8
         (try simp only [hl8_39])
         (try simp only [hl8_39] at BK101)
         cases kq with
         | zero => exact absurd HA.out (by simp [laws_FnExactReplayOf.j1])
         | succ kj39 =>
          have H := HA.out
          clear HA
          simp only [laws_FnExactReplayOf.j1] at H
          by_cases c53 : x71_39 = true
          ·subst c53
           have H1 : (some false) = some r := by rw [if_pos rfl] at H; exact H
           clear H
           have H := H1
           clear H1
           obtain rfl := Option.some.inj H
           go_wp2
           go_ret
           exact ⟨aq7, aq0⟩
          ·replace c53 := Bool.eq_false_iff.mpr c53
           subst c53
           have H1 : ((laws_heldStringS.f kj39 t119 1).bind fun t129 => (if t129 < 0 then (some false) else (if t129 = t118 then (some true) else (some false)))) = some r := by rw [if_neg (show ¬ (false = true) by decide)] at H; exact H
           clear H
           have H := H1
           clear H1
           replace H := Option.bind_eq_some_iff.mp H
           obtain ⟨t129, A540, H⟩ := H
           replace H : (if t129 < 0 then (some false) else (if t129 = t118 then (some true) else (some false))) = some r := H
           have A54 := am A540
           clear A540
           by_cases c55 : t129 < 0
           ·rw [if_pos c55] at H
            have c55b0 : decide (t129 < 0) = true := decide_eq_true c55
            clear c55
            obtain rfl := Option.some.inj H
            go_wp2_with (first | ((with_reducible refine gate_callee (f := 19) rfl ?_); refine goesL_ (some 74) rfl rfl Tryz.func19 (by kernel_rfl) rfl #[.slice Ao41 t119.length co41, .int .i64 1] rfl aq3 ?_; (with_reducible refine (laws_heldStringS.calls kj39 _ _ t119 1 t129 _ ?side1 ?side2 A54.out).mono ?_); (case side1 => exact aq25); (case side2 => exact (Kd.R_reads' HO_8.out).2.1); rintro e w56 ⟨rfl, hb⟩; refine ⟨_, rfl, ?_⟩; have n0_ := am (Kd.R_below aq12 hb); have n1_ := am (blk_below (g := gb101) (o := .cells #[.string a0_0, .string a0_1, .int .i64 a0_2] 53 (0, 0)) aq2 hb); have n2_ := am (below_step aq0 hb); clear HO_8; clear BK101; clear HB; have HO_8 := n0_; have BK101 := n1_; have HB := n2_; clear n0_ n1_ n2_; (try clear hb); (try clear hb2); (try clear hk); (try clear hi)))
            go_ret
            exact ⟨aq7, aq0⟩
           ·rw [if_neg c55] at H
            have c55b0 : decide (t129 < 0) = false := decide_eq_false c55
            clear c55
            by_cases c57 : t129 = t118
            ·rw [if_pos c57] at H
             have c57b0 : (t129 == t118) = true := beq_iff_eq.mpr c57
             have c57b1 : (t129 != t118) = false := bne_eq_false_iff_eq.mpr c57
             clear c57
             obtain rfl := Option.some.inj H
             go_wp2_with (first | ((with_reducible refine gate_callee (f := 19) rfl ?_); refine goesL_ (some 74) rfl rfl Tryz.func19 (by kernel_rfl) rfl #[.slice Ao41 t119.length co41, .int .i64 1] rfl aq3 ?_; (with_reducible refine (laws_heldStringS.calls kj39 _ _ t119 1 t129 _ ?side1 ?side2 A54.out).mono ?_); (case side1 => exact aq25); (case side2 => exact (Kd.R_reads' HO_8.out).2.1); rintro e w58 ⟨rfl, hb⟩; refine ⟨_, rfl, ?_⟩; have n0_ := am (Kd.R_below aq12 hb); have n1_ := am (blk_below (g := gb101) (o := .cells #[.string a0_0, .string a0_1, .int .i64 a0_2] 53 (0, 0)) aq2 hb); have n2_ := am (below_step aq0 hb); clear HO_8; clear BK101; clear HB; have HO_8 := n0_; have BK101 := n1_; have HB := n2_; clear n0_ n1_ n2_; (try clear hb); (try clear hb2); (try clear hk); (try clear hi)))
             go_ret
             exact ⟨aq7, aq0⟩
            ·rw [if_neg c57] at H
             have c57b0 : (t129 == t118) = false := beq_eq_false_iff_ne.mpr c57
             have c57b1 : (t129 != t118) = true := bne_iff_ne.mpr c57
             obtain rfl := Option.some.inj H
             go_wp2_with (first | ((with_reducible refine gate_callee (f := 19) rfl ?_); refine goesL_ (some 74) rfl rfl Tryz.func19 (by kernel_rfl) rfl #[.slice Ao41 t119.length co41, .int .i64 1] rfl aq3 ?_; (with_reducible refine (laws_heldStringS.calls kj39 _ _ t119 1 t129 _ ?side1 ?side2 A54.out).mono ?_); (case side1 => exact aq25); (case side2 => exact (Kd.R_reads' HO_8.out).2.1); rintro e w59 ⟨rfl, hb⟩; refine ⟨_, rfl, ?_⟩; have n0_ := am (Kd.R_below aq12 hb); have n1_ := am (blk_below (g := gb101) (o := .cells #[.string a0_0, .string a0_1, .int .i64 a0_2] 53 (0, 0)) aq2 hb); have n2_ := am (below_step aq0 hb); clear HO_8; clear BK101; clear HB; have HO_8 := n0_; have BK101 := n1_; have HB := n2_; clear n0_ n1_ n2_; (try clear hb); (try clear hb2); (try clear hk); (try clear hi)))
             go_ret
             exact ⟨aq7, aq0⟩
       ·rw [if_neg c37] at H
        have c37b0 : (t120 == t118) = false := beq_eq_false_iff_ne.mpr c37
        have c37b1 : (t120 != t118) = true := bne_iff_ne.mpr c37
        obtain rfl := Option.some.inj H
        obtain ⟨Ao60, co60, eo60⟩ := Kd.R_slice HO_8.out
        subst eo60
        go_wp2_with (first | ((with_reducible refine gate_callee (f := 18) rfl ?_); refine goesL_ (some 47) rfl rfl Tryz.func18 (by kernel_rfl) rfl #[.slice Ao60 t113.length co60, .int .i64 1] rfl aq3 ?_; (with_reducible refine (laws_markStringS.calls kj13 (fun k_ => some k_ = (.slice Ao60 t113.length co60 : Value).ownBlock) (.slice Ao60 t113.length co60) t113 1 t118 t119 w _ ?side1 ?side2 A31.out).mono ?_); (case side1 => exact aq0); (case side2 => exact Kd.R_tight rfl HO_8.out); rintro e w61 ⟨rfl, hy0, hb, hkp⟩; refine ⟨_, rfl, ?_⟩; have n0_ := am (Kd.R_mono (ok' := fun k_ => some k_ ≠ (.slice Ao60 t113.length co60 : Value).ownBlock) (Kd.R_keptB (HO_6.out) hkp (fun k_ hk_ hs_ => (hk_) hs_)) (fun k_ hk_ => hk_.1)); have n1_ := am (Kd.R_reok rfl hy0 (fun k_ e_ => HO_8.out.1 k_ e_)); have n2_ := am (blk_kept aq2 hkp (fun hs_ => (fun e_ => (Kd.R_ne HO_8.out BK101.out (by decide)) e_) hs_)); have n3_ := am (hb); clear HO_6; clear HO_8; clear BK101; clear HB; have HO_6 := n0_; have HO_8 := n1_; have BK101 := n2_; have HB := n3_; clear n0_ n1_ n2_ n3_; (try clear hb); (try clear hkp); (try clear hy0)) | ((with_reducible refine gate_callee (f := 19) rfl ?_); refine goesL_ (some 50) rfl rfl Tryz.func19 (by kernel_rfl) rfl #[.slice Ao60 t119.length co60, .int .i64 1] rfl aq37 ?_; (with_reducible refine (laws_heldStringS.calls kj13 _ _ t119 1 t120 _ ?side1 ?side2 A32.out).mono ?_); (case side1 => exact aq25); (case side2 => exact aq60); rintro e w62 ⟨rfl, hb⟩; refine ⟨_, rfl, ?_⟩; have n0_ := am (Kd.R_below aq23 hb); have n1_ := am (Kd.R_below aq12 hb); have n2_ := am (blk_below (g := gb101) (o := .cells #[.string a0_0, .string a0_1, .int .i64 a0_2] 53 (0, 0)) aq2 hb); have n3_ := am (below_step aq0 hb); clear HO_6; clear HO_8; clear BK101; clear HB; have HO_6 := n0_; have HO_8 := n1_; have BK101 := n2_; have HB := n3_; clear n0_ n1_ n2_ n3_; (try clear hb); (try clear hb2); (try clear hk); (try clear hi)))
        go_ret
        exact ⟨aq7, aq0⟩
end Go.Proofs.YtdffgeoegdkiaaaGreatDoor.F

namespace Go.Proofs.YtdffgeoegdkiaaaGreatDoor.F
open Go.RowKit Go.Proofs.YtdffgeoegdkiaaaGreatDoor Go.Proofs.YtdffgeoegdkiaaaGreatDoorW.PrintWords Go.Proofs.YtdffgeoegdkiaaaGreatDoorW.PrintMore
set_option linter.unusedVariables false
set_option linter.unusedSimpArgs false
def replayL (g : (Nat × Nat × List Int)) (ds : List Nat) (n : Nat) : List ByteArray := (List.range n).map fun i => textB (runG (ds.take i) g)
theorem replayL_length (g : (Nat × Nat × List Int)) (ds : List Nat) (n : Nat) : (replayL g ds n).length = n := by simp [replayL]
theorem replayL_succ (g : (Nat × Nat × List Int)) (ds : List Nat) (n : Nat) : replayL g ds (n + 1) = replayL g ds n ++ [textB (runG (ds.take n) g)] := by
  unfold replayL; rw [List.range_succ, List.map_append]; rfl
def replayA (t n : ByteArray) (goal : Int) (wd : ByteArray) : List ByteArray × Bool := if puzB t n goal = true ∧ isWordB (bytesOf wd) = true then (match tyGrid (bytesOf t) with | none => ([], false) | some g => (replayL g (wordD wd) (wd.size + 1), true)) else ([], false)
section
variable {t wd : ByteArray} {w h : Nat} {cs : List Int} (hg : tyGrid (bytesOf t) = some (w, h, cs)) (hs : isWordB (bytesOf wd) = true)
include hg hs
theorem impl_replay_l0 (n0 : ByteArray) (goal : Int) : ∀ (n i : Nat), i + n = wd.size + 1 → Ev (fun k => impl_ReplayOf.l0 k wd (replayL (w, h, cs) (wordD wd) i) ((wd.size + 1 : Nat) : Int) (i : Int) t n0 goal) (replayL (w, h, cs) (wordD wd) (wd.size + 1), true)
  | 0, i, hi => by
    obtain rfl : i = wd.size + 1 := by omega
    exact Ev.step (fun k => by rw [impl_ReplayOf.l0, if_neg (by omega)]) (Ev.now _)
  | n + 1, i, hi => by
    have hz := word_size hs
    obtain ⟨v, _⟩ := textB_grid hg
    have HW : Aside0 (wrap64 ((i : Int) + 1) = ((i + 1 : Nat) : Int)) := ⟨by rw [w64 (by omega) (by omega)]; rfl⟩
    have hA := tiltedAll_ev ⟨v.w1, v.w7⟩ ⟨v.h1, v.h7⟩ (isWord_take hs i) (cs := cs) v.len
    rw [wordD_take] at hA
    have hX := impl_text_eq (runG_V ((wordD wd).take i) (fun d hd => wordD_lt wd d (List.mem_of_mem_take hd)) v)
    have ih := impl_replay_l0 n0 goal n (i + 1) (by omega)
    rw [replayL_succ] at ih
    refine Ev.step (f := fun k => (impl_tray_tiltedAll.f k w h cs (wd.extract 0 i)).bind fun bt112 => (impl_tray_text.f bt112.1 bt112.2.1 bt112.2.2).bind fun t117 => impl_ReplayOf.l0 k wd (replayL (w, h, cs) (wordD wd) i ++ [t117]) ((wd.size + 1 : Nat) : Int) ((i + 1 : Nat) : Int) t n0 goal) (fun k => ?_) (Ev.bind hA (Ev.congr (fun k => ?_) ih))
    · rw [impl_ReplayOf.l0, if_pos (by omega), impl_read_eq t hg, Option.bind_some, if_pos (by omega), if_pos (by omega), HW.out, Int.toNat_natCast]
      simp only [if_pos (show (replayL (w, h, cs) (wordD wd) i).length < 8796093022208 by rw [replayL_length]; omega)]
    · show (impl_tray_text.f (w : Int) (h : Int) (runD w h cs ((wordD wd).take i))).bind _ = _
      rw [show impl_tray_text.f (w : Int) (h : Int) (runD w h cs ((wordD wd).take i)) = some (textB (runG ((wordD wd).take i) (w, h, cs))) from hX, Option.bind_some]
theorem spec_replay_l0 : ∀ (n i : Nat), i + n = wd.size → Ev (fun k => spec_ReplayOf.l0 k wd (replayL (w, h, cs) (wordD wd) (i + 1)) (i : Int) w h (runD w h cs ((wordD wd).take i))) (replayL (w, h, cs) (wordD wd) (wd.size + 1), true)
  | 0, i, hi => by
    obtain rfl : i = wd.size := by omega
    exact Ev.step (fun k => by rw [spec_ReplayOf.l0, if_neg (by omega)]) (Ev.now _)
  | n + 1, i, hi => by
    have hz := word_size hs
    have hil : i < wd.size := by omega
    obtain ⟨v, _⟩ := textB_grid hg
    have hw : 1 ≤ w ∧ w ≤ 7 := ⟨v.w1, v.w7⟩
    have hh : 1 ≤ h ∧ h ≤ 7 := ⟨v.h1, v.h7⟩
    have hl : (runD w h cs ((wordD wd).take i)).length = w * h := by rw [runD_length]; exact v.len
    have HW : Aside0 (wrap64 ((i : Int) + 1) = ((i + 1 : Nat) : Int)) := ⟨by rw [w64 (by omega) (by omega)]; rfl⟩
    obtain ⟨_, h2⟩ := (isWordB_iff _).1 hs
    have hb : (bytesOf wd).drop i = bt wd i :: (bytesOf wd).drop (i + 1) := bytesOf_drop wd i hil
    have hdir : isDirC (bt wd i) = true := h2 _ (List.mem_of_mem_drop (by rw [hb]; exact List.mem_cons_self))
    obtain ⟨q1, q2, q3⟩ := dirB_ix hdir
    have hdw : (wordD wd).take (i + 1) = (wordD wd).take i ++ [(dirIx (bt wd i)).toNat] := by
      have : (wordD wd)[i]? = some (dirIx (bt wd i)).toNat := by
        unfold wordD dirsL
        rw [List.getElem?_map, bytesOf_get wd i hil]; rfl
      obtain ⟨hlt, he⟩ := List.getElem?_eq_some_iff.1 this
      rw [List.take_succ_eq_append_getElem hlt, he]
    have hT := spec_tiTilt_eq (d := (dirIx (bt wd i)).toNat) hw hh hl q2
    rw [show (((dirIx (bt wd i)).toNat : Nat) : Int) = dirIx (bt wd i) by omega, ← runD_snoc, ← hdw] at hT
    have hX := spec_text_ev (w := w) (h := h) (cs := runD w h cs ((wordD wd).take (i + 1))) (by omega) (by omega) (by rw [runD_length]; exact v.len)
    have ih := spec_replay_l0 n (i + 1) (by omega)
    rw [replayL_succ] at ih
    refine Ev.step (f := fun k => (spec_tiDir.f k (wd.extract i (i + 1))).bind fun t114 => (spec_tiTilt.f w h (runD w h cs ((wordD wd).take i)) t114).bind fun bt115 => (spec_tyText.f k bt115.1 bt115.2.1 bt115.2.2).bind fun t120 => spec_ReplayOf.l0 k wd (replayL (w, h, cs) (wordD wd) (i + 1) ++ [t120]) ((i + 1 : Nat) : Int) bt115.1 bt115.2.1 bt115.2.2) (fun k => ?_) (Ev.bind (tiDir_ev _ _ (bytes_extract wd i hil)) (Ev.congr (fun k => by rw [hT, Option.bind_some]) (Ev.bind hX ih)))
    rw [spec_ReplayOf.l0, if_pos (by omega), if_pos (by omega), HW.out, if_pos (by omega), if_pos (by omega), Int.toNat_natCast, Int.toNat_natCast]
    simp only [if_pos (show (replayL (w, h, cs) (wordD wd) (i + 1)).length < 8796093022208 by rw [replayL_length]; omega)]
end
theorem impl_replay_ev (t n : ByteArray) (goal : Int) (wd : ByteArray) (ht : t.size < 4294967281) : Ev (fun k => impl_ReplayOf.f k t n goal wd) (replayA t n goal wd) := by
  have hno : Ev (fun k => impl_ReplayOf.j0 k wd true t n goal) (([] : List ByteArray), false) := Ev.step (fun k => by rw [impl_ReplayOf.j0, if_pos rfl]) (Ev.now _)
  unfold replayA
  refine Ev.bind (impl_IsPuzzle_ev t n goal ht) ?_
  by_cases hp : puzB t n goal = true
  · refine Ev.congr (fun k => by rw [if_pos hp, impl_IsWord_eq, Option.bind_some]) ?_
    by_cases hs : isWordB (bytesOf wd) = true
    · rw [if_pos ⟨hp, hs⟩, hs]
      obtain ⟨w, h, cs, hg, v, e⟩ := puzB_grid hp
      have hz := word_size hs
      have h0 := impl_replay_l0 hg hs n goal (wd.size + 1) 0 (by omega)
      simp only [hg]
      refine Ev.step (fun k => ?_) h0
      rw [impl_ReplayOf.j0, if_neg (by decide), w64 (n := (wd.size : Int) + 1) (by omega) (by omega)]; rfl
    · rw [if_neg (fun q => hs q.2), show isWordB (bytesOf wd) = false by simpa using hs]
      exact hno
  · rw [if_neg (fun q => hp q.1)]
    exact Ev.congr (fun k => if_neg hp) hno
theorem spec_replay_ev (t n : ByteArray) (goal : Int) (wd : ByteArray) : Ev (fun k => spec_ReplayOf.f k t n goal wd) (replayA t n goal wd) := by
  have hno : Ev (fun k => spec_ReplayOf.j0 k wd true t n goal) (([] : List ByteArray), false) := Ev.step (fun k => by rw [spec_ReplayOf.j0, if_pos rfl]) (Ev.now _)
  unfold replayA
  refine Ev.bind (spec_puGood_ev t n goal) ?_
  by_cases hp : puzB t n goal = true
  · refine Ev.congr (fun k => if_pos hp) (Ev.bind (spec_tiWord_ev wd) ?_)
    by_cases hs : isWordB (bytesOf wd) = true
    · rw [if_pos ⟨hp, hs⟩, hs]
      obtain ⟨w, h, cs, hg, v, e⟩ := puzB_grid hp
      have h0 := spec_replay_l0 hg hs wd.size 0 (by omega)
      have hR := spec_tyRead_ev t
      rw [hg] at hR
      simp only [hg]
      refine Ev.step (f := fun k => (spec_tyRead.f k t).bind fun bt104 => spec_ReplayOf.l0 k wd [t] 0 bt104.1 bt104.2.1 bt104.2.2.1) (fun k => by rw [spec_ReplayOf.j0, if_neg (by decide)]) (Ev.bind hR ?_)
      have e1 : replayL (w, h, cs) (wordD wd) (0 + 1) = [t] := by
        rw [replayL_succ]
        show [] ++ [textB (w, h, cs)] = _
        rw [e]; rfl
      rw [e1] at h0
      exact h0
    · rw [if_neg (fun q => hs q.2), show isWordB (bytesOf wd) = false by simpa using hs]
      exact hno
  · rw [if_neg (fun q => hp q.1)]
    exact Ev.congr (fun k => if_neg hp) hno
theorem replayA_length (t n : ByteArray) (goal : Int) (wd : ByteArray) : (replayA t n goal wd).1.length ≤ 41 := by
  unfold replayA
  split
  · rename_i hc
    have := word_size hc.2
    cases tyGrid (bytesOf t) with
    | none => simp
    | some g => show (replayL g (wordD wd) (wd.size + 1)).length ≤ 41; rw [replayL_length]; omega
  · simp
theorem FnExactReplayOf (a b : ByteArray) (c : Int) (d : ByteArray) (ha : a.size ≤ 9223372036854775807) (hb : b.size ≤ 9223372036854775807) (hc : (Lit.int .i64 c).wf = true) (hd : d.size ≤ 9223372036854775807) : ∃ k, laws_FnExactReplayOf.f k a b c d = some true := by
  refine Ev.rounds (g := fun k => laws_FnExactReplayOf.f k a b c d) ?_
  unfold laws_FnExactReplayOf.f
  by_cases h0 : (d.size : Int) > 1048576
  · exact Ev.congr (fun k => if_pos h0) (Ev.now _)
  refine Ev.congr (fun k => if_neg h0) ?_
  have h1 : Aside0 (wrap64 (1048576 - (a.size : Int)) = 1048576 - (a.size : Int)) := ⟨w64 (by omega) (by omega)⟩
  have hsz : laws_szPuzzle.f a b c 1048576 = some (if (1048576 - (a.size : Int)) < 0 then -1 else if 1048576 - (a.size : Int) - (b.size : Int) < 0 then -1 else 1048576 - (a.size : Int) - (b.size : Int)) := by
    unfold laws_szPuzzle.f
    rw [h1.out]
    by_cases c1 : 1048576 - (a.size : Int) < 0
    · rw [if_pos c1, if_pos c1]
    · rw [if_neg c1, if_neg c1, w64 (n := 1048576 - (a.size : Int) - (b.size : Int)) (by omega) (by omega)]
      by_cases c2 : 1048576 - (a.size : Int) - (b.size : Int) < 0
      · rw [if_pos c2, if_pos c2]
      · rw [if_neg c2, if_neg c2]
  rw [hsz]
  simp only [Option.bind_some]
  by_cases c1 : 1048576 - (a.size : Int) < 0
  · simp only [if_pos c1]; exact Ev.congr (fun k => if_pos (by decide)) (Ev.now _)
  simp only [if_neg c1]
  by_cases c2 : 1048576 - (a.size : Int) - (b.size : Int) < 0
  · simp only [if_pos c2]; exact Ev.congr (fun k => if_pos (by decide)) (Ev.now _)
  simp only [if_neg c2]
  have hI := impl_replay_ev a b c d (by omega)
  have hS := spec_replay_ev a b c d
  have hlen := replayA_length a b c d
  generalize replayA a b c d = R at hI hS hlen
  have hE := eqS_ev R.1 (by omega)
  have hM := markS_ev R.1 (by omega)
  have hH := heldS_ev R.1.length (by omega)
  have hend : Ev (fun k => laws_FnExactReplayOf.j1 k (marksT 1 R.1.length) ((1 + R.1.length : Nat) : Int) false) true := by
    refine Ev.step (fun k => by rw [laws_FnExactReplayOf.j1, if_neg Bool.false_ne_true]) (Ev.bind hH ?_)
    exact Ev.congr (fun k => by rw [if_neg (by omega), if_pos rfl]) (Ev.now _)
  have hmid : Ev (fun k => laws_FnExactReplayOf.j0 k d R.1 R.2 R.1 false a b c) true := by
    refine Ev.step (fun k => by rw [laws_FnExactReplayOf.j0, if_neg Bool.false_ne_true]) (Ev.bind hM (Ev.bind hH ?_))
    refine Ev.congr (fun k => by rw [if_neg (by omega), if_pos rfl, laws_toPuzzle.f, Option.bind_some]) (Ev.bind hI (Ev.bind hE ?_))
    refine Ev.congr (fun k => if_pos rfl) ?_
    rw [bne_self_eq_false]
    exact hend
  refine Ev.congr (fun k => by rw [laws_toPuzzle.f, Option.bind_some]) (Ev.bind hS ?_)
  refine Ev.congr (fun k => by rw [Option.bind_some]) (Ev.bind hI (Ev.bind hE ?_))
  refine Ev.congr (fun k => if_pos rfl) ?_
  rw [bne_self_eq_false]
  exact hmid
end Go.Proofs.YtdffgeoegdkiaaaGreatDoor.F
