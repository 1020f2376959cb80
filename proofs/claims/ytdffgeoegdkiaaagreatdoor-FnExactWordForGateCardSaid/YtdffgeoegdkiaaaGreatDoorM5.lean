/- The proof that the law's row holds, part 5: the kit's words, the printed walks and the plain law. No conditions beyond the card's own. -/
import Derived.Deep.RegionHeld3
import Derived.Test.YtdffgeoegdkiaaaGreatDoorM0
import Derived.Test.YtdffgeoegdkiaaaGreatDoorM1
import Derived.Test.YtdffgeoegdkiaaaGreatDoorM2
import Derived.Test.YtdffgeoegdkiaaaGreatDoorM3
import Derived.Test.YtdffgeoegdkiaaaGreatDoorM4
set_option linter.unusedVariables false
set_option linter.unusedSimpArgs false
namespace Go.Proofs.YtdffgeoegdkiaaaGreatDoor.F
open Go.Proofs.YtdffgeoegdkiaaaGreatDoor
open Go.RowKit Go.Proofs.YtdffgeoegdkiaaaGreatDoorW.PrintWords Go.Proofs.YtdffgeoegdkiaaaGreatDoorW.PrintLast Go.Proofs.YtdffgeoegdkiaaaGreatDoorW.PrintMore Go.Lib
attribute [local go_sem] max2_int min2_int
def wgStep (k : Nat) (t : ByteArray) (l1 : List Int) (o m : Int) (s : ByteArray × Bool) (x : ByteArray) : Option ((ByteArray × Bool) × Bool) :=
  (impl_gate.f k t l1 o x).bind fun n => if n = m then some ((x, true), false) else some (s, !s.2)
theorem wgStep_mono (k : Nat) (t : ByteArray) (l1 : List Int) (o m : Int) (s : ByteArray × Bool) (x : ByteArray) : LeO (wgStep k t l1 o m s x) (wgStep (k + 1) t l1 o m s x) := by
  unfold wgStep
  exact LeO.bind (impl_gate.mono _ _ _ _ _) (fun _ => LeO.refl _)
def wgInv (w0 : World) (t : ByteArray) (A1 : Option Addr) (c1 : Nat) (l1 : List Int) (o m : Int) (bt bl bo bn bx bf : Nat) (s : ByteArray × Bool) (F : Nat → Prop) (W : World) : Prop :=
  Below w0.heap.size w0 W ∧ (∀ k, F k ↔ k = bt ∨ k = bl ∨ k = bo ∨ k = bn ∨ k = bx ∨ k = bf) ∧ (∀ k, F k → w0.heap.size ≤ k) ∧ bx ≠ bt ∧ W.heap[bt]? = some (.cells #[.string t] 9 (0, 0)) ∧ W.heap[bl]? = some (.cells #[.slice A1 l1.length c1] 28 (0, 0)) ∧ W.heap[bo]? = some (.cells #[.int .i64 o] 3 (0, 0)) ∧
    W.heap[bn]? = some (.cells #[.int .i64 m] 3 (0, 0)) ∧ W.heap[bx]? = some (.cells #[.string s.1] 9 (0, 0)) ∧ W.heap[bf]? = some (.cells #[.bool s.2] 4 (0, 0))
section
variable {w0 : World} {t : ByteArray} {A1 : Option Addr} {c1 : Nat} {l1 : List Int} {o m : Int} {bt bl bo bn bx bf : Nat} {s : ByteArray × Bool} {F G : Nat → Prop} {W W' : World}
theorem wgInv_lt (h : wgInv w0 t A1 c1 l1 o m bt bl bo bn bx bf s F W) : ∀ k, F k → k < W.heap.size := by
  obtain ⟨_, hF, _, _, h1, h2, h3, h4, h5, h6⟩ := h
  intro k hk
  rcases (hF k).1 hk with rfl | rfl | rfl | rfl | rfl | rfl
  · exact blkx_lt h1
  · exact blkx_lt h2
  · exact blkx_lt h3
  · exact blkx_lt h4
  · exact blkx_lt h5
  · exact blkx_lt h6
theorem wgInv_st (h : wgInv w0 t A1 c1 l1 o m bt bl bo bn bx bf s F W) (hh : Held G W W') (hG : ∀ k, G k → ¬ F k ∧ w0.heap.size ≤ k) : wgInv w0 t A1 c1 l1 o m bt bl bo bn bx bf s F W' := by
  have hk : ∀ k, F k → W'.heap[k]? = W.heap[k]? := fun k hf => hh.block k (wgInv_lt h k hf) (fun g => (hG k g).1 hf)
  obtain ⟨hb, hF, hB, hne, h1, h2, h3, h4, h5, h6⟩ := h
  exact ⟨Held.below hb hh hb.size (fun k g => (hG k g).2), hF, hB, hne, (hk _ ((hF _).2 (by simp))).trans h1, (hk _ ((hF _).2 (by simp))).trans h2, (hk _ ((hF _).2 (by simp))).trans h3, (hk _ ((hF _).2 (by simp))).trans h4, (hk _ ((hF _).2 (by simp))).trans h5, (hk _ ((hF _).2 (by simp))).trans h6⟩
end
theorem cells4 {bs bt bl bo : Nat} {u1 u2 u3 u4 : Value} {w w' : World} (h : w.cell? ⟨bs, 0, none⟩ = some u1 ∧ w.cell? ⟨bt, 0, none⟩ = some u2 ∧ w.cell? ⟨bl, 0, none⟩ = some u3 ∧ w.cell? ⟨bo, 0, none⟩ = some u4) (hk : ∀ k u, w.cell? ⟨k, 0, none⟩ = some u → w'.heap[k]? = w.heap[k]?) :
    w'.cell? ⟨bs, 0, none⟩ = some u1 ∧ w'.cell? ⟨bt, 0, none⟩ = some u2 ∧ w'.cell? ⟨bl, 0, none⟩ = some u3 ∧ w'.cell? ⟨bo, 0, none⟩ = some u4 := by
  obtain ⟨h1, h2, h3, h4⟩ := h
  exact ⟨(World.cell?_of_block (hk _ _ h1)).trans h1, (World.cell?_of_block (hk _ _ h2)).trans h2, (World.cell?_of_block (hk _ _ h3)).trans h3, (World.cell?_of_block (hk _ _ h4)).trans h4⟩
set_option maxRecDepth 100000 in
set_option maxHeartbeats 8000000 in
theorem wg_closure (k : Nat) (w0 : World) (t : ByteArray) (A1 : Option Addr) (c1 : Nat) (l1 : List Int) (o m : Int) (hr1 : Kd.C (Kd.int .i64) w0 A1 l1.length l1) (hc1 : l1.length ≤ c1) (bt bl bo bn bx bf : Nat) (s : ByteArray × Bool) (F : Nat → Prop) (W : World) (x : ByteArray) (s' : ByteArray × Bool) (b : Bool) (hi : wgInv w0 t A1 c1 l1 o m bt bl bo bn bx bf s F W) (hs : wgStep k t l1 o m s x = some (s', b)) :
    Calls Tryz.prog 78 (#[.string x] ++ #[.pointer (some ⟨bt, 0, none⟩), .pointer (some ⟨bl, 0, none⟩), .pointer (some ⟨bo, 0, none⟩), .pointer (some ⟨bn, 0, none⟩), .pointer (some ⟨bx, 0, none⟩), .pointer (some ⟨bf, 0, none⟩)]) W fun e W' => e = .returned (.bool b) ∧ ∃ F', wgInv w0 t A1 c1 l1 o m bt bl bo bn bx bf s' F' W' ∧ Held F W W' ∧ ∀ k, F' k → F k ∨ W.heap.size ≤ k := by
  have HI := am hi
  obtain ⟨hb, hF, hB, hne, h1, h2, h3, h4, h5, h6⟩ := hi
  unfold wgStep at hs
  obtain ⟨g, hg, hs⟩ := Option.bind_eq_some_iff.mp hs
  have HG := am hg
  have HC := am (Kd.C_below hr1 hb)
  have HC1 := am hc1
  have hz : W.cell? ⟨bt, 0, none⟩ = some (.string t) ∧ W.cell? ⟨bl, 0, none⟩ = some (.slice A1 l1.length c1) ∧ W.cell? ⟨bo, 0, none⟩ = some (.int .i64 o) ∧ W.cell? ⟨bn, 0, none⟩ = some (.int .i64 m) := ⟨(blk_cell h1 0).trans rfl, (blk_cell h2 0).trans rfl, (blk_cell h3 0).trans rfl, (blk_cell h4 0).trans rfl⟩
  have HZ := am hz
  have H5 := am h5
  have H6 := am h6
  clear hg hb hF hB hne h1 h2 h3 h4 h5 h6 hr1 hc1 hz
  show Calls _ _ #[.string x, .pointer (some ⟨bt, 0, none⟩), .pointer (some ⟨bl, 0, none⟩), .pointer (some ⟨bo, 0, none⟩), .pointer (some ⟨bn, 0, none⟩), .pointer (some ⟨bx, 0, none⟩), .pointer (some ⟨bf, 0, none⟩)] _ _
  by_cases c2 : g = m
  · rw [if_pos c2] at hs
    obtain ⟨rfl, rfl⟩ : (x, true) = s' ∧ false = b := by simpa using hs
    have c2b : (g == m) = true := beq_iff_eq.2 c2
    clear hs c2
    go_enter Tryz.func78, Tryz.ntmps78
    go_wp2
    go_region_held3 (fun w' => w'.cell? ⟨bt, 0, none⟩ = some (.string t) ∧ w'.cell? ⟨bl, 0, none⟩ = some (.slice A1 l1.length c1) ∧ w'.cell? ⟨bo, 0, none⟩ = some (.int .i64 o) ∧ w'.cell? ⟨bn, 0, none⟩ = some (.int .i64 m)) (first | exact HZ.out | exact HZ1.out | go_keep)
      ((first
        | (go_simp; go_at_call 74; refine (impl_gate.calls k t A1 c1 l1 o x g _ (by exact HC.out) HC1.out HG.out).mono ?_; rintro e w1 ⟨rfl, hb⟩; have hbW : Below W.heap.size W w1 := ⟨hb.os, hb.tape, hb.output, hb.size, hb.block⟩; have HB := am hbW; have HZ1 := am (cells4 HZ.out (fun k u hk => hbW.block k (World.block_lt_of_cell? W _ hk))); have X5 := am ((hbW.block bx (blkx_lt H5.out)).trans H5.out); have X6 := am ((hbW.block bf (blkx_lt H6.out)).trans H6.out); have y5 : w1.cell? ⟨bx, 0, none⟩ = some (.string s.1) := (blk_cell X5.out 0).trans rfl; have y6 : w1.cell? ⟨bf, 0, none⟩ = some (.bool s.2) := (blk_cell X6.out 0).trans rfl; have f5 := blk_frozen X5.out 0; have f6 := blk_frozen X6.out 0; clear hb hbW)))
    have hxf : bx ≠ bf := blk_ne X5.out X6.out (by decide)
    go_wp2
    go_ret
    obtain ⟨hb, hF, hB, hne, h1, h2, h3, h4, _, _⟩ := HI.out
    have fx : F bx := (hF _).2 (by simp)
    have ff : F bf := (hF _).2 (by simp)
    have hh : Held F W ((w1.setCell ⟨bx, 0, none⟩ (.string x)).setCell ⟨bf, 0, none⟩ (.bool true)) := Held.setCell (Held.setCell (Held.of_below HB.out) _ fx) _ ff
    have at2 : ∀ (q : Nat) (u : Value) (ty : TypeId), q ≠ bx → q ≠ bf → W.heap[q]? = some (.cells #[u] ty (0, 0)) → ((w1.setCell ⟨bx, 0, none⟩ (.string x)).setCell ⟨bf, 0, none⟩ (.bool true)).heap[q]? = some (.cells #[u] ty (0, 0)) := fun q u ty n1 n2 hq =>
      (Below.heap_setCell _ _ _ q n2).trans ((Below.heap_setCell _ _ _ q n1).trans ((HB.out.block q (blkx_lt hq)).trans hq))
    exact ⟨rfl, F, ⟨Held.below hb hh hb.size hB, hF, hB, hne, at2 _ _ _ hne.symm (blk_ne h1 H6.out (by decide)) h1, at2 _ _ _ (blk_ne h2 H5.out (by decide)) (blk_ne h2 H6.out (by decide)) h2, at2 _ _ _ (blk_ne h3 H5.out (by decide)) (blk_ne h3 H6.out (by decide)) h3, at2 _ _ _ (blk_ne h4 H5.out (by decide)) (blk_ne h4 H6.out (by decide)) h4,
      (Below.heap_setCell _ _ _ bx hxf).trans ((blk_set X5.out 0 _).trans rfl), (blk_set (w := w1.setCell ⟨bx, 0, none⟩ (.string x)) ((Below.heap_setCell _ _ _ bf hxf.symm).trans X6.out) 0 _).trans rfl⟩, hh, fun k hk => .inl hk⟩
  · rw [if_neg c2] at hs
    obtain ⟨rfl, rfl⟩ : s = s' ∧ (!s.2) = b := by simpa using hs
    have c2b : (g == m) = false := beq_eq_false_iff_ne.2 c2
    clear hs c2
    go_enter Tryz.func78, Tryz.ntmps78
    go_wp2
    go_region_held3 (fun w' => w'.cell? ⟨bt, 0, none⟩ = some (.string t) ∧ w'.cell? ⟨bl, 0, none⟩ = some (.slice A1 l1.length c1) ∧ w'.cell? ⟨bo, 0, none⟩ = some (.int .i64 o) ∧ w'.cell? ⟨bn, 0, none⟩ = some (.int .i64 m)) (first | exact HZ.out | exact HZ1.out | go_keep)
      ((first
        | (go_simp; go_at_call 74; refine (impl_gate.calls k t A1 c1 l1 o x g _ (by exact HC.out) HC1.out HG.out).mono ?_; rintro e w1 ⟨rfl, hb⟩; have hbW : Below W.heap.size W w1 := ⟨hb.os, hb.tape, hb.output, hb.size, hb.block⟩; have HB := am hbW; have HZ1 := am (cells4 HZ.out (fun k u hk => hbW.block k (World.block_lt_of_cell? W _ hk))); have y6 : w1.cell? ⟨bf, 0, none⟩ = some (.bool s.2) := (blk_cell ((hbW.block bf (blkx_lt H6.out)).trans H6.out) 0).trans rfl; clear hb hbW)))
    go_wp2
    go_ret
    exact ⟨rfl, F, wgInv_st HI.out (Held.of_below (F := fun _ => False) HB.out) (fun _ h => h.elim), Held.of_below HB.out, fun k hk => .inl hk⟩
def impl_WordForGate.f (k : Nat) (a0 : ByteArray) (l1 : List Int) (a2 a3 : Int) : Option (ByteArray × Bool) := (impl_isTwo.f k a0 l1 a2).bind fun b => if b = true ∧ 0 ≤ a3 ∧ a3 ≤ 15 then wordsF (wgStep k a0 l1 a2 a3) 6 (ByteArray.empty, false) [ByteArray.empty] else some (ByteArray.empty, false)
theorem impl_WordForGate.mono : ∀ a0 a1 a2 a3 k, LeO (impl_WordForGate.f k a0 a1 a2 a3) (impl_WordForGate.f (k + 1) a0 a1 a2 a3) := fun a0 a1 a2 a3 k => by
  unfold impl_WordForGate.f
  exact LeO.bind (impl_isTwo.mono _ _ _ _) (fun _ => LeO.ite (wordsF_mono (fun s x => wgStep_mono k a0 a1 a2 a3 s x) _ _ _) (LeO.refl _))
theorem gateNumber_is (n : Int) : impl_isGateNumber.f n = some (decide (0 ≤ n ∧ n ≤ 15)) := by
  unfold impl_isGateNumber.f impl_within.f
  by_cases h0 : 0 ≤ n
  · rw [if_pos h0, Option.bind_some]; congr 1; rw [Bool.eq_iff_iff, decide_eq_true_iff, decide_eq_true_iff]; omega
  · rw [if_neg h0, Option.bind_some, decide_eq_false (by omega)]
set_option maxRecDepth 100000 in
set_option maxHeartbeats 8000000 in
theorem impl_WordForGate.calls (k : Nat) (a0 : ByteArray) (A1 : Option Addr) (c1 : Nat) (l1 : List Int) (a2 a3 : Int) (r1 : ByteArray) (r2 : Bool) (w : World) (hr1 : Kd.C (Kd.int .i64) w A1 l1.length l1) (hc1 : l1.length ≤ c1) (h : impl_WordForGate.f k a0 l1 a2 a3 = some (r1, r2)) :
    Calls Tryz.prog 40 #[.string a0, .slice A1 l1.length c1, .int .i64 a2, .int .i64 a3] w fun e w' => e = .returned (.tuple #[.string r1, .bool r2]) ∧ Below w.heap.size w w' := by
  unfold impl_WordForGate.f at h
  obtain ⟨b, hI, h⟩ := Option.bind_eq_some_iff.mp h
  have HI := am hI
  have HR := am hr1
  have HC := am hc1
  have HB := am (Below.refl w.heap.size w)
  clear hI hr1 hc1
  cases b with
  | false =>
    obtain ⟨rfl, rfl⟩ : ByteArray.empty = r1 ∧ false = r2 := by simpa using h
    clear h
    go_enter Tryz.func40, Tryz.ntmps40
    go_wp2_with (first
      | ((with_reducible refine gate_dst (N := 4) rfl ?_); refine box_event ?hg (N := 4) ?hd (cs := #[.string a0]) (t := 9) ?hr ?_; (case hd => rfl); (case hg => rfl); (case hr => first | (go_simp; done) | (go_simp; rfl)); intro b1 hg1 w1 hbox1 hb1; have X11 := am hbox1; have HB1 := am hb1; have G1 := am (show w.heap.size ≤ b1 by rw [hg1]; exact Nat.le_refl _); clear hbox1 hb1 hg1)
      | ((with_reducible refine gate_dst (N := 5) rfl ?_); refine box_event ?hg (N := 5) ?hd (cs := #[.slice A1 l1.length c1]) (t := 28) ?hr ?_; (case hd => rfl); (case hg => rfl); (case hr => first | (go_simp; done) | (go_simp; rfl)); intro b2 hg2 w2 hbox2 hb2; have X22 := am hbox2; have X12 := am ((hb2.block b1 (blkx_lt X11.out)).trans X11.out); have G2 := am (show w.heap.size ≤ b2 by rw [hg2]; exact HB1.out.size); have HB2 := am (below_step HB1.out hb2); clear hbox2 hb2 hg2)
      | ((with_reducible refine gate_dst (N := 6) rfl ?_); refine box_event ?hg (N := 6) ?hd (cs := #[.int .i64 a2]) (t := 3) ?hr ?_; (case hd => rfl); (case hg => rfl); (case hr => first | (go_simp; done) | (go_simp; rfl)); intro b3 hg3 w3 hbox3 hb3; have X33 := am hbox3; have X13 := am ((hb3.block b1 (blkx_lt X12.out)).trans X12.out); have X23 := am ((hb3.block b2 (blkx_lt X22.out)).trans X22.out); have G3 := am (show w.heap.size ≤ b3 by rw [hg3]; exact HB2.out.size); have HB3 := am (below_step HB2.out hb3); clear hbox3 hb3 hg3)
      | ((with_reducible refine gate_dst (N := 7) rfl ?_); refine box_event ?hg (N := 7) ?hd (cs := #[.int .i64 a3]) (t := 3) ?hr ?_; (case hd => rfl); (case hg => rfl); (case hr => first | (go_simp; done) | (go_simp; rfl)); intro b4 hg4 w4 hbox4 hb4; have Y4 := am hbox4; have Y1 := am ((hb4.block b1 (blkx_lt X13.out)).trans X13.out); have Y2 := am ((hb4.block b2 (blkx_lt X23.out)).trans X23.out); have Y3 := am ((hb4.block b3 (blkx_lt X33.out)).trans X33.out); have G4 := am (show w.heap.size ≤ b4 by rw [hg4]; exact HB3.out.size); have HB4 := am (below_step HB3.out hb4); have z1 : w4.cell? ⟨b1, 0, none⟩ = some (.string a0) := (blk_cell Y1.out 0).trans rfl; have z2 : w4.cell? ⟨b2, 0, none⟩ = some (.slice A1 l1.length c1) := (blk_cell Y2.out 0).trans rfl; have z3 : w4.cell? ⟨b3, 0, none⟩ = some (.int .i64 a2) := (blk_cell Y3.out 0).trans rfl; clear hbox4 hb4 hg4)
      | (go_at_call 73; refine (impl_isTwo.calls k a0 A1 c1 l1 a2 false _ (Kd.C_below HR.out HB4.out) HC.out HI.out).mono ?_; rintro e w5 ⟨rfl, hb⟩; have HB5 := am (below_step HB4.out hb); have Z1 := am ((hb.block b1 (blkx_lt Y1.out)).trans Y1.out); have Z2 := am ((hb.block b2 (blkx_lt Y2.out)).trans Y2.out); have Z3 := am ((hb.block b3 (blkx_lt Y3.out)).trans Y3.out); have Z4 := am ((hb.block b4 (blkx_lt Y4.out)).trans Y4.out); have z4 : w5.cell? ⟨b4, 0, none⟩ = some (.int .i64 a3) := (blk_cell Z4.out 0).trans rfl; clear hb))
    go_ret2
    exact ⟨rfl, HB5.out⟩
  | true =>
    by_cases c2 : 0 ≤ a3 ∧ a3 ≤ 15
    · have HO := am (show wordsF (wgStep k a0 l1 a2 a3) 6 (ByteArray.empty, false) [ByteArray.empty] = some (r1, r2) from by rw [if_pos ⟨rfl, c2⟩] at h; exact h)
      have HG := am (show impl_isGateNumber.f a3 = some true from by rw [gateNumber_is, decide_eq_true c2])
      clear h c2
      go_enter Tryz.func40, Tryz.ntmps40
      go_wp2_with (first
        | ((with_reducible refine gate_dst (N := 4) rfl ?_); refine box_event ?hg (N := 4) ?hd (cs := #[.string a0]) (t := 9) ?hr ?_; (case hd => rfl); (case hg => rfl); (case hr => first | (go_simp; done) | (go_simp; rfl)); intro b1 hg1 w1 hbox1 hb1; have X11 := am hbox1; have HB1 := am hb1; have G1 := am (show w.heap.size ≤ b1 by rw [hg1]; exact Nat.le_refl _); clear hbox1 hb1 hg1)
        | ((with_reducible refine gate_dst (N := 5) rfl ?_); refine box_event ?hg (N := 5) ?hd (cs := #[.slice A1 l1.length c1]) (t := 28) ?hr ?_; (case hd => rfl); (case hg => rfl); (case hr => first | (go_simp; done) | (go_simp; rfl)); intro b2 hg2 w2 hbox2 hb2; have X22 := am hbox2; have X12 := am ((hb2.block b1 (blkx_lt X11.out)).trans X11.out); have G2 := am (show w.heap.size ≤ b2 by rw [hg2]; exact HB1.out.size); have HB2 := am (below_step HB1.out hb2); clear hbox2 hb2 hg2)
        | ((with_reducible refine gate_dst (N := 6) rfl ?_); refine box_event ?hg (N := 6) ?hd (cs := #[.int .i64 a2]) (t := 3) ?hr ?_; (case hd => rfl); (case hg => rfl); (case hr => first | (go_simp; done) | (go_simp; rfl)); intro b3 hg3 w3 hbox3 hb3; have X33 := am hbox3; have X13 := am ((hb3.block b1 (blkx_lt X12.out)).trans X12.out); have X23 := am ((hb3.block b2 (blkx_lt X22.out)).trans X22.out); have G3 := am (show w.heap.size ≤ b3 by rw [hg3]; exact HB2.out.size); have HB3 := am (below_step HB2.out hb3); clear hbox3 hb3 hg3)
        | ((with_reducible refine gate_dst (N := 7) rfl ?_); refine box_event ?hg (N := 7) ?hd (cs := #[.int .i64 a3]) (t := 3) ?hr ?_; (case hd => rfl); (case hg => rfl); (case hr => first | (go_simp; done) | (go_simp; rfl)); intro b4 hg4 w4 hbox4 hb4; have Y4 := am hbox4; have Y1 := am ((hb4.block b1 (blkx_lt X13.out)).trans X13.out); have Y2 := am ((hb4.block b2 (blkx_lt X23.out)).trans X23.out); have Y3 := am ((hb4.block b3 (blkx_lt X33.out)).trans X33.out); have G4 := am (show w.heap.size ≤ b4 by rw [hg4]; exact HB3.out.size); have HB4 := am (below_step HB3.out hb4); have z1 : w4.cell? ⟨b1, 0, none⟩ = some (.string a0) := (blk_cell Y1.out 0).trans rfl; have z2 : w4.cell? ⟨b2, 0, none⟩ = some (.slice A1 l1.length c1) := (blk_cell Y2.out 0).trans rfl; have z3 : w4.cell? ⟨b3, 0, none⟩ = some (.int .i64 a2) := (blk_cell Y3.out 0).trans rfl; clear hbox4 hb4 hg4)
        | (go_at_call 73; refine (impl_isTwo.calls k a0 A1 c1 l1 a2 true _ (Kd.C_below HR.out HB4.out) HC.out HI.out).mono ?_; rintro e w5 ⟨rfl, hb⟩; have HB5 := am (below_step HB4.out hb); have Z1 := am ((hb.block b1 (blkx_lt Y1.out)).trans Y1.out); have Z2 := am ((hb.block b2 (blkx_lt Y2.out)).trans Y2.out); have Z3 := am ((hb.block b3 (blkx_lt Y3.out)).trans Y3.out); have Z4 := am ((hb.block b4 (blkx_lt Y4.out)).trans Y4.out); have z4 : w5.cell? ⟨b4, 0, none⟩ = some (.int .i64 a3) := (blk_cell Z4.out 0).trans rfl; clear hb)
        | (go_at_call 77; refine (impl_isGateNumber.calls a3 true _ HG.out).mono ?_; rintro e w6 ⟨rfl, ⟨nd, hnd⟩⟩; have hb6 : Below w5.heap.size w5 w6 := (by rw [hnd]; exact pw_below_drewN (Below.refl _ _) nd); have HB6 := am (below_step HB5.out hb6); have V1 := am ((hb6.block b1 (blkx_lt Z1.out)).trans Z1.out); have V2 := am ((hb6.block b2 (blkx_lt Z2.out)).trans Z2.out); have V3 := am ((hb6.block b3 (blkx_lt Z3.out)).trans Z3.out); have V4 := am ((hb6.block b4 (blkx_lt Z4.out)).trans Z4.out); clear hnd hb6)
        | (go_at_call 57; obtain ⟨Wc, hWc⟩ : ∃ W, (w6.alloc (Obj.cells #[Value.string ByteArray.empty] 9)).alloc (Obj.cells #[Value.bool false] 4) = W := ⟨_, rfl⟩; have hbl : Below w6.heap.size w6 Wc := (by rw [← hWc]; exact ((Below.refl _ w6).alloc (Nat.le_refl _) _).alloc (by simp) _); have hbx : Wc.heap[w6.heap.size]? = some (.cells #[.string ByteArray.empty] 9 (0, 0)) := (by rw [← hWc]; have h := heap_alloc_new w6 (Obj.cells #[Value.string ByteArray.empty] 9); rw [← h]; exact ((Below.refl _ (w6.alloc (Obj.cells #[Value.string ByteArray.empty] 9))).alloc (Nat.le_refl _) _).block w6.heap.size (by simp)); have hbf : Wc.heap[w6.heap.size + 1]? = some (.cells #[.bool false] 4 (0, 0)) := (by rw [← hWc]; have h := heap_alloc_new (w6.alloc (Obj.cells #[Value.string ByteArray.empty] 9)) (Obj.cells #[Value.bool false] 4); rwa [show (w6.alloc (Obj.cells #[Value.string ByteArray.empty] 9)).heap.size = w6.heap.size + 1 from by simp] at h); have hsz : w.heap.size ≤ w6.heap.size := HB6.out.size; have hBc := below_step HB6.out hbl; have hl1 := blkx_lt V1.out; show Calls _ _ _ ((w6.alloc (Obj.cells #[Value.string ByteArray.empty] 9)).alloc (Obj.cells #[Value.bool false] 4)) _; rw [hWc]; refine (words_calls (wgStep k a0 l1 a2 a3) (wgInv w a0 A1 c1 l1 a2 a3 b1 b2 b3 b4 w6.heap.size (w6.heap.size + 1)) 78 _ (enters_of Tryz.func78 (by kernel_rfl) rfl) (fun s F W h => wgInv_lt h) (fun s F W x s' b hi hs => wg_closure k w a0 A1 c1 l1 a2 a3 HR.out HC.out _ _ _ _ _ _ s F W x s' b hi hs) 5 (by decide) (ByteArray.empty, false) (r1, r2) (fun k => k = b1 ∨ k = b2 ∨ k = b3 ∨ k = b4 ∨ k = w6.heap.size ∨ k = w6.heap.size + 1) _ (fun s F W W' h hh => wgInv_st h hh (fun k hk => ⟨hk.1, Nat.le_trans hBc.size hk.2⟩)) ⟨hBc, fun k => Iff.rfl, fun k hk => (by rcases hk with rfl | rfl | rfl | rfl | rfl | rfl <;> first | exact G1.out | exact G2.out | exact G3.out | exact G4.out | omega), (by omega), (hbl.block b1 (blkx_lt V1.out)).trans V1.out, (hbl.block b2 (blkx_lt V2.out)).trans V2.out, (hbl.block b3 (blkx_lt V3.out)).trans V3.out, (hbl.block b4 (blkx_lt V4.out)).trans V4.out, hbx, hbf⟩ HO.out).mono ?_; rintro e w7 ⟨rfl, F', hinv, _, _⟩; obtain ⟨hb7, _, _, _, _, _, _, _, hx7, hf7⟩ := hinv; have z7 : w7.cell? ⟨w6.heap.size, 0, none⟩ = some (.string r1) := (blk_cell hx7 0).trans rfl; have y7 : w7.cell? ⟨w6.heap.size + 1, 0, none⟩ = some (.bool r2) := (blk_cell hf7 0).trans rfl; have HB7 := am hb7; clear hb7 hx7 hf7 hbl hbx hbf hsz hBc hWc hl1))
      go_quiet (fail)
      go_wp2
      go_ret2
      exact ⟨rfl, pw_below_drewN HB7.out _⟩
    · obtain ⟨rfl, rfl⟩ : ByteArray.empty = r1 ∧ false = r2 := by simpa [c2] using h
      have HG := am (show impl_isGateNumber.f a3 = some false from by rw [gateNumber_is, decide_eq_false c2])
      clear h c2
      go_enter Tryz.func40, Tryz.ntmps40
      go_wp2_with (first
        | ((with_reducible refine gate_dst (N := 4) rfl ?_); refine box_event ?hg (N := 4) ?hd (cs := #[.string a0]) (t := 9) ?hr ?_; (case hd => rfl); (case hg => rfl); (case hr => first | (go_simp; done) | (go_simp; rfl)); intro b1 hg1 w1 hbox1 hb1; have X11 := am hbox1; have HB1 := am hb1; have G1 := am (show w.heap.size ≤ b1 by rw [hg1]; exact Nat.le_refl _); clear hbox1 hb1 hg1)
        | ((with_reducible refine gate_dst (N := 5) rfl ?_); refine box_event ?hg (N := 5) ?hd (cs := #[.slice A1 l1.length c1]) (t := 28) ?hr ?_; (case hd => rfl); (case hg => rfl); (case hr => first | (go_simp; done) | (go_simp; rfl)); intro b2 hg2 w2 hbox2 hb2; have X22 := am hbox2; have X12 := am ((hb2.block b1 (blkx_lt X11.out)).trans X11.out); have G2 := am (show w.heap.size ≤ b2 by rw [hg2]; exact HB1.out.size); have HB2 := am (below_step HB1.out hb2); clear hbox2 hb2 hg2)
        | ((with_reducible refine gate_dst (N := 6) rfl ?_); refine box_event ?hg (N := 6) ?hd (cs := #[.int .i64 a2]) (t := 3) ?hr ?_; (case hd => rfl); (case hg => rfl); (case hr => first | (go_simp; done) | (go_simp; rfl)); intro b3 hg3 w3 hbox3 hb3; have X33 := am hbox3; have X13 := am ((hb3.block b1 (blkx_lt X12.out)).trans X12.out); have X23 := am ((hb3.block b2 (blkx_lt X22.out)).trans X22.out); have G3 := am (show w.heap.size ≤ b3 by rw [hg3]; exact HB2.out.size); have HB3 := am (below_step HB2.out hb3); clear hbox3 hb3 hg3)
        | ((with_reducible refine gate_dst (N := 7) rfl ?_); refine box_event ?hg (N := 7) ?hd (cs := #[.int .i64 a3]) (t := 3) ?hr ?_; (case hd => rfl); (case hg => rfl); (case hr => first | (go_simp; done) | (go_simp; rfl)); intro b4 hg4 w4 hbox4 hb4; have Y4 := am hbox4; have Y1 := am ((hb4.block b1 (blkx_lt X13.out)).trans X13.out); have Y2 := am ((hb4.block b2 (blkx_lt X23.out)).trans X23.out); have Y3 := am ((hb4.block b3 (blkx_lt X33.out)).trans X33.out); have G4 := am (show w.heap.size ≤ b4 by rw [hg4]; exact HB3.out.size); have HB4 := am (below_step HB3.out hb4); have z1 : w4.cell? ⟨b1, 0, none⟩ = some (.string a0) := (blk_cell Y1.out 0).trans rfl; have z2 : w4.cell? ⟨b2, 0, none⟩ = some (.slice A1 l1.length c1) := (blk_cell Y2.out 0).trans rfl; have z3 : w4.cell? ⟨b3, 0, none⟩ = some (.int .i64 a2) := (blk_cell Y3.out 0).trans rfl; clear hbox4 hb4 hg4)
        | (go_at_call 73; refine (impl_isTwo.calls k a0 A1 c1 l1 a2 true _ (Kd.C_below HR.out HB4.out) HC.out HI.out).mono ?_; rintro e w5 ⟨rfl, hb⟩; have HB5 := am (below_step HB4.out hb); have Z1 := am ((hb.block b1 (blkx_lt Y1.out)).trans Y1.out); have Z2 := am ((hb.block b2 (blkx_lt Y2.out)).trans Y2.out); have Z3 := am ((hb.block b3 (blkx_lt Y3.out)).trans Y3.out); have Z4 := am ((hb.block b4 (blkx_lt Y4.out)).trans Y4.out); have z4 : w5.cell? ⟨b4, 0, none⟩ = some (.int .i64 a3) := (blk_cell Z4.out 0).trans rfl; clear hb)
        | (go_at_call 77; refine (impl_isGateNumber.calls a3 false _ HG.out).mono ?_; rintro e w6 ⟨rfl, ⟨nd, hnd⟩⟩; have hb6 : Below w5.heap.size w5 w6 := (by rw [hnd]; exact pw_below_drewN (Below.refl _ _) nd); have HB6 := am (below_step HB5.out hb6); have V1 := am ((hb6.block b1 (blkx_lt Z1.out)).trans Z1.out); have V2 := am ((hb6.block b2 (blkx_lt Z2.out)).trans Z2.out); have V3 := am ((hb6.block b3 (blkx_lt Z3.out)).trans Z3.out); have V4 := am ((hb6.block b4 (blkx_lt Z4.out)).trans Z4.out); clear hnd hb6))
      go_ret2
      exact ⟨rfl, HB6.out⟩
end Go.Proofs.YtdffgeoegdkiaaaGreatDoor.F

namespace Go.Proofs.YtdffgeoegdkiaaaGreatDoor.F
open Go.Proofs.YtdffgeoegdkiaaaGreatDoor
open Go.RowKit Go.Proofs.YtdffgeoegdkiaaaGreatDoorW.PrintWords Go.Proofs.YtdffgeoegdkiaaaGreatDoorW.PrintLast Go.Proofs.YtdffgeoegdkiaaaGreatDoorW.PrintMore
attribute [local go_sem] max2_int min2_int max_two min_two max_three min_three max_four min_four
def spec_mcTwo.f (k : Nat) (a0 : ByteArray) (l1 : List Int) (a2 : Int) (a3 : ByteArray) : Option (Int × Int × List Int × Bool) := (spec_mcGate.f k a0 l1 (([a2] : List Int)) a3).bind fun bt105 => (if bt105.2.2.2 = true then (some (bt105.1, bt105.2.1, bt105.2.2.1, ((l1.length : Int) == 2))) else (some (bt105.1, bt105.2.1, bt105.2.2.1, false)))
theorem spec_mcTwo.mono : ∀ a0 a1 a2 a3 k, LeO (spec_mcTwo.f k a0 a1 a2 a3) (spec_mcTwo.f (k + 1) a0 a1 a2 a3) := by
 intro a0 a1 a2 a3 k
 unfold spec_mcTwo.f
 have im0 := @spec_mcGate.mono; exact mo
set_option maxHeartbeats 8000000 in
set_option maxRecDepth 100000 in
theorem spec_mcTwo.calls (k : Nat) (a0 : ByteArray) (A1 : Option Addr) (c1 : Nat) (l1 : List Int) (a2 : Int) (a3 : ByteArray) (r1 : Int) (r2 : Int) (r3 : List Int) (r4 : Bool) (w : World) (hr1 : Kd.C (Kd.int .i64) w A1 l1.length l1) (hc1 : l1.length ≤ c1) (h : spec_mcTwo.f k a0 l1 a2 a3 = some (r1, r2, r3, r4)) :
  Calls Tryz.prog 71 #[.string a0, .slice A1 l1.length c1, .int .i64 a2, .string a3] w fun e w' => ∃ v2_ : Value, e = .returned (.tuple #[.agg #[.int .i64 r1, .int .i64 r2, v2_], .bool r4]) ∧ Kd.R (Kd.int .u8) 5 w' w.heap.size (fun _ => True) v2_ r3 ∧ Below w.heap.size w w' := by
 have hu62 := Tryz.underlying62
 have HR1 := am hr1
 have HC1 := am hc1
 clear hr1 hc1
 have HB := am (Below.refl w.heap.size w)
 have H : ((spec_mcGate.f k a0 l1 (([a2] : List Int)) a3).bind fun bt105 => (if bt105.2.2.2 = true then (some (bt105.1, bt105.2.1, bt105.2.2.1, ((l1.length : Int) == 2))) else (some (bt105.1, bt105.2.1, bt105.2.2.1, false)))) = some (r1, r2, r3, r4) := h
 clear h
 obtain ⟨y102, hy_⟩ : ∃ y_ : List Int, y_ = (([a2] : List Int)) := ⟨_, rfl⟩
 replace H : ((spec_mcGate.f k a0 l1 y102 a3).bind fun bt105 => (if bt105.2.2.2 = true then (some (bt105.1, bt105.2.1, bt105.2.2.1, ((l1.length : Int) == 2))) else (some (bt105.1, bt105.2.1, bt105.2.2.1, false)))) = some (r1, r2, r3, r4) := aq3
 have Ny102 := am hy_
 clear hy_
 replace H := Option.bind_eq_some_iff.mp H
 obtain ⟨⟨t105, t106, t107, t110⟩, A50, H⟩ := H
 replace H : (if t110 = true then (some (t105, t106, t107, ((l1.length : Int) == 2))) else (some (t105, t106, t107, false))) = some (r1, r2, r3, r4) := H
 have A5 := am A50
 clear A50
 by_cases c6 : t110 = true
 ·subst c6
  rw [if_pos rfl] at H
  simp only [Option.some.injEq, Prod.mk.injEq] at H
  obtain ⟨rfl, rfl, rfl, rfl⟩ := H
  go_enter Tryz.func71, Tryz.ntmps71
  go_wp2_with (first | ((with_reducible refine gate_dst (N := 8) rfl ?_); (try (refine gate_guard (by rfl) ?_; dsimp only)); refine box_event ?hg (N := 8) ?hd (cs := #[.int .i64 0, .int .i64 0, .slice none 0 0]) (t := 62) ?hr ?_; (case hd => rfl); (case hg => rfl); (case hr => exact aq16); intro gb101 hg w7 hbox hb; have n0_ := am (below_step aq1 hb); have n1_ := am (hbox); have n2_ := am ((by rw [hg]; exact (below_size aq1) : w.heap.size ≤ gb101)); have n3_ := am ((by rw [hg]; exact (below_size aq1) : w.heap.size ≤ gb101)); clear HB; have HB := n0_; have BK101 := n1_; have GW101 := n2_; have GE101 := n3_; clear n0_ n1_ n2_ n3_; clear hb hbox hg) | ((with_reducible refine gate_dst (N := 16) rfl ?_); (try (refine gate_guard (by rfl) ?_; dsimp only)); refine Kd.R_lit (Kd.int .i64) _ 3 ?hg (N := 16) ?hd (xs := ([a2] : List Int)) (inner := [.int .i64 a2]) (ok := fun _ => True) (okp := fun _ => True) ?hr ?hp (fun _ hk => hk) trivial (Below.refl _ _) (Nat.le_refl _) (by simp) ?_; (case hd => rfl); (case hg => rfl); (case hr => exact aq16); (case hp => exact aq70); intro v103 w8 ho9 hb hg_ hnew_; clear hg_ hnew_; (first | rw [← Ny102.out] at ho9 | (simp only [Int.reduceToNat] at ho9; rw [← Ny102.out] at ho9)); have n0_ := am (Kd.R_lower ho9 (below_size aq0)); have n1_ := am (blk_below (g := gb101) (o := .cells #[.int .i64 0, .int .i64 0, .slice none 0 0] 62 (0, 0)) aq2 hb); have n2_ := am (below_step aq0 hb); clear BK101; clear HB; have HO104 := n0_; have BK101 := n1_; have HB := n2_; clear n0_ n1_ n2_; clear hb ho9; obtain ⟨Ao10, co10, eo10⟩ := Kd.R_slice HO104.out; subst eo10) | ((with_reducible refine gate_callee (f := 62) rfl ?_); refine goesL_ (some 18) rfl rfl Tryz.func62 (by kernel_rfl) rfl #[.string a0, .slice A1 l1.length c1, .slice Ao10 y102.length co10, .string a3] rfl aq5 ?_; (with_reducible refine (spec_mcGate.calls k a0 _ _ l1 _ _ y102 a3 t105 t106 t107 true _ ?side1 ?side2 ?side3 ?side4 A5.out).mono ?_); (case side1 => exact aq15); (case side2 => exact HC1.out); (case side3 => exact aq51); (case side4 => exact (Kd.R_reads' HO104.out).2.1); rintro e w11 ⟨v108, rfl, ho0, hb⟩; refine ⟨_, rfl, ?_⟩; have n0_ := am (Kd.R_below aq30 hb); have n1_ := am (Kd.R_lower ho0 (below_size aq0)); have n2_ := am (blk_below (g := gb101) (o := .cells #[.int .i64 0, .int .i64 0, .slice none 0 0] 62 (0, 0)) aq2 hb); have n3_ := am (below_step aq0 hb); clear HO104; clear BK101; clear HB; have HO104 := n0_; have HO109 := n1_; have BK101 := n2_; have HB := n3_; clear n0_ n1_ n2_ n3_; (try clear hb); (try clear hb2); (try clear hk); (try clear hi); (try clear ho0)) | ((with_reducible refine gate_dst (N := 10) rfl ?_); (try (refine gate_guard (by rfl) ?_; dsimp only)); refine box_event ?hg (N := 10) ?hd (cs := #[.int .i64 0, .int .i64 0, .slice none 0 0]) (t := 62) ?hr ?_; (case hd => rfl); (case hg => rfl); (case hr => exact aq16); intro gb111 hg w12 hbox hb; have n0_ := am (Kd.R_below aq30 hb); have n1_ := am (Kd.R_below (by (with_reducible repeat (first | apply Kd.R_alloc | apply Kd.R_drewN | apply Kd.R_drew)); exact HO109.out) hb); have n2_ := am (blk_below (g := gb101) (o := .cells #[.int .i64 0, .int .i64 0, .slice none 0 0] 62 (0, 0)) aq2 hb); have n3_ := am (below_step aq0 hb); have n4_ := am (hbox); have n5_ := am ((by rw [hg]; exact (below_size aq0) : w.heap.size ≤ gb111)); have n6_ := am ((by rw [hg]; exact (below_size aq0) : w.heap.size ≤ gb111)); have n7_ := am ((by rw [hg]; exact Nat.ne_of_lt (blk_lt (g := gb101) (o := .cells #[.int .i64 0, .int .i64 0, .slice none 0 0] 62 (0, 0)) aq2) : gb101 ≠ gb111)); have n8_ := am ((by rw [hg]; exact Nat.ne_of_gt (blk_lt (g := gb101) (o := .cells #[.int .i64 0, .int .i64 0, .slice none 0 0] 62 (0, 0)) aq2) : gb111 ≠ gb101)); clear HO104; clear HO109; clear BK101; clear HB; have HO104 := n0_; have HO109 := n1_; have BK101 := n2_; have HB := n3_; have BK111 := n4_; have GW111 := n5_; have GE111 := n6_; have NB101_111 := n7_; have NB111_101 := n8_; clear n0_ n1_ n2_ n3_ n4_ n5_ n6_ n7_ n8_; clear hb hbox hg; have hnb13 := NB111_101.out; have hnc13 := NB101_111.out; obtain ⟨hcz14_0, hcz14_1, hcz14_2, hfz14_0, hfz14_1, hfz14_2⟩ := blk3_ BK111.out; obtain ⟨Ao15, co15, eo15⟩ := Kd.R_slice HO109.out; subst eo15; obtain ⟨hcz16_0, hcz16_1, hcz16_2, hfz16_0, hfz16_1, hfz16_2⟩ := blk3_ BK101.out))
  refine bodyPost_ret (results_ct rfl _ _ gb101 62 #[.int .i64 t105, .int .i64 t106, .slice Ao15 t107.length co15] (0, 0) _ rfl aq35 Tryz.underlying62 rfl (by kernel_rfl)) rfl ?_
  exact ⟨_, aq8, by (with_reducible repeat (first | apply Kd.R_alloc | apply Kd.R_drewN | apply Kd.R_drew)); exact Kd.R_mono (Kd.R_far (p := ⟨gb101, 2, none⟩) (Kd.R_far (p := ⟨gb101, 1, none⟩) (Kd.R_far (p := ⟨gb101, 0, none⟩) (Kd.R_far (p := ⟨gb111, 2, none⟩) (Kd.R_far (p := ⟨gb111, 1, none⟩) (Kd.R_far (p := ⟨gb111, 0, none⟩) (Kd.R_types (Kd.R_types HO109.out BK111.out (by decide)) BK101.out (by decide)) (fun _ hk => hk.1.2) (.int .i64 t105)) (fun _ hk => hk.1.2) (.int .i64 t106)) (fun _ hk => hk.1.2) (.slice Ao15 t107.length co15)) (fun _ hk => hk.2) (.int .i64 t105)) (fun _ hk => hk.2) (.int .i64 t106)) (fun _ hk => hk.2) (.slice Ao15 t107.length co15)) (fun _ hk => trivial), aq83⟩
 ·replace c6 := Bool.eq_false_iff.mpr c6
  subst c6
  rw [if_neg Bool.false_ne_true] at H
  simp only [Option.some.injEq, Prod.mk.injEq] at H
  obtain ⟨rfl, rfl, rfl, rfl⟩ := H
  go_enter Tryz.func71, Tryz.ntmps71
  go_wp2_with (first | ((with_reducible refine gate_dst (N := 8) rfl ?_); (try (refine gate_guard (by rfl) ?_; dsimp only)); refine box_event ?hg (N := 8) ?hd (cs := #[.int .i64 0, .int .i64 0, .slice none 0 0]) (t := 62) ?hr ?_; (case hd => rfl); (case hg => rfl); (case hr => exact aq16); intro gb101 hg w17 hbox hb; have n0_ := am (below_step aq1 hb); have n1_ := am (hbox); have n2_ := am ((by rw [hg]; exact (below_size aq1) : w.heap.size ≤ gb101)); have n3_ := am ((by rw [hg]; exact (below_size aq1) : w.heap.size ≤ gb101)); clear HB; have HB := n0_; have BK101 := n1_; have GW101 := n2_; have GE101 := n3_; clear n0_ n1_ n2_ n3_; clear hb hbox hg) | ((with_reducible refine gate_dst (N := 16) rfl ?_); (try (refine gate_guard (by rfl) ?_; dsimp only)); refine Kd.R_lit (Kd.int .i64) _ 3 ?hg (N := 16) ?hd (xs := ([a2] : List Int)) (inner := [.int .i64 a2]) (ok := fun _ => True) (okp := fun _ => True) ?hr ?hp (fun _ hk => hk) trivial (Below.refl _ _) (Nat.le_refl _) (by simp) ?_; (case hd => rfl); (case hg => rfl); (case hr => exact aq16); (case hp => exact aq70); intro v103 w18 ho19 hb hg_ hnew_; clear hg_ hnew_; (first | rw [← Ny102.out] at ho19 | (simp only [Int.reduceToNat] at ho19; rw [← Ny102.out] at ho19)); have n0_ := am (Kd.R_lower ho19 (below_size aq0)); have n1_ := am (blk_below (g := gb101) (o := .cells #[.int .i64 0, .int .i64 0, .slice none 0 0] 62 (0, 0)) aq2 hb); have n2_ := am (below_step aq0 hb); clear BK101; clear HB; have HO104 := n0_; have BK101 := n1_; have HB := n2_; clear n0_ n1_ n2_; clear hb ho19; obtain ⟨Ao20, co20, eo20⟩ := Kd.R_slice HO104.out; subst eo20) | ((with_reducible refine gate_callee (f := 62) rfl ?_); refine goesL_ (some 18) rfl rfl Tryz.func62 (by kernel_rfl) rfl #[.string a0, .slice A1 l1.length c1, .slice Ao20 y102.length co20, .string a3] rfl aq5 ?_; (with_reducible refine (spec_mcGate.calls k a0 _ _ l1 _ _ y102 a3 t105 t106 t107 false _ ?side1 ?side2 ?side3 ?side4 A5.out).mono ?_); (case side1 => exact aq15); (case side2 => exact HC1.out); (case side3 => exact aq51); (case side4 => exact (Kd.R_reads' HO104.out).2.1); rintro e w21 ⟨v108, rfl, ho0, hb⟩; refine ⟨_, rfl, ?_⟩; have n0_ := am (Kd.R_below aq30 hb); have n1_ := am (Kd.R_lower ho0 (below_size aq0)); have n2_ := am (blk_below (g := gb101) (o := .cells #[.int .i64 0, .int .i64 0, .slice none 0 0] 62 (0, 0)) aq2 hb); have n3_ := am (below_step aq0 hb); clear HO104; clear BK101; clear HB; have HO104 := n0_; have HO109 := n1_; have BK101 := n2_; have HB := n3_; clear n0_ n1_ n2_ n3_; (try clear hb); (try clear hb2); (try clear hk); (try clear hi); (try clear ho0)) | ((with_reducible refine gate_dst (N := 10) rfl ?_); (try (refine gate_guard (by rfl) ?_; dsimp only)); refine box_event ?hg (N := 10) ?hd (cs := #[.int .i64 0, .int .i64 0, .slice none 0 0]) (t := 62) ?hr ?_; (case hd => rfl); (case hg => rfl); (case hr => exact aq16); intro gb111 hg w22 hbox hb; have n0_ := am (Kd.R_below aq30 hb); have n1_ := am (Kd.R_below (by (with_reducible repeat (first | apply Kd.R_alloc | apply Kd.R_drewN | apply Kd.R_drew)); exact HO109.out) hb); have n2_ := am (blk_below (g := gb101) (o := .cells #[.int .i64 0, .int .i64 0, .slice none 0 0] 62 (0, 0)) aq2 hb); have n3_ := am (below_step aq0 hb); have n4_ := am (hbox); have n5_ := am ((by rw [hg]; exact (below_size aq0) : w.heap.size ≤ gb111)); have n6_ := am ((by rw [hg]; exact (below_size aq0) : w.heap.size ≤ gb111)); have n7_ := am ((by rw [hg]; exact Nat.ne_of_lt (blk_lt (g := gb101) (o := .cells #[.int .i64 0, .int .i64 0, .slice none 0 0] 62 (0, 0)) aq2) : gb101 ≠ gb111)); have n8_ := am ((by rw [hg]; exact Nat.ne_of_gt (blk_lt (g := gb101) (o := .cells #[.int .i64 0, .int .i64 0, .slice none 0 0] 62 (0, 0)) aq2) : gb111 ≠ gb101)); clear HO104; clear HO109; clear BK101; clear HB; have HO104 := n0_; have HO109 := n1_; have BK101 := n2_; have HB := n3_; have BK111 := n4_; have GW111 := n5_; have GE111 := n6_; have NB101_111 := n7_; have NB111_101 := n8_; clear n0_ n1_ n2_ n3_ n4_ n5_ n6_ n7_ n8_; clear hb hbox hg; have hnb23 := NB111_101.out; have hnc23 := NB101_111.out; obtain ⟨hcz24_0, hcz24_1, hcz24_2, hfz24_0, hfz24_1, hfz24_2⟩ := blk3_ BK111.out; obtain ⟨Ao25, co25, eo25⟩ := Kd.R_slice HO109.out; subst eo25; obtain ⟨hcz26_0, hcz26_1, hcz26_2, hfz26_0, hfz26_1, hfz26_2⟩ := blk3_ BK101.out))
  refine bodyPost_ret (results_ct rfl _ _ gb101 62 #[.int .i64 t105, .int .i64 t106, .slice Ao25 t107.length co25] (0, 0) _ rfl aq35 Tryz.underlying62 rfl (by kernel_rfl)) rfl ?_
  exact ⟨_, aq8, by (with_reducible repeat (first | apply Kd.R_alloc | apply Kd.R_drewN | apply Kd.R_drew)); exact Kd.R_mono (Kd.R_far (p := ⟨gb101, 2, none⟩) (Kd.R_far (p := ⟨gb101, 1, none⟩) (Kd.R_far (p := ⟨gb101, 0, none⟩) (Kd.R_far (p := ⟨gb111, 2, none⟩) (Kd.R_far (p := ⟨gb111, 1, none⟩) (Kd.R_far (p := ⟨gb111, 0, none⟩) (Kd.R_types (Kd.R_types HO109.out BK111.out (by decide)) BK101.out (by decide)) (fun _ hk => hk.1.2) (.int .i64 t105)) (fun _ hk => hk.1.2) (.int .i64 t106)) (fun _ hk => hk.1.2) (.slice Ao25 t107.length co25)) (fun _ hk => hk.2) (.int .i64 t105)) (fun _ hk => hk.2) (.int .i64 t106)) (fun _ hk => hk.2) (.slice Ao25 t107.length co25)) (fun _ hk => trivial), aq83⟩
mutual
def spec_WordForGate.j0 : Nat → List Int → Int → Int → Bool → Int → Int → List Int → Option (ByteArray × Bool)
 | 0, _, _, _, _, _, _, _ => none
 | k + 1, x1, x2, x3, x28, x108000, x108001, x108002 => if x28 = true then (some ((⟨#[]⟩ : ByteArray), false)) else (spec_WordForGate.l0 k x1 x2 x3 0 x108000 x108001 x108002)
def spec_WordForGate.l0 : Nat → List Int → Int → Int → Int → Int → Int → List Int → Option (ByteArray × Bool)
 | 0, _, _, _, _, _, _, _ => none
 | k + 1, x1, x2, x3, x12, x108000, x108001, x108002 => if x12 ≤ 5 then ((spec_mcWords.f k x12).bind fun t109 => (spec_WordForGate.l1 k x1 x2 x3 x12 t109 (t109.length : Int) 0 x108000 x108001 x108002)) else (some ((⟨#[]⟩ : ByteArray), false))
def spec_WordForGate.l1 : Nat → List Int → Int → Int → Int → List ByteArray → Int → Int → Int → Int → List Int → Option (ByteArray × Bool)
 | 0, _, _, _, _, _, _, _, _, _, _ => none
 | k + 1, x1, x2, x3, x12, x34, x35, x36, x108000, x108001, x108002 => if x36 < x35 then (if 0 ≤ x36 then (if x36 < (x34.length : Int) then ((spec_mcNumber.f k x108000 x108001 x108002 x1 x2 (rdOf ByteArray.empty x34 x36)).bind fun t113 => (if t113 = x3 then (some (rdOf ByteArray.empty x34 x36, true)) else (spec_WordForGate.l1 k x1 x2 x3 x12 x34 x35 (wrap64 (x36 + 1)) x108000 x108001 x108002))) else (none)) else (none)) else (spec_WordForGate.l0 k x1 x2 x3 (wrap64 (x12 + 1)) x108000 x108001 x108002)
end
def spec_WordForGate.f (k : Nat) (a0 : ByteArray) (l1 : List Int) (a2 : Int) (a3 : Int) : Option (ByteArray × Bool) := (spec_mcTwo.f k a0 l1 a2 (⟨#[]⟩ : ByteArray)).bind fun bt101 => (if bt101.2.2.2 = true then ((spec_l1In.f a3 0 15).bind fun t108 => (spec_WordForGate.j0 k l1 a2 a3 (!t108) bt101.1 bt101.2.1 bt101.2.2.1)) else (spec_WordForGate.j0 k l1 a2 a3 true bt101.1 bt101.2.1 bt101.2.2.1))
theorem spec_WordForGate.mono_l : ∀ k, (∀ y0 y1 y2 y3 y4 y5 y6, LeO (spec_WordForGate.j0 k y0 y1 y2 y3 y4 y5 y6) (spec_WordForGate.j0 (k + 1) y0 y1 y2 y3 y4 y5 y6)) ∧ (∀ y0 y1 y2 y3 y4 y5 y6, LeO (spec_WordForGate.l0 k y0 y1 y2 y3 y4 y5 y6) (spec_WordForGate.l0 (k + 1) y0 y1 y2 y3 y4 y5 y6)) ∧ (∀ y0 y1 y2 y3 y4 y5 y6 y7 y8 y9, LeO (spec_WordForGate.l1 k y0 y1 y2 y3 y4 y5 y6 y7 y8 y9) (spec_WordForGate.l1 (k + 1) y0 y1 y2 y3 y4 y5 y6 y7 y8 y9))
 | 0 => ⟨fun _ _ _ _ _ _ _ r h => by simp [spec_WordForGate.j0] at h, fun _ _ _ _ _ _ _ r h => by simp [spec_WordForGate.l0] at h, fun _ _ _ _ _ _ _ _ _ _ r h => by simp [spec_WordForGate.l1] at h⟩
 | k + 1 => by
  obtain ⟨ih0, ih1, ih2⟩ := spec_WordForGate.mono_l k
  refine ⟨?_, ?_, ?_⟩
  ·intro y0 y1 y2 y3 y4 y5 y6
   unfold spec_WordForGate.j0
   have im0 := @spec_mcNumber.mono; have im1 := @spec_mcTwo.mono; have im2 := @spec_mcWords.mono; exact mo
  ·intro y0 y1 y2 y3 y4 y5 y6
   unfold spec_WordForGate.l0
   have im0 := @spec_mcNumber.mono; have im1 := @spec_mcTwo.mono; have im2 := @spec_mcWords.mono; exact mo
  ·intro y0 y1 y2 y3 y4 y5 y6 y7 y8 y9
   unfold spec_WordForGate.l1
   have im0 := @spec_mcNumber.mono; have im1 := @spec_mcTwo.mono; have im2 := @spec_mcWords.mono; exact mo
theorem spec_WordForGate.mono : ∀ a0 a1 a2 a3 k, LeO (spec_WordForGate.f k a0 a1 a2 a3) (spec_WordForGate.f (k + 1) a0 a1 a2 a3) := by
 intro a0 a1 a2 a3 k
 obtain ⟨ih0, ih1, ih2⟩ := spec_WordForGate.mono_l k
 unfold spec_WordForGate.f
 have im0 := @spec_mcNumber.mono; have im1 := @spec_mcTwo.mono; have im2 := @spec_mcWords.mono; exact mo
set_option maxHeartbeats 8000000 in
set_option maxRecDepth 100000 in
theorem spec_WordForGate.calls (k : Nat) (a0 : ByteArray) (A1 : Option Addr) (c1 : Nat) (l1 : List Int) (a2 : Int) (a3 : Int) (r1 : ByteArray) (r2 : Bool) (w : World) (hr1 : Kd.C (Kd.int .i64) w A1 l1.length l1) (hc1 : l1.length ≤ c1) (h : spec_WordForGate.f k a0 l1 a2 a3 = some (r1, r2)) :
  Calls Tryz.prog 39 #[.string a0, .slice A1 l1.length c1, .int .i64 a2, .int .i64 a3] w fun e w' => e = .returned (.tuple #[.string r1, .bool r2]) ∧ Below w.heap.size w w' := by
 have hu62 := Tryz.underlying62
 have HR1 := am hr1
 have HC1 := am hc1
 clear hr1 hc1
 have HB := am (Below.refl w.heap.size w)
 have H : ((spec_mcTwo.f k a0 l1 a2 (⟨#[]⟩ : ByteArray)).bind fun bt101 => (if bt101.2.2.2 = true then ((spec_l1In.f a3 0 15).bind fun t108 => (spec_WordForGate.j0 k l1 a2 a3 (!t108) bt101.1 bt101.2.1 bt101.2.2.1)) else (spec_WordForGate.j0 k l1 a2 a3 true bt101.1 bt101.2.1 bt101.2.2.1))) = some (r1, r2) := h
 clear h
 replace H := Option.bind_eq_some_iff.mp H
 obtain ⟨⟨t101, t102, t103, t106⟩, A50, H⟩ := H
 replace H : (if t106 = true then ((spec_l1In.f a3 0 15).bind fun t108 => (spec_WordForGate.j0 k l1 a2 a3 (!t108) t101 t102 t103)) else (spec_WordForGate.j0 k l1 a2 a3 true t101 t102 t103)) = some (r1, r2) := H
 have A5 := am A50
 clear A50
 have HC6 := am H
 clear H
 go_enter Tryz.func39, Tryz.ntmps39
 go_upto_region 2 with (first | ((with_reducible refine gate_callee (f := 71) rfl ?_); refine goesL_ (some 19) rfl rfl Tryz.func71 (by kernel_rfl) rfl #[.string a0, .slice A1 l1.length c1, .int .i64 a2, .string (⟨#[]⟩ : ByteArray)] rfl aq5 ?_; (with_reducible refine (spec_mcTwo.calls k a0 _ _ l1 a2 (⟨#[]⟩ : ByteArray) t101 t102 t103 t106 _ ?side1 ?side2 A5.out).mono ?_); (case side1 => exact aq104); (case side2 => exact HC1.out); rintro e w7 ⟨v104, rfl, ho0, hb⟩; refine ⟨_, rfl, ?_⟩; have n0_ := am (Kd.R_lower ho0 (below_size aq1)); have n1_ := am (below_step aq1 hb); clear HB; have HO105 := n0_; have HB := n1_; clear n0_ n1_; (try clear hb); (try clear hb2); (try clear hk); (try clear hi); (try clear ho0)) | ((with_reducible refine gate_dst (N := 10) rfl ?_); refine box_event ?hg (N := 10) ?hd (cs := #[.int .i64 0, .int .i64 0, .slice none 0 0]) (t := 62) ?hr ?_; (case hd => rfl); (case hg => rfl); (case hr => exact aq16); intro gb107 hg w8 hbox hb; have n0_ := am (Kd.R_below (by (with_reducible repeat (first | apply Kd.R_alloc | apply Kd.R_drewN | apply Kd.R_drew)); exact HO105.out) hb); have n1_ := am (below_step aq1 hb); have n2_ := am (hbox); have n3_ := am ((by rw [hg]; exact (below_size aq1) : w.heap.size ≤ gb107)); have n4_ := am ((by rw [hg]; exact (below_size aq1) : w.heap.size ≤ gb107)); clear HO105; clear HB; have HO105 := n0_; have HB := n1_; have BK107 := n2_; have GW107 := n3_; have GE107 := n4_; clear n0_ n1_ n2_ n3_ n4_; clear hb hbox hg; obtain ⟨hcz9_0, hcz9_1, hcz9_2, hfz9_0, hfz9_1, hfz9_2⟩ := blk3_ BK107.out; obtain ⟨Ao10, co10, eo10⟩ := Kd.R_slice HO105.out; subst eo10))
 (try simp only [Act.put, List.setIfInBounds_toArray, List.set_cons_zero, List.set_cons_succ])
 go_cut [28] (fun v28 wc => ∃ (kq : Nat) (x28_5 : Bool), v28 = .bool x28_5 ∧ Aside0 (spec_WordForGate.j0 kq l1 a2 a3 x28_5 t101 t102 t103 = some (r1, r2)) ∧ Aside0 (kq ≤ k) ∧ Aside0 (Kd.R (Kd.int .u8) 5 wc w.heap.size (fun _ => True) (.slice Ao10 t103.length co10) t103) ∧ Aside0 (wc.heap[gb107]? = some (.cells #[.int .i64 t101, .int .i64 t102, (.slice Ao10 t103.length co10)] 62 (0, 0))) ∧ Aside0 (Below w.heap.size w wc))
 case first =>
  have H := HC6.out
  clear HC6
  by_cases c11 : t106 = true
  ·subst c11
   rw [if_pos rfl] at H
   obtain ⟨t108, A120, H⟩ := Option.bind_eq_some_iff.mp H
   have A12 := am A120
   clear A120
   have H' := am H
   clear H
   go_wp2_with (first | (go_at_call 52; (with_reducible refine (spec_l1In.calls a3 0 15 t108 _ A12.out).mono ?_); rintro e w' ⟨rfl, ⟨nd, rfl⟩⟩))
   go_meet
   case rel => exact ⟨_, (!t108), aq7, H', ⟨aq107⟩, ⟨aq63⟩, ⟨aq41⟩, ⟨aq17⟩⟩
  ·replace c11 := Bool.eq_false_iff.mpr c11
   subst c11
   rw [if_neg Bool.false_ne_true] at H
   have H' := am H
   clear H
   go_wp2
   go_meet
   case rel => exact ⟨_, (true), aq7, H', ⟨aq107⟩, ⟨aq63⟩, ⟨aq41⟩, ⟨aq17⟩⟩
 case rest =>
  clear HC6
  try clear c1
  try clear p2
  try clear c3
  try clear c7
  try clear c11
  try clear hcz9_0
  try clear hcz9_1
  try clear hcz9_2
  try clear hfz9_0
  try clear hfz9_1
  try clear hfz9_2
  obtain ⟨kq, x28_5, rfl, HA, HJ5, HO_108002, BK107, HB⟩ := hcut
  cases kq with
  | zero => exact absurd HA.out (by simp [spec_WordForGate.j0])
  | succ kj5 =>
   have H := HA.out
   clear HA
   simp only [spec_WordForGate.j0] at H
   by_cases c13 : x28_5 = true
   ·subst c13
    rw [if_pos rfl] at H
    simp only [Option.some.injEq, Prod.mk.injEq] at H
    obtain ⟨rfl, rfl⟩ := H
    go_wp2
    go_ret2
    exact ⟨aq8, aq17⟩
   ·replace c13 := Bool.eq_false_iff.mpr c13
    subst c13
    rw [if_neg Bool.false_ne_true] at H
    have H' := am H
    clear H
    go_wp2
    go_loopg [12] kj5 (fun kq v12 w' => ∃ (x12_2 : Int), v12 = .int .i64 x12_2 ∧ Aside0 (spec_WordForGate.l0 kq l1 a2 a3 x12_2 t101 t102 t103 = some (r1, r2)) ∧ Aside0 (kq ≤ kj5) ∧ Aside0 (Kd.R (Kd.int .u8) 5 w' w.heap.size (fun _ => True) (.slice Ao10 t103.length co10) t103) ∧ Aside0 (w'.heap[gb107]? = some (.cells #[.int .i64 t101, .int .i64 t102, (.slice Ao10 t103.length co10)] 62 (0, 0))) ∧ Aside0 (Below w.heap.size w w'))
    case atStart => exact ⟨(0), aq7, H', ⟨Nat.le_refl _⟩, ⟨aq28⟩, ⟨aq20⟩, ⟨aq17⟩⟩
    case round =>
     clear H'
     try clear c1
     try clear p2
     try clear c3
     try clear c7
     try clear c11
     try clear c13
     try clear hcz9_0
     try clear hcz9_1
     try clear hcz9_2
     try clear hfz9_0
     try clear hfz9_1
     try clear hfz9_2
     try clear p2
     obtain ⟨x12_2, rfl, HA, HK2, HO_108002, BK107, HB⟩ := hrel
     cases gk with
     | zero => exact absurd HA.out (by simp [spec_WordForGate.l0])
     | succ k2 =>
      have H := HA.out
      clear HA
      simp only [spec_WordForGate.l0] at H
      by_cases c14 : x12_2 ≤ 5
      ·rw [if_pos c14] at H
       have c14b0 := decide_eq_true c14
       clear c14
       obtain ⟨t109, A150, H⟩ := Option.bind_eq_some_iff.mp H
       have A15 := am A150
       clear A150
       have H' := am H
       clear H
       go_wp2_with (first | ((with_reducible refine gate_callee (f := 53) rfl ?_); refine goesL_ (some 34) rfl rfl Tryz.func53 (by kernel_rfl) rfl #[.int .i64 x12_2] rfl aq5 ?_; (with_reducible refine (spec_mcWords.calls k2 x12_2 t109 _ A15.out).mono ?_); rintro e w16 ⟨v110, rfl, ho0, hb⟩; refine ⟨_, rfl, ?_⟩; have n0_ := am (Kd.R_below aq28 hb); have n1_ := am (Kd.R_lower ho0 (below_size aq17)); have n2_ := am (blk_below (g := gb107) (o := .cells #[.int .i64 t101, .int .i64 t102, .slice Ao10 t103.length co10] 62 (0, 0)) aq20 hb); have n3_ := am (below_step aq17 hb); clear HO_108002; clear BK107; clear HB; have HO_108002 := n0_; have HO111 := n1_; have BK107 := n2_; have HB := n3_; clear n0_ n1_ n2_ n3_; (try clear hb); (try clear hb2); (try clear hk); (try clear hi); (try clear ho0); obtain ⟨Ao17, co17, eo17⟩ := Kd.R_slice HO111.out; subst eo17))
       go_loopg [36] k2 (fun kq v36 w' => ∃ (x36_3 : Int), v36 = .int .i64 x36_3 ∧ Aside0 (spec_WordForGate.l1 kq l1 a2 a3 x12_2 t109 (t109.length : Int) x36_3 t101 t102 t103 = some (r1, r2)) ∧ Aside0 (kq ≤ k2) ∧ Aside0 (Kd.R Kd.string 9 w' w.heap.size (fun _ => True) (.slice Ao17 t109.length co17) t109) ∧ Aside0 (Kd.R (Kd.int .u8) 5 w' w.heap.size (fun _ => True) (.slice Ao10 t103.length co10) t103) ∧ Aside0 (w'.heap[gb107]? = some (.cells #[.int .i64 t101, .int .i64 t102, (.slice Ao10 t103.length co10)] 62 (0, 0))) ∧ Aside0 (Below w.heap.size w w'))
       case atStart => exact ⟨(0), aq7, H', ⟨Nat.le_refl _⟩, ⟨by (with_reducible repeat (first | apply Kd.R_alloc | apply Kd.R_drewN | apply Kd.R_drew)); exact HO111.out⟩, ⟨aq28⟩, ⟨aq20⟩, ⟨aq17⟩⟩
       case round =>
        clear H'
        try clear c1
        try clear p2
        try clear c3
        try clear c5
        try clear c7
        try clear c11
        try clear c13
        try clear c14
        try clear c14b0
        try clear hcz9_0
        try clear hcz9_1
        try clear hcz9_2
        try clear hfz9_0
        try clear hfz9_1
        try clear hfz9_2
        try clear p2
        obtain ⟨x36_3, rfl, HA, HK3, HO_34, HO_108002, BK107, HB⟩ := hrel
        cases gk with
        | zero => exact absurd HA.out (by simp [spec_WordForGate.l1])
        | succ k3 =>
         have H := HA.out
         clear HA
         simp only [spec_WordForGate.l1] at H
         by_cases c18 : x36_3 < (t109.length : Int)
         ·rw [if_pos c18] at H
          have c18b0 := decide_eq_true c18
          clear c18
          by_cases c19 : 0 ≤ x36_3
          ·rw [if_pos c19] at H
           have c19b0 := decide_eq_true c19
           clear c19
           by_cases c20 : x36_3 < (t109.length : Int)
           ·rw [if_pos c20] at H
            have c20b0 := decide_eq_true c20
            clear c20
            obtain ⟨t113, A210, H⟩ := Option.bind_eq_some_iff.mp H
            have A21 := am A210
            clear A210
            by_cases c22 : t113 = a3
            ·rw [if_pos c22] at H
             have c22b0 := beq_iff_eq.mpr c22
             have c22b1 := bne_eq_false_iff_eq.mpr c22
             clear c22
             simp only [Option.some.injEq, Prod.mk.injEq] at H
             obtain ⟨rfl, rfl⟩ := H
             have p112 : 0 ≤ (x36_3 : Int) := of_decide_eq_true aq4
             have q112 : x36_3 < (t109.length : Int) := of_decide_eq_true aq4
             obtain ⟨ad112, e112, hx112_0⟩ := Kd.at_string (Kd.R_reads' HO_34.out).2.2 x36_3 p112 q112
             cases e112
             replace p112 := eq_true p112
             replace q112 := eq_true q112
             obtain ⟨hcz23_0, hcz23_1, hcz23_2, hfz23_0, hfz23_1, hfz23_2⟩ := blk3_ BK107.out
             go_wp2_with (first | ((with_reducible refine gate_callee (f := 72) rfl ?_); refine goesL_ (some 44) rfl rfl Tryz.func72 (by kernel_rfl) rfl #[.agg #[.int .i64 t101, .int .i64 t102, .slice Ao10 t103.length co10], .slice A1 l1.length c1, .int .i64 a2, .string (rdOf ByteArray.empty t109 x36_3)] rfl aq5 ?_; (with_reducible refine (spec_mcNumber.calls k3 t101 t102 _ _ t103 _ _ l1 a2 (rdOf ByteArray.empty t109 x36_3) t113 _ ?side1 ?side2 ?side3 ?side4 A21.out).mono ?_); (case side1 => exact aq89); (case side2 => exact (Kd.R_reads' HO_108002.out).2.1); (case side3 => exact aq15); (case side4 => exact HC1.out); rintro e w24 ⟨rfl, hb⟩; refine ⟨_, rfl, ?_⟩; have n0_ := am (Kd.R_below aq81 hb); have n1_ := am (Kd.R_below aq28 hb); have n2_ := am (blk_below (g := gb107) (o := .cells #[.int .i64 t101, .int .i64 t102, .slice Ao10 t103.length co10] 62 (0, 0)) aq20 hb); have n3_ := am (below_step aq17 hb); clear HO_34; clear HO_108002; clear BK107; clear HB; have HO_34 := n0_; have HO_108002 := n1_; have BK107 := n2_; have HB := n3_; clear n0_ n1_ n2_ n3_; (try clear hb); (try clear hb2); (try clear hk); (try clear hi)))
             go_ret2
             exact ⟨aq8, aq17⟩
            ·rw [if_neg c22] at H
             have c22b0 := beq_eq_false_iff_ne.mpr c22
             have c22b1 := bne_iff_ne.mpr c22
             have H' := am H
             clear H
             have p112 : 0 ≤ (x36_3 : Int) := of_decide_eq_true aq4
             have q112 : x36_3 < (t109.length : Int) := of_decide_eq_true aq4
             obtain ⟨ad112, e112, hx112_0⟩ := Kd.at_string (Kd.R_reads' HO_34.out).2.2 x36_3 p112 q112
             cases e112
             replace p112 := eq_true p112
             replace q112 := eq_true q112
             obtain ⟨hcz25_0, hcz25_1, hcz25_2, hfz25_0, hfz25_1, hfz25_2⟩ := blk3_ BK107.out
             go_wp2_with (first | ((with_reducible refine gate_callee (f := 72) rfl ?_); refine goesL_ (some 44) rfl rfl Tryz.func72 (by kernel_rfl) rfl #[.agg #[.int .i64 t101, .int .i64 t102, .slice Ao10 t103.length co10], .slice A1 l1.length c1, .int .i64 a2, .string (rdOf ByteArray.empty t109 x36_3)] rfl aq5 ?_; (with_reducible refine (spec_mcNumber.calls k3 t101 t102 _ _ t103 _ _ l1 a2 (rdOf ByteArray.empty t109 x36_3) t113 _ ?side1 ?side2 ?side3 ?side4 A21.out).mono ?_); (case side1 => exact aq89); (case side2 => exact (Kd.R_reads' HO_108002.out).2.1); (case side3 => exact aq15); (case side4 => exact HC1.out); rintro e w26 ⟨rfl, hb⟩; refine ⟨_, rfl, ?_⟩; have n0_ := am (Kd.R_below aq81 hb); have n1_ := am (Kd.R_below aq28 hb); have n2_ := am (blk_below (g := gb107) (o := .cells #[.int .i64 t101, .int .i64 t102, .slice Ao10 t103.length co10] 62 (0, 0)) aq20 hb); have n3_ := am (below_step aq17 hb); clear HO_34; clear HO_108002; clear BK107; clear HB; have HO_34 := n0_; have HO_108002 := n1_; have BK107 := n2_; have HB := n3_; clear n0_ n1_ n2_ n3_; (try clear hb); (try clear hb2); (try clear hk); (try clear hi)))
             go_roundg k3
             case measure => have := HJ5.out; have := HK2.out; have := HK3.out; omega
             case rel => exact ⟨(wrap64 (x36_3 + 1)), aq7, H', ⟨by have := HJ5.out; have := HK2.out; have := HK3.out; omega⟩, ⟨aq81⟩, ⟨aq28⟩, ⟨aq20⟩, ⟨aq17⟩⟩
           ·rw [if_neg c20] at H
            exact absurd H (by simp)
          ·rw [if_neg c19] at H
           exact absurd H (by simp)
         ·rw [if_neg c18] at H
          have c18b0 := decide_eq_false c18
          clear c18
          have H' := am H
          clear H
          go_wp2
          go_roundg k3
          case measure => have := HJ5.out; have := HK2.out; have := HK3.out; omega
          case rel => exact ⟨(wrap64 (x12_2 + 1)), aq7, H', ⟨by have := HJ5.out; have := HK2.out; have := HK3.out; omega⟩, ⟨aq28⟩, ⟨aq20⟩, ⟨aq17⟩⟩
      ·rw [if_neg c14] at H
       have c14b0 := decide_eq_false c14
       clear c14
       simp only [Option.some.injEq, Prod.mk.injEq] at H
       obtain ⟨rfl, rfl⟩ := H
       go_wp2
       go_ret2
       exact ⟨aq8, aq17⟩
def laws_FnExactWordForGate.j0 : Nat → List Int → List Int → Bool → Option (Bool)
 | 0, _, _, _ => none
 | k + 1, x1, x11, x46 => if x46 = true then (some false) else ((laws_toIntS.f k x1).bind fun t111 => ((laws_eqIntS.f k x11 t111).bind fun t114 => (if t114 = true then (some true) else (some false))))
def laws_FnExactWordForGate.f (k : Nat) (a0 : ByteArray) (l1 : List Int) (a2 : Int) (a3 : Int) : Option (Bool) := if (a0.size : Int) > 1048576 then (some true) else (if (l1.length : Int) > 1048576 then (some true) else ((laws_toIntS.f k l1).bind fun t101 => ((spec_WordForGate.f k a0 t101 a2 a3).bind fun bt104 => ((laws_toIntS.f k l1).bind fun t106 => ((impl_WordForGate.f k a0 t106 a2 a3).bind fun bt109 => (if bt109.1.toList = bt104.1.toList then (laws_FnExactWordForGate.j0 k l1 t106 (bt109.2 != bt104.2)) else (laws_FnExactWordForGate.j0 k l1 t106 true)))))))
theorem laws_FnExactWordForGate.mono_l : ∀ k, (∀ y0 y1 y2, LeO (laws_FnExactWordForGate.j0 k y0 y1 y2) (laws_FnExactWordForGate.j0 (k + 1) y0 y1 y2))
 | 0 => fun _ _ _ r h => by simp [laws_FnExactWordForGate.j0] at h
 | k + 1 => by
  have ih0 := laws_FnExactWordForGate.mono_l k
  ·intro y0 y1 y2
   unfold laws_FnExactWordForGate.j0
   have im0 := @impl_WordForGate.mono; have im1 := @laws_eqIntS.mono; have im2 := @laws_toIntS.mono; have im3 := @spec_WordForGate.mono; exact mo
set_option maxHeartbeats 8000000 in
set_option maxRecDepth 100000 in
theorem laws_FnExactWordForGate.calls (k : Nat) (a0 : ByteArray) (A1 : Option Addr) (c1 : Nat) (l1 : List Int) (a2 : Int) (a3 : Int) (r : Bool) (w : World) (hr1 : Kd.C (Kd.int .i64) w A1 l1.length l1) (hc1 : l1.length ≤ c1) (h : laws_FnExactWordForGate.f k a0 l1 a2 a3 = some r) :
  Calls Tryz.prog 10 #[.string a0, .slice A1 l1.length c1, .int .i64 a2, .int .i64 a3] w fun e w' => e = .returned (.bool r) ∧ Below w.heap.size w w' := by
 have HR1 := am hr1
 have HC1 := am hc1
 clear hr1 hc1
 have HB := am (Below.refl w.heap.size w)
 have H : (if (a0.size : Int) > 1048576 then (some true) else (if (l1.length : Int) > 1048576 then (some true) else ((laws_toIntS.f k l1).bind fun t101 => ((spec_WordForGate.f k a0 t101 a2 a3).bind fun bt104 => ((laws_toIntS.f k l1).bind fun t106 => ((impl_WordForGate.f k a0 t106 a2 a3).bind fun bt109 => (if bt109.1.toList = bt104.1.toList then (laws_FnExactWordForGate.j0 k l1 t106 (bt109.2 != bt104.2)) else (laws_FnExactWordForGate.j0 k l1 t106 true)))))))) = some r := h
 clear h
 by_cases c5 : (a0.size : Int) > 1048576
 ·rw [if_pos c5] at H
  have c5b0 := decide_eq_true c5
  have c5b1 : decide (1048576 < a0.size) = true := decide_eq_true (by omega)
  clear c5
  obtain rfl := Option.some.inj H
  go_enter Tryz.func10, Tryz.ntmps10
  go_wp2
  go_ret
  exact ⟨aq8, aq1⟩
 ·rw [if_neg c5] at H
  have c5b0 := decide_eq_false c5
  have c5b1 : decide (1048576 < a0.size) = false := decide_eq_false (by omega)
  clear c5
  by_cases c6 : (l1.length : Int) > 1048576
  ·rw [if_pos c6] at H
   have c6b0 := decide_eq_true c6
   have c6b1 : decide (1048576 < l1.length) = true := decide_eq_true (by omega)
   clear c6
   obtain rfl := Option.some.inj H
   go_enter Tryz.func10, Tryz.ntmps10
   go_wp2
   go_ret
   exact ⟨aq8, aq1⟩
  ·rw [if_neg c6] at H
   have c6b0 := decide_eq_false c6
   have c6b1 : decide (1048576 < l1.length) = false := decide_eq_false (by omega)
   clear c6
   obtain ⟨t101, A70, H⟩ := Option.bind_eq_some_iff.mp H
   have A7 := am A70
   clear A70
   replace H := Option.bind_eq_some_iff.mp H
   obtain ⟨⟨t104, t105⟩, A80, H⟩ := H
   replace H : ((laws_toIntS.f k l1).bind fun t106 => ((impl_WordForGate.f k a0 t106 a2 a3).bind fun bt109 => (if bt109.1.toList = t104.toList then (laws_FnExactWordForGate.j0 k l1 t106 (bt109.2 != t105)) else (laws_FnExactWordForGate.j0 k l1 t106 true)))) = some r := H
   have A8 := am A80
   clear A80
   obtain ⟨t106, A90, H⟩ := Option.bind_eq_some_iff.mp H
   have A9 := am A90
   clear A90
   replace H := Option.bind_eq_some_iff.mp H
   obtain ⟨⟨t109, t110⟩, A100, H⟩ := H
   replace H : (if t109.toList = t104.toList then (laws_FnExactWordForGate.j0 k l1 t106 (t110 != t105)) else (laws_FnExactWordForGate.j0 k l1 t106 true)) = some r := H
   have A10 := am A100
   clear A100
   have HC11 := am H
   clear H
   go_enter Tryz.func10, Tryz.ntmps10
   go_upto_region 8 with (first | ((with_reducible refine gate_callee (f := 21) rfl ?_); refine goesL_ (some 23) rfl rfl Tryz.func21 (by kernel_rfl) rfl #[.slice A1 l1.length c1] rfl aq5 ?_; (with_reducible refine (laws_toIntS.calls k _ _ l1 t101 _ ?side1 ?side2 A7.out).mono ?_); (case side1 => exact aq104); (case side2 => exact HC1.out); rintro e w12 ⟨v102, rfl, ho0, hb⟩; refine ⟨_, rfl, ?_⟩; have n0_ := am (Kd.R_lower ho0 (below_size aq1)); have n1_ := am (below_step aq1 hb); clear HB; have HO103 := n0_; have HB := n1_; clear n0_ n1_; (try clear hb); (try clear hb2); (try clear hk); (try clear hi); (try clear ho0); obtain ⟨Ao13, co13, eo13⟩ := Kd.R_slice HO103.out; subst eo13) | ((with_reducible refine gate_callee (f := 39) rfl ?_); refine goesL_ (some 26) rfl rfl Tryz.func39 (by kernel_rfl) rfl #[.string a0, .slice Ao13 t101.length co13, .int .i64 a2, .int .i64 a3] rfl aq5 ?_; (with_reducible refine (spec_WordForGate.calls k a0 _ _ t101 a2 a3 t104 t105 _ ?side1 ?side2 A8.out).mono ?_); (case side1 => exact aq67); (case side2 => exact (Kd.R_reads' HO103.out).2.1); rintro e w14 ⟨rfl, hb⟩; refine ⟨_, rfl, ?_⟩; have n0_ := am (Kd.R_below aq26 hb); have n1_ := am (below_step aq1 hb); clear HO103; clear HB; have HO103 := n0_; have HB := n1_; clear n0_ n1_; (try clear hb); (try clear hb2); (try clear hk); (try clear hi)) | ((with_reducible refine gate_callee (f := 21) rfl ?_); refine goesL_ (some 30) rfl rfl Tryz.func21 (by kernel_rfl) rfl #[.slice A1 l1.length c1] rfl aq5 ?_; (with_reducible refine (laws_toIntS.calls k _ _ l1 t106 _ ?side1 ?side2 A9.out).mono ?_); (case side1 => exact aq15); (case side2 => exact HC1.out); rintro e w15 ⟨v107, rfl, ho0, hb⟩; refine ⟨_, rfl, ?_⟩; have n0_ := am (Kd.R_elder' aq26 (Kd.R_base ho0) hb); have n1_ := am (Kd.R_lower (Kd.R_new' ho0 (Kd.R_lt aq26)) (below_size aq1)); have n2_ := am (below_step aq1 hb); clear HO103; clear HB; have HO103 := n0_; have HO108 := n1_; have HB := n2_; clear n0_ n1_ n2_; (try clear hb); (try clear hb2); (try clear hk); (try clear hi); (try clear ho0); obtain ⟨Ao16, co16, eo16⟩ := Kd.R_slice HO108.out; subst eo16) | ((with_reducible refine gate_callee (f := 40) rfl ?_); refine goesL_ (some 36) rfl rfl Tryz.func40 (by kernel_rfl) rfl #[.string a0, .slice Ao16 t106.length co16, .int .i64 a2, .int .i64 a3] rfl aq5 ?_; (with_reducible refine (impl_WordForGate.calls k a0 _ _ t106 a2 a3 t109 t110 _ ?side1 ?side2 A10.out).mono ?_); (case side1 => repeat (first | exact (Kd.R_reads' HO108.out).2.2 | (with_reducible refine Kd.C_alloc ?_ _) | (with_reducible refine Kd.C_drewN ?_ _) | (with_reducible refine Kd.C_drew ?_))); (case side2 => exact (Kd.R_reads' HO108.out).2.1); rintro e w17 ⟨rfl, hb⟩; refine ⟨_, rfl, ?_⟩; have n0_ := am (Kd.R_below aq26 hb); have n1_ := am (Kd.R_below (by (with_reducible repeat (first | apply Kd.R_alloc | apply Kd.R_drewN | apply Kd.R_drew)); exact HO108.out) hb); have n2_ := am (below_step aq1 hb); clear HO103; clear HO108; clear HB; have HO103 := n0_; have HO108 := n1_; have HB := n2_; clear n0_ n1_ n2_; (try clear hb); (try clear hb2); (try clear hk); (try clear hi)))
   (try simp only [Act.put, List.setIfInBounds_toArray, List.set_cons_zero, List.set_cons_succ])
   go_cut [46] (fun v46 wc => ∃ (kq : Nat) (x46_10 : Bool), v46 = .bool x46_10 ∧ Aside0 (laws_FnExactWordForGate.j0 kq l1 t106 x46_10 = some r) ∧ Aside0 (kq ≤ k) ∧ Aside0 (Kd.R (Kd.int .i64) 3 wc w.heap.size (fun _ => True) (.slice Ao16 t106.length co16) t106) ∧ Aside0 (Below w.heap.size w wc))
   case first =>
    have H := HC11.out
    clear HC11
    by_cases c18 : t109.toList = t104.toList
    ·rw [if_pos c18] at H
     have c18b0 := beq_iff_eq.mpr c18
     have c18b1 := bne_eq_false_iff_eq.mpr c18
     clear c18
     (first | rw [c18b0] | (simp only [i64_w, i32_w]; rw [c18b0]) | skip)
     have H' := am H
     clear H
     go_wp2
     go_meet
     case rel => exact ⟨_, ((t110 != t105)), aq7, H', ⟨aq107⟩, ⟨aq103⟩, ⟨aq1⟩⟩
    ·rw [if_neg c18] at H
     have c18b0 := beq_eq_false_iff_ne.mpr c18
     have c18b1 := bne_iff_ne.mpr c18
     (first | rw [c18b0] | (simp only [i64_w, i32_w]; rw [c18b0]) | skip)
     have H' := am H
     clear H
     go_wp2
     go_meet
     case rel => exact ⟨_, (true), aq7, H', ⟨aq107⟩, ⟨aq103⟩, ⟨aq1⟩⟩
   case rest =>
    clear HC11
    try clear c1
    try clear c2
    try clear p2
    try clear c3
    try clear c4
    try clear c5
    try clear c5b0
    try clear c5b1
    try clear c6
    try clear c6b0
    try clear c6b1
    try clear c10
    try clear c18
    try clear c18b0
    try clear c18b1
    obtain ⟨kq, x46_10, rfl, HA, HJ10, HO_11, HB⟩ := hcut
    cases kq with
    | zero => exact absurd HA.out (by simp [laws_FnExactWordForGate.j0])
    | succ kj10 =>
     have H := HA.out
     clear HA
     simp only [laws_FnExactWordForGate.j0] at H
     by_cases c19 : x46_10 = true
     ·subst c19
      rw [if_pos rfl] at H
      obtain rfl := Option.some.inj H
      go_wp2
      go_ret
      exact ⟨aq8, aq1⟩
     ·replace c19 := Bool.eq_false_iff.mpr c19
      subst c19
      rw [if_neg Bool.false_ne_true] at H
      obtain ⟨t111, A200, H⟩ := Option.bind_eq_some_iff.mp H
      have A20 := am A200
      clear A200
      obtain ⟨t114, A210, H⟩ := Option.bind_eq_some_iff.mp H
      have A21 := am A210
      clear A210
      by_cases c22 : t114 = true
      ·subst c22
       rw [if_pos rfl] at H
       obtain rfl := Option.some.inj H
       go_wp2_with (first | ((with_reducible refine gate_callee (f := 21) rfl ?_); refine goesL_ (some 49) rfl rfl Tryz.func21 (by kernel_rfl) rfl #[.slice A1 l1.length c1] rfl aq5 ?_; (with_reducible refine (laws_toIntS.calls kj10 _ _ l1 t111 _ ?side1 ?side2 A20.out).mono ?_); (case side1 => exact aq15); (case side2 => exact HC1.out); rintro e w23 ⟨v112, rfl, ho0, hb⟩; refine ⟨_, rfl, ?_⟩; have n0_ := am (Kd.R_elder' aq68 (Kd.R_base ho0) hb); have n1_ := am (Kd.R_lower (Kd.R_new' ho0 (Kd.R_lt aq68)) (below_size aq1)); have n2_ := am (below_step aq1 hb); clear HO_11; clear HB; have HO_11 := n0_; have HO113 := n1_; have HB := n2_; clear n0_ n1_ n2_; (try clear hb); (try clear hb2); (try clear hk); (try clear hi); (try clear ho0); obtain ⟨Ao24, co24, eo24⟩ := Kd.R_slice HO113.out; subst eo24) | ((with_reducible refine gate_callee (f := 23) rfl ?_); refine goesL_ (some 50) rfl rfl Tryz.func23 (by kernel_rfl) rfl #[.slice Ao16 t106.length co16, .slice Ao24 t111.length co24] rfl aq5 ?_; (with_reducible refine (laws_eqIntS.calls kj10 _ _ t106 _ _ t111 true _ ?side1 ?side2 ?side3 ?side4 A21.out).mono ?_); (case side1 => exact aq90); (case side2 => exact (Kd.R_reads' HO_11.out).2.1); (case side3 => exact aq91); (case side4 => exact (Kd.R_reads' HO113.out).2.1); rintro e w' ⟨rfl, ⟨nd, rfl⟩⟩; refine ⟨_, rfl, ?_⟩))
       go_ret
       exact ⟨aq8, aq1⟩
      ·replace c22 := Bool.eq_false_iff.mpr c22
       subst c22
       rw [if_neg Bool.false_ne_true] at H
       obtain rfl := Option.some.inj H
       go_wp2_with (first | ((with_reducible refine gate_callee (f := 21) rfl ?_); refine goesL_ (some 49) rfl rfl Tryz.func21 (by kernel_rfl) rfl #[.slice A1 l1.length c1] rfl aq5 ?_; (with_reducible refine (laws_toIntS.calls kj10 _ _ l1 t111 _ ?side1 ?side2 A20.out).mono ?_); (case side1 => exact aq15); (case side2 => exact HC1.out); rintro e w25 ⟨v112, rfl, ho0, hb⟩; refine ⟨_, rfl, ?_⟩; have n0_ := am (Kd.R_elder' aq68 (Kd.R_base ho0) hb); have n1_ := am (Kd.R_lower (Kd.R_new' ho0 (Kd.R_lt aq68)) (below_size aq1)); have n2_ := am (below_step aq1 hb); clear HO_11; clear HB; have HO_11 := n0_; have HO113 := n1_; have HB := n2_; clear n0_ n1_ n2_; (try clear hb); (try clear hb2); (try clear hk); (try clear hi); (try clear ho0); obtain ⟨Ao26, co26, eo26⟩ := Kd.R_slice HO113.out; subst eo26) | ((with_reducible refine gate_callee (f := 23) rfl ?_); refine goesL_ (some 50) rfl rfl Tryz.func23 (by kernel_rfl) rfl #[.slice Ao16 t106.length co16, .slice Ao26 t111.length co26] rfl aq5 ?_; (with_reducible refine (laws_eqIntS.calls kj10 _ _ t106 _ _ t111 false _ ?side1 ?side2 ?side3 ?side4 A21.out).mono ?_); (case side1 => exact aq90); (case side2 => exact (Kd.R_reads' HO_11.out).2.1); (case side3 => exact aq91); (case side4 => exact (Kd.R_reads' HO113.out).2.1); rintro e w' ⟨rfl, ⟨nd, rfl⟩⟩; refine ⟨_, rfl, ?_⟩))
       go_ret
       exact ⟨aq8, aq1⟩
end Go.Proofs.YtdffgeoegdkiaaaGreatDoor.F

namespace Go.Proofs.YtdffgeoegdkiaaaGreatDoor.F
open Go.RowKit Go.Proofs.YtdffgeoegdkiaaaGreatDoor Go.Proofs.YtdffgeoegdkiaaaGreatDoorW.PrintWords Go.Proofs.YtdffgeoegdkiaaaGreatDoorW.PrintMore
def wgF (w h : Nat) (cs l1 : List Int) (o m : Int) : ByteArray × Bool := match (levelsS 5).find? (fun u => gN w h cs l1 o u == m) with
  | some u => (txtW u, true)
  | none => (ByteArray.empty, false)
section
variable {t : ByteArray} {w h : Nat} {cs l1 : List Int} {o m : Int} (hg : tyGrid (bytesOf t) = some (w, h, cs)) (c1 : cellsOk freeC cs l1 = true) (c2 : cellsOk isOpenC cs [o] = true)
include hg c1 c2
theorem impl_wg_words : Ev (fun k => wordsF (wgStep k t l1 o m) 6 (ByteArray.empty, false) [ByteArray.empty]) (wgF w h cs l1 o m) := by
  have := words_hit (step := fun k => wgStep k t l1 o m) (hit := fun x => gN w h cs l1 o (wordD x) == m) (a0 := (ByteArray.empty, false)) (a1 := fun x => (x, true)) (fun u hu hl => by
    have hG := impl_gate_num (wd := txtW u) hg (word_txtW hu (by omega)) c1 c2
    unfold wgStep
    refine Ev.bind hG (Ev.congr (fun k => ?_) (Ev.now _))
    by_cases e : gN w h cs l1 o (wordD (txtW u)) = m
    · rw [if_pos e, if_pos (by simpa using e)]
    · rw [if_neg e, if_neg (by simpa using e)]; rfl) 6 0 (by omega)
  rw [level0_map, levels_map 5] at this
  have e : ((levels 5).map txtW).find? (fun x => gN w h cs l1 o (wordD x) == m) = ((levelsS 5).find? (fun u => gN w h cs l1 o u == m)).map txtW := by
    obtain ⟨_, _, hl, _⟩ := tyGrid_some hg
    have hd : ∀ u ∈ levels 5, ∀ d ∈ u, d < 4 := fun u hu => by
      obtain ⟨i, _, hu⟩ := List.mem_flatMap.1 hu
      exact ((mem_level i u).1 hu).2
    have hf := find_short (fun u => gN w h cs l1 o u == m) (fun u hu => by show (gN w h cs l1 o (shortD u) == m) = _; rw [gN_short hl hu]) 5
    have cg : ∀ (L : List (List Nat)), (∀ u ∈ L, ∀ d ∈ u, d < 4) → L.find? ((fun x => gN w h cs l1 o (wordD x) == m) ∘ txtW) = L.find? (fun u => gN w h cs l1 o u == m) := fun L => by
      induction L with
      | nil => intro _; rfl
      | cons u L ih =>
        intro hL
        rw [List.find?_cons, List.find?_cons, ih (fun v hv => hL v (List.mem_cons_of_mem _ hv))]
        show (match gN w h cs l1 o (wordD (txtW u)) == m with | true => _ | false => _) = _
        rw [wordD_txtW (hL u List.mem_cons_self)]
        cases gN w h cs l1 o u == m <;> rfl
    generalize levels 5 = L at hd hf
    rw [List.find?_map, cg L hd, hf]
  rw [e] at this
  unfold wgF
  cases hf : (levelsS 5).find? (fun u => gN w h cs l1 o u == m) with
  | none => rw [hf] at this; exact this
  | some u => rw [hf] at this; exact this
theorem spec_wg_l1 {j : Nat} (hj : j ≤ 5) {R : ByteArray × Bool} : ∀ (d i : Nat), i + d = (levelS j).length →
    (((levelS j).drop i).find? (fun u => gN w h cs l1 o u == m) = none → Ev (fun k => spec_WordForGate.l0 k l1 o m (wrap64 ((j : Int) + 1)) w h cs) R) →
    Ev (fun k => spec_WordForGate.l1 k l1 o m (j : Int) ((levelS j).map txtW) (((levelS j).map txtW).length : Int) (i : Int) w h cs) (match ((levelS j).drop i).find? (fun u => gN w h cs l1 o u == m) with | some u => (txtW u, true) | none => R)
  | 0, i, hi, hr => by
    rw [List.drop_eq_nil_of_le (by omega)] at hr ⊢
    exact Ev.step (fun k => by rw [spec_WordForGate.l1, if_neg (by rw [List.length_map]; omega)]) (hr rfl)
  | d + 1, i, hi, hr => by
    have hil : i < (levelS j).length := by omega
    have hlen := (levelS_sub j).1
    have h4 : 4 ^ j ≤ 4 ^ 5 := Nat.pow_le_pow_right (by decide) hj
    have h44 : 4 ^ 5 = 1024 := rfl
    have HW : Aside0 (wrap64 ((i : Int) + 1) = ((i + 1 : Nat) : Int)) := ⟨by rw [w64 (by omega) (by omega)]; rfl⟩
    obtain ⟨q1, q2⟩ := (levelS_sub j).2 _ (List.getElem_mem hil)
    have hrd : rdOf ByteArray.empty ((levelS j).map txtW) (i : Int) = txtW (levelS j)[i] := by unfold rdOf; rw [Int.toNat_natCast, List.getD_eq_getElem?_getD, List.getElem?_map, List.getElem?_eq_getElem hil]; rfl
    have hB := spec_gate_num (wd := txtW (levelS j)[i]) hg (word_txtW q1 (by omega)) c1 c2
    rw [wordD_txtW q1] at hB
    rw [List.drop_eq_getElem_cons hil] at hr ⊢
    refine Ev.step (f := fun k => (spec_mcNumber.f k w h cs l1 o (txtW (levelS j)[i])).bind fun t113 => if t113 = m then some (txtW (levelS j)[i], true) else spec_WordForGate.l1 k l1 o m (j : Int) ((levelS j).map txtW) (((levelS j).map txtW).length : Int) ((i + 1 : Nat) : Int) w h cs) (fun k => ?_) (Ev.bind hB ?_)
    · rw [spec_WordForGate.l1, if_pos (by rw [List.length_map]; omega), if_pos (by omega), if_pos (by rw [List.length_map]; omega), hrd, HW.out]
    · by_cases e : gN w h cs l1 o (levelS j)[i] = m
      · rw [List.find?_cons_of_pos (by simpa using e)]
        exact Ev.congr (fun k => if_pos e) (Ev.now _)
      · rw [List.find?_cons_of_neg (by simpa using e)] at hr ⊢
        exact Ev.congr (fun k => if_neg e) (spec_wg_l1 hj d (i + 1) (by omega) hr)
theorem spec_wg_l0 : ∀ (d j : Nat), j + d = 6 → ((List.range j).flatMap levelS).find? (fun u => gN w h cs l1 o u == m) = none → Ev (fun k => spec_WordForGate.l0 k l1 o m (j : Int) w h cs) (wgF w h cs l1 o m)
  | 0, j, hj, hf => by
    obtain rfl : j = 6 := by omega
    have e : wgF w h cs l1 o m = (ByteArray.empty, false) := by
      unfold wgF levelsS
      rw [show 5 + 1 = 6 from rfl, hf]
    rw [e]
    exact Ev.step (f := fun _ => some (ByteArray.empty, false)) (fun k => by rw [spec_WordForGate.l0, if_neg (by omega)]; rfl) (Ev.now _)
  | d + 1, j, hj, hf => by
    have HW : Aside0 (wrap64 ((j : Int) + 1) = ((j + 1 : Nat) : Int)) := ⟨by rw [w64 (by omega) (by omega)]; rfl⟩
    have hl1 := spec_wg_l1 hg c1 c2 (m := m) (R := wgF w h cs l1 o m) (j := j) (by omega) (levelS j).length 0 (by omega) (fun hn => by
      rw [HW.out]
      refine spec_wg_l0 d (j + 1) (by omega) ?_
      rw [List.drop_zero] at hn
      rw [List.range_succ, List.flatMap_append, List.flatMap_cons, List.flatMap_nil, List.append_nil, List.find?_append, hf, hn]; rfl)
    rw [List.drop_zero] at hl1
    have e : (match (levelS j).find? (fun u => gN w h cs l1 o u == m) with | some u => (txtW u, true) | none => wgF w h cs l1 o m) = wgF w h cs l1 o m := by
      cases hc : (levelS j).find? (fun u => gN w h cs l1 o u == m) with
      | none => rfl
      | some u =>
        unfold wgF levelsS
        have : (List.range (5 + 1)).flatMap levelS = (List.range j).flatMap levelS ++ (levelS j ++ ((List.range (5 - j)).map (fun i => j + 1 + i)).flatMap levelS) := by
          have hr : List.range (5 + 1) = List.range j ++ (j :: (List.range (5 - j)).map (fun i => j + 1 + i)) := by
            have : j = 0 ∨ j = 1 ∨ j = 2 ∨ j = 3 ∨ j = 4 ∨ j = 5 := by omega
            rcases this with rfl | rfl | rfl | rfl | rfl | rfl <;> rfl
          rw [hr, List.flatMap_append, List.flatMap_cons]
        rw [this, List.find?_append, hf, List.find?_append, hc]; rfl
    rw [e] at hl1
    refine Ev.step (f := fun k => (spec_mcWords.f k (j : Int)).bind fun t109 => spec_WordForGate.l1 k l1 o m (j : Int) t109 (t109.length : Int) 0 w h cs) (fun k => ?_) (Ev.bind (mcWords_ev (n := j) (by omega)) hl1)
    rw [spec_WordForGate.l0, if_pos (by omega)]
end
def wgA (t : ByteArray) (l1 : List Int) (o m : Int) : ByteArray × Bool := if (l1.length = 2 ∧ gateB t l1 [o] = true) ∧ 0 ≤ m ∧ m ≤ 15 then (match tyGrid (bytesOf t) with | none => (ByteArray.empty, false) | some g => wgF g.1 g.2.1 g.2.2 l1 o m) else (ByteArray.empty, false)
theorem impl_wg_ev (t : ByteArray) (ht : t.size < 4294967281) (l1 : List Int) (h1 : l1.length ≤ 2000000) (o m : Int) : Ev (fun k => impl_WordForGate.f k t l1 o m) (wgA t l1 o m) := by
  unfold impl_WordForGate.f wgA
  refine Ev.bind (impl_isTwo_ev t ht l1 h1 o) ?_
  by_cases hb : (l1.length = 2 ∧ gateB t l1 [o] = true) ∧ 0 ≤ m ∧ m ≤ 15
  · obtain ⟨w, h, cs, hg, c1, c2⟩ := gateB_grid' hb.1.2
    rw [if_pos hb]
    simp only [hg]
    exact Ev.congr (fun k => if_pos ⟨by rw [hb.1.2, decide_eq_true hb.1.1]; rfl, hb.2⟩) (impl_wg_words hg c1 c2)
  · rw [if_neg hb]
    refine Ev.congr (fun k => if_neg (fun q => hb ⟨?_, q.2⟩)) (Ev.now _)
    have q1 := q.1
    rw [Bool.and_eq_true, decide_eq_true_iff] at q1
    exact q1
theorem spec_wg_ev (t : ByteArray) (l1 : List Int) (h1 : l1.length ≤ 2000000) (o m : Int) : Ev (fun k => spec_WordForGate.f k t l1 o m) (wgA t l1 o m) := by
  obtain ⟨A, B, C, hG, hABC⟩ := spec_mcGate_ev t l1 [o] h1 (by simp) ByteArray.empty
  have hno : ∀ A B C, Ev (fun k => spec_WordForGate.j0 k l1 o m true A B C) (ByteArray.empty, false) := fun A B C => Ev.step (f := fun _ => some (ByteArray.empty, false)) (fun k => by rw [spec_WordForGate.j0, if_pos rfl]; rfl) (Ev.now _)
  unfold wgA spec_WordForGate.f spec_mcTwo.f
  by_cases hb : gateB t l1 [o] = true
  · obtain ⟨w, h, cs, hg, c1, c2⟩ := gateB_grid' hb
    obtain ⟨rfl, rfl, rfl⟩ := hABC w h cs hg
    refine Ev.bind (Ev.bind hG (Ev.congr (fun k => if_pos (by rw [hb, wordB_nil]; rfl)) (Ev.now _))) ?_
    by_cases h2 : l1.length = 2
    · refine Ev.congr (fun k => if_pos (by rw [h2]; rfl)) ?_
      by_cases hm : 0 ≤ m ∧ m ≤ 15
      · rw [if_pos ⟨⟨h2, hb⟩, hm⟩]
        simp only [hg]
        have hin : spec_l1In.f m 0 15 = some true := by unfold spec_l1In.f; rw [if_pos (by omega), decide_eq_true hm.2]
        rw [hin]
        simp only [Option.bind_some]
        exact Ev.step (fun k => by rw [spec_WordForGate.j0, if_neg (by decide)]; rfl) (spec_wg_l0 hg c1 c2 6 0 (by omega) rfl)
      · rw [if_neg (fun q => hm q.2)]
        have hin : spec_l1In.f m 0 15 = some false := by
          unfold spec_l1In.f
          by_cases h0 : m ≥ 0
          · rw [if_pos h0, decide_eq_false (by omega)]
          · rw [if_neg h0]
        rw [hin]
        simp only [Option.bind_some]
        exact hno _ _ _
    · rw [if_neg (fun q => h2 q.1.1)]
      refine Ev.congr (fun k => if_neg (fun q => h2 ?_)) (hno _ _ _)
      have := beq_iff_eq.1 q
      omega
  · rw [if_neg (fun q => hb q.1.2)]
    refine Ev.bind (Ev.bind hG (Ev.congr (fun k => if_neg (fun q => hb ?_)) (Ev.now _))) ?_
    · rw [Bool.and_eq_true] at q
      exact q.1
    · exact Ev.congr (fun k => if_neg Bool.false_ne_true) (hno _ _ _)
theorem FnExactWordForGate (a : ByteArray) (l1 : List Int) (o m : Int) (ha : a.size ≤ 9223372036854775807) (hw1 : ∀ x ∈ l1, (Lit.int .i64 x).wf = true) (ho : (Lit.int .i64 o).wf = true) (hm : (Lit.int .i64 m).wf = true) : ∃ k, laws_FnExactWordForGate.f k a l1 o m = some true := by
  refine Ev.rounds (g := fun k => laws_FnExactWordForGate.f k a l1 o m) ?_
  unfold laws_FnExactWordForGate.f
  by_cases c0 : (a.size : Int) > 1048576
  · exact Ev.congr (fun k => if_pos c0) (Ev.now _)
  by_cases c1 : (l1.length : Int) > 1048576
  · exact Ev.congr (fun k => by rw [if_neg c0, if_pos c1]) (Ev.now _)
  refine Ev.congr (fun k => by rw [if_neg c0, if_neg c1]) ?_
  have t1 := toI_ev l1 (by omega)
  have e1 := eqI_ev l1 (by omega)
  have hI := impl_wg_ev a (by omega) l1 (by omega) o m
  have hS := spec_wg_ev a l1 (by omega) o m
  generalize wgA a l1 o m = R at hI hS
  have hj0 : Ev (fun k => laws_FnExactWordForGate.j0 k l1 l1 false) true := by
    refine Ev.step (fun k => by rw [laws_FnExactWordForGate.j0, if_neg Bool.false_ne_true]) (Ev.bind t1 (Ev.bind e1 ?_))
    exact Ev.congr (fun k => if_pos rfl) (Ev.now _)
  refine Ev.bind t1 (Ev.bind hS (Ev.bind t1 (Ev.bind hI ?_)))
  refine Ev.congr (fun k => if_pos rfl) ?_
  rw [bne_self_eq_false]
  exact hj0
end Go.Proofs.YtdffgeoegdkiaaaGreatDoor.F
