/- The proof that the law's row holds, part 5: the kit's words, the printed walks and the plain law. No conditions beyond the card's own. -/
import Derived.Maps.OwnOps
import Derived.Maps.OwnSet
import Derived.Deep.RegionHeld3
import Derived.Laws.BitsLemmas
import Derived.Test.YtdffgeoegdkiaaaGreatDoorM0
import Derived.Test.YtdffgeoegdkiaaaGreatDoorM1
import Derived.Test.YtdffgeoegdkiaaaGreatDoorM2
import Derived.Test.YtdffgeoegdkiaaaGreatDoorM3
import Derived.Test.YtdffgeoegdkiaaaGreatDoorM4
set_option linter.unusedVariables false
set_option linter.unusedSimpArgs false
namespace Go.Proofs.YtdffgeoegdkiaaaGreatDoor.F
open Go.Proofs.YtdffgeoegdkiaaaGreatDoor
open Go.RowKit Go.Proofs.YtdffgeoegdkiaaaGreatDoorW.PrintWords Go.Proofs.YtdffgeoegdkiaaaGreatDoorW.PrintLast Go.Proofs.YtdffgeoegdkiaaaGreatDoorW.PrintMore Go.Lib Go.Maps
attribute [local go_sem] max2_int min2_int
def cgStep (k : Nat) (t : ByteArray) (l1 : List Int) (o : Int) (s : List Int) (x : ByteArray) : Option (List Int × Bool) :=
  (impl_gate.f k t l1 o x).bind fun n => if 0 ≤ n ∧ n < 65536 then (if s.length < 65536 then some (s ++ [n], true) else none) else none
theorem cgStep_mono (k : Nat) (t : ByteArray) (l1 : List Int) (o : Int) (s : List Int) (x : ByteArray) : LeO (cgStep k t l1 o s x) (cgStep (k + 1) t l1 o s x) := by
  unfold cgStep
  exact LeO.bind (impl_gate.mono _ _ _ _ _) (fun _ => LeO.refl _)
def seenD (s : List Int) : DataW Unit := s.foldl (fun D x => D.put (.int .i64 x) (.lit (.bool true))) (.map [])
theorem seenD_snoc (s : List Int) (x : Int) : seenD (s ++ [x]) = (seenD s).put (.int .i64 x) (.lit (.bool true)) := by unfold seenD; rw [List.foldl_append]; rfl
def cgInv (w0 : World) (t : ByteArray) (A1 : Option Addr) (c1 : Nat) (l1 : List Int) (o : Int) (bt bl bo bs bm : Nat) (s : List Int) (F : Nat → Prop) (W : World) : Prop :=
  Below w0.heap.size w0 W ∧ (∀ k, F k ↔ k = bt ∨ k = bl ∨ k = bo ∨ k = bs ∨ k = bm) ∧ (∀ k, F k → w0.heap.size ≤ k) ∧ W.heap[bt]? = some (.cells #[.string t] 9 (0, 0)) ∧ W.heap[bl]? = some (.cells #[.slice A1 l1.length c1] 28 (0, 0)) ∧ W.heap[bo]? = some (.cells #[.int .i64 o] 3 (0, 0)) ∧
    W.heap[bs]? = some (.cells #[.map (some bm)] 84 (0, 0)) ∧ ∃ n, n ≤ s.length ∧ W.ownsMap Tryz.prog 3 (plainElem (H := Unit) Tryz.prog 4) bm n (seenD s)
theorem ownsMap_block {w w' : World} {P : Program} {k : TypeId} {R : Value → Option (DataW Unit × List MemPlace)} {b n : Nat} {D : DataW Unit} (h : w.ownsMap P k R b n D) (hb : w'.heap[b]? = w.heap[b]?) : w'.ownsMap P k R b n D := by
  obtain ⟨es, clock, h1, h2⟩ := h
  exact ⟨es, clock, hb.trans h1, h2⟩
section
variable {w0 : World} {t : ByteArray} {A1 : Option Addr} {c1 : Nat} {l1 : List Int} {o : Int} {bt bl bo bs bm : Nat} {s : List Int} {F G : Nat → Prop} {W W' : World}
theorem cgInv_lt (h : cgInv w0 t A1 c1 l1 o bt bl bo bs bm s F W) : ∀ k, F k → k < W.heap.size := by
  obtain ⟨_, hF, _, h1, h2, h3, h4, n, _, h5⟩ := h
  intro k hk
  rcases (hF k).1 hk with rfl | rfl | rfl | rfl | rfl
  · exact blkx_lt h1
  · exact blkx_lt h2
  · exact blkx_lt h3
  · exact blkx_lt h4
  · exact h5.lt
theorem cgInv_st (h : cgInv w0 t A1 c1 l1 o bt bl bo bs bm s F W) (hh : Held G W W') (hG : ∀ k, G k → ¬ F k ∧ w0.heap.size ≤ k) : cgInv w0 t A1 c1 l1 o bt bl bo bs bm s F W' := by
  have hk : ∀ k, F k → W'.heap[k]? = W.heap[k]? := fun k hf => hh.block k (cgInv_lt h k hf) (fun g => (hG k g).1 hf)
  obtain ⟨hb, hF, hB, h1, h2, h3, h4, n, hn, h5⟩ := h
  exact ⟨Held.below hb hh hb.size (fun k g => (hG k g).2), hF, hB, (hk _ ((hF _).2 (by simp))).trans h1, (hk _ ((hF _).2 (by simp))).trans h2, (hk _ ((hF _).2 (by simp))).trans h3, (hk _ ((hF _).2 (by simp))).trans h4, n, hn, ownsMap_block h5 (hk _ ((hF _).2 (by simp)))⟩
end
theorem cg_cells {bs bt bl bo : Nat} {u1 u2 u3 u4 : Value} {w w' : World} (h : w.cell? ⟨bs, 0, none⟩ = some u1 ∧ w.cell? ⟨bt, 0, none⟩ = some u2 ∧ w.cell? ⟨bl, 0, none⟩ = some u3 ∧ w.cell? ⟨bo, 0, none⟩ = some u4) (hk : ∀ k u, w.cell? ⟨k, 0, none⟩ = some u → w'.heap[k]? = w.heap[k]?) :
    w'.cell? ⟨bs, 0, none⟩ = some u1 ∧ w'.cell? ⟨bt, 0, none⟩ = some u2 ∧ w'.cell? ⟨bl, 0, none⟩ = some u3 ∧ w'.cell? ⟨bo, 0, none⟩ = some u4 := by
  obtain ⟨h1, h2, h3, h4⟩ := h
  exact ⟨(World.cell?_of_block (hk _ _ h1)).trans h1, (World.cell?_of_block (hk _ _ h2)).trans h2, (World.cell?_of_block (hk _ _ h3)).trans h3, (World.cell?_of_block (hk _ _ h4)).trans h4⟩
theorem ownsMap_nocell {w : World} {P : Program} {k : TypeId} {R : Value → Option (DataW Unit × List MemPlace)} {b n : Nat} {D : DataW Unit} (h : w.ownsMap P k R b n D) {q : Nat} {u : Value} (hc : w.cell? ⟨q, 0, none⟩ = some u) : some q ≠ some b := by
  obtain ⟨es, clock, h1, h2⟩ := h
  intro e
  injection e with e
  subst e
  simp [World.cell?, h1] at hc
set_option maxRecDepth 100000 in
set_option maxHeartbeats 8000000 in
theorem cg_closure (k : Nat) (w0 : World) (t : ByteArray) (A1 : Option Addr) (c1 : Nat) (l1 : List Int) (o : Int) (hr1 : Kd.C (Kd.int .i64) w0 A1 l1.length l1) (hc1 : l1.length ≤ c1) (bt bl bo bs bm : Nat) (s : List Int) (F : Nat → Prop) (W : World) (x : ByteArray) (s' : List Int) (b : Bool) (hi : cgInv w0 t A1 c1 l1 o bt bl bo bs bm s F W) (hs : cgStep k t l1 o s x = some (s', b)) :
    Calls Tryz.prog 76 (#[.string x] ++ #[.pointer (some ⟨bs, 0, none⟩), .pointer (some ⟨bt, 0, none⟩), .pointer (some ⟨bl, 0, none⟩), .pointer (some ⟨bo, 0, none⟩)]) W fun e W' => e = .returned (.bool b) ∧ ∃ F', cgInv w0 t A1 c1 l1 o bt bl bo bs bm s' F' W' ∧ Held F W W' ∧ ∀ k, F' k → F k ∨ W.heap.size ≤ k := by
  have HI := am hi
  obtain ⟨hb, hF, hB, h1, h2, h3, h4, h5⟩ := hi
  unfold cgStep at hs
  obtain ⟨g, hg, hs⟩ := Option.bind_eq_some_iff.mp hs
  by_cases c2 : 0 ≤ g ∧ g < 65536
  · rw [if_pos c2] at hs
    by_cases c3 : s.length < 65536
    · obtain ⟨rfl, rfl⟩ : s ++ [g] = s' ∧ true = b := by simpa [c3] using hs
      have HG := am hg
      have HC := am (Kd.C_below hr1 hb)
      have HC1 := am hc1
      have HN := am c3
      have HR := am c2
      have zs : W.cell? ⟨bs, 0, none⟩ = some (.map (some bm)) := (blk_cell h4 0).trans rfl
      have zt : W.cell? ⟨bt, 0, none⟩ = some (.string t) := (blk_cell h1 0).trans rfl
      have zl : W.cell? ⟨bl, 0, none⟩ = some (.slice A1 l1.length c1) := (blk_cell h2 0).trans rfl
      have zo : W.cell? ⟨bo, 0, none⟩ = some (.int .i64 o) := (blk_cell h3 0).trans rfl
      have H4 := am h4
      have H5 := am h5
      clear hs c2 c3 hg hb hF hB h1 h2 h3 h4 h5 hr1 hc1
      show Calls _ _ #[.string x, .pointer (some ⟨bs, 0, none⟩), .pointer (some ⟨bt, 0, none⟩), .pointer (some ⟨bl, 0, none⟩), .pointer (some ⟨bo, 0, none⟩)] _ _
      go_enter Tryz.func76, Tryz.ntmps76
      go_wp2
      have hz : W.cell? ⟨bs, 0, none⟩ = some (.map (some bm)) ∧ W.cell? ⟨bt, 0, none⟩ = some (.string t) ∧ W.cell? ⟨bl, 0, none⟩ = some (.slice A1 l1.length c1) ∧ W.cell? ⟨bo, 0, none⟩ = some (.int .i64 o) := ⟨zs, zt, zl, zo⟩
      have HZ := am hz
      clear hz
      go_region_held3 (fun w' => w'.cell? ⟨bs, 0, none⟩ = some (.map (some bm)) ∧ w'.cell? ⟨bt, 0, none⟩ = some (.string t) ∧ w'.cell? ⟨bl, 0, none⟩ = some (.slice A1 l1.length c1) ∧ w'.cell? ⟨bo, 0, none⟩ = some (.int .i64 o)) (first | exact HZ.out | exact HZ1.out | exact HZ2.out | go_keep)
        ((first
          | (go_simp; go_at_call 74; refine (impl_gate.calls k t A1 c1 l1 o x g _ (by exact HC.out) HC1.out HG.out).mono ?_; rintro e w1 ⟨rfl, hb⟩; have HB := am hb; have hs1 := (cg_cells HZ.out (fun k u hk => hb.block k (World.block_lt_of_cell? W _ hk))); have HZ1 := am hs1; obtain ⟨n, hn, hown⟩ := H5.out; have hown1 := ownsMap_block hown (hb.block bm hown.lt); obtain ⟨w2, hrun, hown2, hgr2⟩ := hown1.update int_keys Tryz.underlying84 (show n < maxLen from by unfold maxLen; have := HN.out; omega) (key := .int .i64 g) (val := .bool true) (keyOf_int_mk Tryz.underlying3 (WalkArith.wf_i64 (by have := HR.out; omega))) (plainElem_bool Tryz.underlying4 true); have HZ2 := am (cg_cells hs1 (fun k u hk => hgr2.block k (World.block_lt_of_cell? w1 _ hk) (ownsMap_nocell hown1 hk))); have HW2 := am hown2; have HGR := am hgr2; have HNL := am hn; clear hb hs1 hown hown1 hown2 hgr2 hn)))
      go_wp2
      go_ret
      obtain ⟨hb, hF, hB, h1, h2, h3, h4, _⟩ := HI.out
      have hbW : Below W.heap.size W w1 := ⟨HB.out.os, HB.out.tape, HB.out.output, HB.out.size, HB.out.block⟩
      have hh : Held F W w2 := Held.trans (Held.of_below (F := F) hbW) (Held.of_grown (F := F) HGR.out (fun k e => by injection e with e; subst e; exact (hF _).2 (by simp))) (fun k hk => .inl hk)
      have at2 : ∀ (q : Nat) (u : Value) (ty : TypeId), W.heap[q]? = some (.cells #[u] ty (0, 0)) → w2.heap[q]? = some (.cells #[u] ty (0, 0)) := fun q u ty hq => by
        have h5 := (hbW.block q (blkx_lt hq)).trans hq
        refine (HGR.out.block q (blkx_lt h5) (fun e => ?_)).trans h5
        injection e with e
        subst e
        obtain ⟨es, clock, h6, _⟩ := HW2.out
        have h7 := hh.size
        obtain ⟨n, _, hown⟩ := H5.out
        obtain ⟨es', clock', h8, _⟩ := hown
        rw [hq] at h8
        cases h8
      exact ⟨rfl, F, ⟨Held.below hb hh hb.size hB, hF, hB, at2 _ _ _ h1, at2 _ _ _ h2, at2 _ _ _ h3, at2 _ _ _ h4, n + 1, by rw [List.length_append, List.length_singleton]; have := HNL.out; omega, by rw [seenD_snoc]; exact HW2.out⟩, hh, fun k hk => .inl hk⟩
    · simp [c3] at hs
  · rw [if_neg c2] at hs; cases hs
def impl_CountGates.f (k : Nat) (a0 : ByteArray) (l1 : List Int) (a2 : Int) : Option (Int × Bool) := (impl_isTwo.f k a0 l1 a2).bind fun b => if b = true then (wordsF (cgStep k a0 l1 a2) 5 [] [ByteArray.empty]).bind fun s => some (((Maps.size (seenD s) : Nat) : Int), true) else some (0, false)
theorem impl_CountGates.mono : ∀ a0 a1 a2 k, LeO (impl_CountGates.f k a0 a1 a2) (impl_CountGates.f (k + 1) a0 a1 a2) := fun a0 a1 a2 k => by
  unfold impl_CountGates.f
  exact LeO.bind (impl_isTwo.mono _ _ _ _) (fun _ => LeO.ite (LeO.bind (wordsF_mono (fun s x => cgStep_mono k a0 a1 a2 s x) _ _ _) (fun _ => LeO.refl _)) (LeO.refl _))
set_option maxRecDepth 100000 in
set_option maxHeartbeats 8000000 in
theorem impl_CountGates.calls (k : Nat) (a0 : ByteArray) (A1 : Option Addr) (c1 : Nat) (l1 : List Int) (a2 : Int) (r1 : Int) (r2 : Bool) (w : World) (hr1 : Kd.C (Kd.int .i64) w A1 l1.length l1) (hc1 : l1.length ≤ c1) (h : impl_CountGates.f k a0 l1 a2 = some (r1, r2)) :
    Calls Tryz.prog 38 #[.string a0, .slice A1 l1.length c1, .int .i64 a2] w fun e w' => e = .returned (.tuple #[.int .i64 r1, .bool r2]) ∧ Below w.heap.size w w' := by
  unfold impl_CountGates.f at h
  obtain ⟨b, hI, h⟩ := Option.bind_eq_some_iff.mp h
  have HI := am hI
  have HR := am hr1
  have HC := am hc1
  have HB := am (Below.refl w.heap.size w)
  clear hI hr1 hc1
  cases b with
  | false =>
    obtain ⟨rfl, rfl⟩ : 0 = r1 ∧ false = r2 := by simpa using h
    clear h
    go_enter Tryz.func38, Tryz.ntmps38
    go_wp2_with (first
      | ((with_reducible refine gate_dst (N := 3) rfl ?_); refine box_event ?hg (N := 3) ?hd (cs := #[.string a0]) (t := 9) ?hr ?_; (case hd => rfl); (case hg => rfl); (case hr => first | (go_simp; done) | (go_simp; rfl)); intro b1 hg1 w1 hbox1 hb1; have X1 := am hbox1; have HB1 := am hb1; clear hbox1 hb1 hg1)
      | ((with_reducible refine gate_dst (N := 4) rfl ?_); refine box_event ?hg (N := 4) ?hd (cs := #[.slice A1 l1.length c1]) (t := 28) ?hr ?_; (case hd => rfl); (case hg => rfl); (case hr => first | (go_simp; done) | (go_simp; rfl)); intro b2 hg2 w2 hbox2 hb2; have X2 := am hbox2; have X12 := am ((hb2.block b1 (blkx_lt X1.out)).trans X1.out); have HB2 := am (below_step HB1.out hb2); clear hbox2 hb2 hg2)
      | ((with_reducible refine gate_dst (N := 5) rfl ?_); refine box_event ?hg (N := 5) ?hd (cs := #[.int .i64 a2]) (t := 3) ?hr ?_; (case hd => rfl); (case hg => rfl); (case hr => first | (go_simp; done) | (go_simp; rfl)); intro b3 hg3 w3 hbox3 hb3; have z1 : w3.cell? ⟨b1, 0, none⟩ = some (.string a0) := (blk_cell ((hb3.block b1 (blkx_lt X12.out)).trans X12.out) 0).trans rfl; have z2 : w3.cell? ⟨b2, 0, none⟩ = some (.slice A1 l1.length c1) := (blk_cell ((hb3.block b2 (blkx_lt X2.out)).trans X2.out) 0).trans rfl; have z3 : w3.cell? ⟨b3, 0, none⟩ = some (.int .i64 a2) := (blk_cell hbox3 0).trans rfl; have HB3 := am (below_step HB2.out hb3); clear hbox3 hb3 hg3)
      | (go_at_call 73; refine (impl_isTwo.calls k a0 A1 c1 l1 a2 false _ (Kd.C_below HR.out HB3.out) HC.out HI.out).mono ?_; rintro e w4 ⟨rfl, hb⟩; have HB4 := am (below_step HB3.out hb); clear hb))
    go_ret2
    exact ⟨rfl, HB4.out⟩
  | true =>
    obtain ⟨o, ho, h⟩ := Option.bind_eq_some_iff.mp (show (wordsF (cgStep k a0 l1 a2) 5 [] [ByteArray.empty]).bind (fun s => some (((Maps.size (seenD s) : Nat) : Int), true)) = some (r1, r2) from h)
    obtain ⟨rfl, rfl⟩ : ((Maps.size (seenD o) : Nat) : Int) = r1 ∧ true = r2 := by simpa using h
    have HO := am ho
    have hmm := @run_makeMap Tryz.prog
    clear h ho
    go_enter Tryz.func38, Tryz.ntmps38
    go_wp2_with (first
      | ((with_reducible refine gate_dst (N := 3) rfl ?_); refine box_event ?hg (N := 3) ?hd (cs := #[.string a0]) (t := 9) ?hr ?_; (case hd => rfl); (case hg => rfl); (case hr => first | (go_simp; done) | (go_simp; rfl)); intro b1 hg1 w1 hbox1 hb1; have X1 := am hbox1; have HB1 := am hb1; have G1 := am (show w.heap.size ≤ b1 by rw [hg1]; exact Nat.le_refl _); clear hbox1 hb1 hg1)
      | ((with_reducible refine gate_dst (N := 4) rfl ?_); refine box_event ?hg (N := 4) ?hd (cs := #[.slice A1 l1.length c1]) (t := 28) ?hr ?_; (case hd => rfl); (case hg => rfl); (case hr => first | (go_simp; done) | (go_simp; rfl)); intro b2 hg2 w2 hbox2 hb2; have X2 := am hbox2; have X12 := am ((hb2.block b1 (blkx_lt X1.out)).trans X1.out); have G2 := am (show w.heap.size ≤ b2 by rw [hg2]; exact HB1.out.size); have HB2 := am (below_step HB1.out hb2); clear hbox2 hb2 hg2)
      | ((with_reducible refine gate_dst (N := 5) rfl ?_); refine box_event ?hg (N := 5) ?hd (cs := #[.int .i64 a2]) (t := 3) ?hr ?_; (case hd => rfl); (case hg => rfl); (case hr => first | (go_simp; done) | (go_simp; rfl)); intro b3 hg3 w3 hbox3 hb3; have Y1 := am ((hb3.block b1 (blkx_lt X12.out)).trans X12.out); have Y2 := am ((hb3.block b2 (blkx_lt X2.out)).trans X2.out); have Y3 := am hbox3; have z1 : w3.cell? ⟨b1, 0, none⟩ = some (.string a0) := (blk_cell Y1.out 0).trans rfl; have z2 : w3.cell? ⟨b2, 0, none⟩ = some (.slice A1 l1.length c1) := (blk_cell Y2.out 0).trans rfl; have z3 : w3.cell? ⟨b3, 0, none⟩ = some (.int .i64 a2) := (blk_cell Y3.out 0).trans rfl; have G3 := am (show w.heap.size ≤ b3 by rw [hg3]; exact HB2.out.size); have HB3 := am (below_step HB2.out hb3); clear hbox3 hb3 hg3)
      | (go_at_call 73; refine (impl_isTwo.calls k a0 A1 c1 l1 a2 true _ (Kd.C_below HR.out HB3.out) HC.out HI.out).mono ?_; rintro e w4 ⟨rfl, hb⟩; have HB4 := am (below_step HB3.out hb); have Z1 := am ((hb.block b1 (blkx_lt Y1.out)).trans Y1.out); have Z2 := am ((hb.block b2 (blkx_lt Y2.out)).trans Y2.out); have Z3 := am ((hb.block b3 (blkx_lt Y3.out)).trans Y3.out); clear hb)
      | (go_at_call 57; obtain ⟨Wc, hWc⟩ : ∃ W, (w4.alloc (Obj.map #[] 0)).alloc (Obj.cells #[Value.map (some w4.heap.size)] 84) = W := ⟨_, rfl⟩; have hbl : Below w4.heap.size w4 Wc := (by rw [← hWc]; exact ((Below.refl _ w4).alloc (Nat.le_refl _) _).alloc (by simp) _); have hmp : Wc.ownsMap Tryz.prog 3 (plainElem (H := Unit) Tryz.prog 4) w4.heap.size 0 (seenD []) := (by rw [← hWc]; exact (World.ownsMap_made w4 _ _ _).alloc _); have hbx : Wc.heap[w4.heap.size + 1]? = some (.cells #[.map (some w4.heap.size)] 84 (0, 0)) := (by rw [← hWc]; have h := heap_alloc_new (w4.alloc (Obj.map #[] 0)) (Obj.cells #[Value.map (some w4.heap.size)] 84); rwa [show (w4.alloc (Obj.map #[] 0)).heap.size = w4.heap.size + 1 from by simp] at h); have hsz : w.heap.size ≤ w4.heap.size := HB4.out.size; have hBc := below_step HB4.out hbl; rw [hWc]; refine (words_calls (cgStep k a0 l1 a2) (cgInv w a0 A1 c1 l1 a2 b1 b2 b3 (w4.heap.size + 1) w4.heap.size) 76 _ (enters_of Tryz.func76 (by kernel_rfl) rfl) (fun s F W h => cgInv_lt h) (fun s F W x s' b hi hs => cg_closure k w a0 A1 c1 l1 a2 HR.out HC.out _ _ _ _ _ s F W x s' b hi hs) 4 (by decide) [] o (fun k => k = b1 ∨ k = b2 ∨ k = b3 ∨ k = w4.heap.size + 1 ∨ k = w4.heap.size) _ (fun s F W W' h hh => cgInv_st h hh (fun k hk => ⟨hk.1, Nat.le_trans hBc.size hk.2⟩)) ⟨hBc, fun k => Iff.rfl, fun k hk => (by rcases hk with rfl | rfl | rfl | rfl | rfl <;> first | exact G1.out | exact G2.out | exact G3.out | omega), (hbl.block b1 (blkx_lt Z1.out)).trans Z1.out, (hbl.block b2 (blkx_lt Z2.out)).trans Z2.out, (hbl.block b3 (blkx_lt Z3.out)).trans Z3.out, hbx, 0, Nat.le_refl _, hmp⟩ HO.out).mono ?_; rintro e w6 ⟨rfl, F', hinv, _, _⟩; obtain ⟨hb6, _, _, _, _, _, hbs6, n6, _, hown6⟩ := hinv; have z6 : w6.cell? ⟨w4.heap.size + 1, 0, none⟩ = some (.map (some w4.heap.size)) := (blk_cell hbs6 0).trans rfl; have HB6 := am hb6; have HM6 := am hown6; clear hb6 hbs6 hown6 hbl hmp hbx hsz hBc hWc)
      | (at_len; refine wpList_len_own _ rfl _ 84 rfl 3 4 Tryz.underlying84 _ w4.heap.size n6 (seenD o) rfl HM6.out ?_))
    go_ret2
    exact ⟨rfl, HB6.out⟩
end Go.Proofs.YtdffgeoegdkiaaaGreatDoor.F

namespace Go.Proofs.YtdffgeoegdkiaaaGreatDoor.F
open Go.Proofs.YtdffgeoegdkiaaaGreatDoor
open Go.RowKit Go.Proofs.YtdffgeoegdkiaaaGreatDoorW.PrintWords Go.Proofs.YtdffgeoegdkiaaaGreatDoorW.PrintLast Go.Proofs.YtdffgeoegdkiaaaGreatDoorW.PrintMore
attribute [local go_sem] max2_int min2_int max_two min_two max_three min_three max_four min_four
def spec_mcTwo.f (k : Nat) (a0 : ByteArray) (l1 : List Int) (a2 : Int) (a3 : ByteArray) : Option (Int × Int × List Int × Bool) := (spec_mcGate.f k a0 l1 (([a2] : List Int)) a3).bind fun bt105 => (if bt105.2.2.2 = true then (some (bt105.1, bt105.2.1, bt105.2.2.1, ((l1.length : Int) == 2))) else (some (bt105.1, bt105.2.1, bt105.2.2.1, false)))
theorem spec_mcTwo.mono : ∀ a0 a1 a2 a3 k, LeO (spec_mcTwo.f k a0 a1 a2 a3) (spec_mcTwo.f (k + 1) a0 a1 a2 a3) := by
 intro a0 a1 a2 a3 k
 unfold spec_mcTwo.f
 have im0 := @spec_mcGate.mono; exact mo
set_option maxHeartbeats 8000000 in
set_option maxRecDepth 100000 in
theorem spec_mcTwo.calls (k : Nat) (a0 : ByteArray) (A1 : Option Addr) (c1 : Nat) (l1 : List Int) (a2 : Int) (a3 : ByteArray) (r1 : Int) (r2 : Int) (r3 : List Int) (r4 : Bool) (w : World) (hr1 : Kd.C (Kd.int .i64) w A1 l1.length l1) (hc1 : l1.length ≤ c1) (h : spec_mcTwo.f k a0 l1 a2 a3 = some (r1, r2, r3, r4)) :
  Calls Tryz.prog 71 #[.string a0, .slice A1 l1.length c1, .int .i64 a2, .string a3] w fun e w' => ∃ v2_ : Value, e = .returned (.tuple #[.agg #[.int .i64 r1, .int .i64 r2, v2_], .bool r4]) ∧ Kd.R (Kd.int .u8) 5 w' w.heap.size (fun _ => True) v2_ r3 ∧ Below w.heap.size w w' := by
 have hu62 := Tryz.underlying62
 have HR1 := am hr1
 have HC1 := am hc1
 clear hr1 hc1
 have HB := am (Below.refl w.heap.size w)
 have H : ((spec_mcGate.f k a0 l1 (([a2] : List Int)) a3).bind fun bt105 => (if bt105.2.2.2 = true then (some (bt105.1, bt105.2.1, bt105.2.2.1, ((l1.length : Int) == 2))) else (some (bt105.1, bt105.2.1, bt105.2.2.1, false)))) = some (r1, r2, r3, r4) := h
 clear h
 obtain ⟨y102, hy_⟩ : ∃ y_ : List Int, y_ = (([a2] : List Int)) := ⟨_, rfl⟩
 replace H : ((spec_mcGate.f k a0 l1 y102 a3).bind fun bt105 => (if bt105.2.2.2 = true then (some (bt105.1, bt105.2.1, bt105.2.2.1, ((l1.length : Int) == 2))) else (some (bt105.1, bt105.2.1, bt105.2.2.1, false)))) = some (r1, r2, r3, r4) := aq3
 have Ny102 := am hy_
 clear hy_
 replace H := Option.bind_eq_some_iff.mp H
 obtain ⟨⟨t105, t106, t107, t110⟩, A50, H⟩ := H
 replace H : (if t110 = true then (some (t105, t106, t107, ((l1.length : Int) == 2))) else (some (t105, t106, t107, false))) = some (r1, r2, r3, r4) := H
 have A5 := am A50
 clear A50
 by_cases c6 : t110 = true
 ·subst c6
  rw [if_pos rfl] at H
  simp only [Option.some.injEq, Prod.mk.injEq] at H
  obtain ⟨rfl, rfl, rfl, rfl⟩ := H
  go_enter Tryz.func71, Tryz.ntmps71
  go_wp2_with (first | ((with_reducible refine gate_dst (N := 8) rfl ?_); (try (refine gate_guard (by rfl) ?_; dsimp only)); refine box_event ?hg (N := 8) ?hd (cs := #[.int .i64 0, .int .i64 0, .slice none 0 0]) (t := 62) ?hr ?_; (case hd => rfl); (case hg => rfl); (case hr => exact aq15); intro gb101 hg w7 hbox hb; have n0_ := am (below_step aq1 hb); have n1_ := am (hbox); have n2_ := am ((by rw [hg]; exact (below_size aq1) : w.heap.size ≤ gb101)); have n3_ := am ((by rw [hg]; exact (below_size aq1) : w.heap.size ≤ gb101)); clear HB; have HB := n0_; have BK101 := n1_; have GW101 := n2_; have GE101 := n3_; clear n0_ n1_ n2_ n3_; clear hb hbox hg) | ((with_reducible refine gate_dst (N := 16) rfl ?_); (try (refine gate_guard (by rfl) ?_; dsimp only)); refine Kd.R_lit (Kd.int .i64) _ 3 ?hg (N := 16) ?hd (xs := ([a2] : List Int)) (inner := [.int .i64 a2]) (ok := fun _ => True) (okp := fun _ => True) ?hr ?hp (fun _ hk => hk) trivial (Below.refl _ _) (Nat.le_refl _) (by simp) ?_; (case hd => rfl); (case hg => rfl); (case hr => exact aq15); (case hp => exact aq67); intro v103 w8 ho9 hb hg_ hnew_; clear hg_ hnew_; (first | rw [← Ny102.out] at ho9 | (simp only [Int.reduceToNat] at ho9; rw [← Ny102.out] at ho9)); have n0_ := am (Kd.R_lower ho9 (below_size aq0)); have n1_ := am (blk_below (g := gb101) (o := .cells #[.int .i64 0, .int .i64 0, .slice none 0 0] 62 (0, 0)) aq2 hb); have n2_ := am (below_step aq0 hb); clear BK101; clear HB; have HO104 := n0_; have BK101 := n1_; have HB := n2_; clear n0_ n1_ n2_; clear hb ho9; obtain ⟨Ao10, co10, eo10⟩ := Kd.R_slice HO104.out; subst eo10) | ((with_reducible refine gate_callee (f := 62) rfl ?_); refine goesL_ (some 18) rfl rfl Tryz.func62 (by kernel_rfl) rfl #[.string a0, .slice A1 l1.length c1, .slice Ao10 y102.length co10, .string a3] rfl aq5 ?_; (with_reducible refine (spec_mcGate.calls k a0 _ _ l1 _ _ y102 a3 t105 t106 t107 true _ ?side1 ?side2 ?side3 ?side4 A5.out).mono ?_); (case side1 => exact aq16); (case side2 => exact HC1.out); (case side3 => exact aq51); (case side4 => exact (Kd.R_reads' HO104.out).2.1); rintro e w11 ⟨v108, rfl, ho0, hb⟩; refine ⟨_, rfl, ?_⟩; have n0_ := am (Kd.R_below aq30 hb); have n1_ := am (Kd.R_lower ho0 (below_size aq0)); have n2_ := am (blk_below (g := gb101) (o := .cells #[.int .i64 0, .int .i64 0, .slice none 0 0] 62 (0, 0)) aq2 hb); have n3_ := am (below_step aq0 hb); clear HO104; clear BK101; clear HB; have HO104 := n0_; have HO109 := n1_; have BK101 := n2_; have HB := n3_; clear n0_ n1_ n2_ n3_; (try clear hb); (try clear hb2); (try clear hk); (try clear hi); (try clear ho0)) | ((with_reducible refine gate_dst (N := 10) rfl ?_); (try (refine gate_guard (by rfl) ?_; dsimp only)); refine box_event ?hg (N := 10) ?hd (cs := #[.int .i64 0, .int .i64 0, .slice none 0 0]) (t := 62) ?hr ?_; (case hd => rfl); (case hg => rfl); (case hr => exact aq15); intro gb111 hg w12 hbox hb; have n0_ := am (Kd.R_below aq30 hb); have n1_ := am (Kd.R_below (by (with_reducible repeat (first | apply Kd.R_alloc | apply Kd.R_drewN | apply Kd.R_drew)); exact HO109.out) hb); have n2_ := am (blk_below (g := gb101) (o := .cells #[.int .i64 0, .int .i64 0, .slice none 0 0] 62 (0, 0)) aq2 hb); have n3_ := am (below_step aq0 hb); have n4_ := am (hbox); have n5_ := am ((by rw [hg]; exact (below_size aq0) : w.heap.size ≤ gb111)); have n6_ := am ((by rw [hg]; exact (below_size aq0) : w.heap.size ≤ gb111)); have n7_ := am ((by rw [hg]; exact Nat.ne_of_lt (blk_lt (g := gb101) (o := .cells #[.int .i64 0, .int .i64 0, .slice none 0 0] 62 (0, 0)) aq2) : gb101 ≠ gb111)); have n8_ := am ((by rw [hg]; exact Nat.ne_of_gt (blk_lt (g := gb101) (o := .cells #[.int .i64 0, .int .i64 0, .slice none 0 0] 62 (0, 0)) aq2) : gb111 ≠ gb101)); clear HO104; clear HO109; clear BK101; clear HB; have HO104 := n0_; have HO109 := n1_; have BK101 := n2_; have HB := n3_; have BK111 := n4_; have GW111 := n5_; have GE111 := n6_; have NB101_111 := n7_; have NB111_101 := n8_; clear n0_ n1_ n2_ n3_ n4_ n5_ n6_ n7_ n8_; clear hb hbox hg; have hnb13 := NB111_101.out; have hnc13 := NB101_111.out; obtain ⟨hcz14_0, hcz14_1, hcz14_2, hfz14_0, hfz14_1, hfz14_2⟩ := blk3_ BK111.out; obtain ⟨Ao15, co15, eo15⟩ := Kd.R_slice HO109.out; subst eo15; obtain ⟨hcz16_0, hcz16_1, hcz16_2, hfz16_0, hfz16_1, hfz16_2⟩ := blk3_ BK101.out))
  refine bodyPost_ret (results_ct rfl _ _ gb101 62 #[.int .i64 t105, .int .i64 t106, .slice Ao15 t107.length co15] (0, 0) _ rfl aq35 Tryz.underlying62 rfl (by kernel_rfl)) rfl ?_
  exact ⟨_, aq8, by (with_reducible repeat (first | apply Kd.R_alloc | apply Kd.R_drewN | apply Kd.R_drew)); exact Kd.R_mono (Kd.R_far (p := ⟨gb101, 2, none⟩) (Kd.R_far (p := ⟨gb101, 1, none⟩) (Kd.R_far (p := ⟨gb101, 0, none⟩) (Kd.R_far (p := ⟨gb111, 2, none⟩) (Kd.R_far (p := ⟨gb111, 1, none⟩) (Kd.R_far (p := ⟨gb111, 0, none⟩) (Kd.R_types (Kd.R_types HO109.out BK111.out (by decide)) BK101.out (by decide)) (fun _ hk => hk.1.2) (.int .i64 t105)) (fun _ hk => hk.1.2) (.int .i64 t106)) (fun _ hk => hk.1.2) (.slice Ao15 t107.length co15)) (fun _ hk => hk.2) (.int .i64 t105)) (fun _ hk => hk.2) (.int .i64 t106)) (fun _ hk => hk.2) (.slice Ao15 t107.length co15)) (fun _ hk => trivial), aq82⟩
 ·replace c6 := Bool.eq_false_iff.mpr c6
  subst c6
  rw [if_neg Bool.false_ne_true] at H
  simp only [Option.some.injEq, Prod.mk.injEq] at H
  obtain ⟨rfl, rfl, rfl, rfl⟩ := H
  go_enter Tryz.func71, Tryz.ntmps71
  go_wp2_with (first | ((with_reducible refine gate_dst (N := 8) rfl ?_); (try (refine gate_guard (by rfl) ?_; dsimp only)); refine box_event ?hg (N := 8) ?hd (cs := #[.int .i64 0, .int .i64 0, .slice none 0 0]) (t := 62) ?hr ?_; (case hd => rfl); (case hg => rfl); (case hr => exact aq15); intro gb101 hg w17 hbox hb; have n0_ := am (below_step aq1 hb); have n1_ := am (hbox); have n2_ := am ((by rw [hg]; exact (below_size aq1) : w.heap.size ≤ gb101)); have n3_ := am ((by rw [hg]; exact (below_size aq1) : w.heap.size ≤ gb101)); clear HB; have HB := n0_; have BK101 := n1_; have GW101 := n2_; have GE101 := n3_; clear n0_ n1_ n2_ n3_; clear hb hbox hg) | ((with_reducible refine gate_dst (N := 16) rfl ?_); (try (refine gate_guard (by rfl) ?_; dsimp only)); refine Kd.R_lit (Kd.int .i64) _ 3 ?hg (N := 16) ?hd (xs := ([a2] : List Int)) (inner := [.int .i64 a2]) (ok := fun _ => True) (okp := fun _ => True) ?hr ?hp (fun _ hk => hk) trivial (Below.refl _ _) (Nat.le_refl _) (by simp) ?_; (case hd => rfl); (case hg => rfl); (case hr => exact aq15); (case hp => exact aq67); intro v103 w18 ho19 hb hg_ hnew_; clear hg_ hnew_; (first | rw [← Ny102.out] at ho19 | (simp only [Int.reduceToNat] at ho19; rw [← Ny102.out] at ho19)); have n0_ := am (Kd.R_lower ho19 (below_size aq0)); have n1_ := am (blk_below (g := gb101) (o := .cells #[.int .i64 0, .int .i64 0, .slice none 0 0] 62 (0, 0)) aq2 hb); have n2_ := am (below_step aq0 hb); clear BK101; clear HB; have HO104 := n0_; have BK101 := n1_; have HB := n2_; clear n0_ n1_ n2_; clear hb ho19; obtain ⟨Ao20, co20, eo20⟩ := Kd.R_slice HO104.out; subst eo20) | ((with_reducible refine gate_callee (f := 62) rfl ?_); refine goesL_ (some 18) rfl rfl Tryz.func62 (by kernel_rfl) rfl #[.string a0, .slice A1 l1.length c1, .slice Ao20 y102.length co20, .string a3] rfl aq5 ?_; (with_reducible refine (spec_mcGate.calls k a0 _ _ l1 _ _ y102 a3 t105 t106 t107 false _ ?side1 ?side2 ?side3 ?side4 A5.out).mono ?_); (case side1 => exact aq16); (case side2 => exact HC1.out); (case side3 => exact aq51); (case side4 => exact (Kd.R_reads' HO104.out).2.1); rintro e w21 ⟨v108, rfl, ho0, hb⟩; refine ⟨_, rfl, ?_⟩; have n0_ := am (Kd.R_below aq30 hb); have n1_ := am (Kd.R_lower ho0 (below_size aq0)); have n2_ := am (blk_below (g := gb101) (o := .cells #[.int .i64 0, .int .i64 0, .slice none 0 0] 62 (0, 0)) aq2 hb); have n3_ := am (below_step aq0 hb); clear HO104; clear BK101; clear HB; have HO104 := n0_; have HO109 := n1_; have BK101 := n2_; have HB := n3_; clear n0_ n1_ n2_ n3_; (try clear hb); (try clear hb2); (try clear hk); (try clear hi); (try clear ho0)) | ((with_reducible refine gate_dst (N := 10) rfl ?_); (try (refine gate_guard (by rfl) ?_; dsimp only)); refine box_event ?hg (N := 10) ?hd (cs := #[.int .i64 0, .int .i64 0, .slice none 0 0]) (t := 62) ?hr ?_; (case hd => rfl); (case hg => rfl); (case hr => exact aq15); intro gb111 hg w22 hbox hb; have n0_ := am (Kd.R_below aq30 hb); have n1_ := am (Kd.R_below (by (with_reducible repeat (first | apply Kd.R_alloc | apply Kd.R_drewN | apply Kd.R_drew)); exact HO109.out) hb); have n2_ := am (blk_below (g := gb101) (o := .cells #[.int .i64 0, .int .i64 0, .slice none 0 0] 62 (0, 0)) aq2 hb); have n3_ := am (below_step aq0 hb); have n4_ := am (hbox); have n5_ := am ((by rw [hg]; exact (below_size aq0) : w.heap.size ≤ gb111)); have n6_ := am ((by rw [hg]; exact (below_size aq0) : w.heap.size ≤ gb111)); have n7_ := am ((by rw [hg]; exact Nat.ne_of_lt (blk_lt (g := gb101) (o := .cells #[.int .i64 0, .int .i64 0, .slice none 0 0] 62 (0, 0)) aq2) : gb101 ≠ gb111)); have n8_ := am ((by rw [hg]; exact Nat.ne_of_gt (blk_lt (g := gb101) (o := .cells #[.int .i64 0, .int .i64 0, .slice none 0 0] 62 (0, 0)) aq2) : gb111 ≠ gb101)); clear HO104; clear HO109; clear BK101; clear HB; have HO104 := n0_; have HO109 := n1_; have BK101 := n2_; have HB := n3_; have BK111 := n4_; have GW111 := n5_; have GE111 := n6_; have NB101_111 := n7_; have NB111_101 := n8_; clear n0_ n1_ n2_ n3_ n4_ n5_ n6_ n7_ n8_; clear hb hbox hg; have hnb23 := NB111_101.out; have hnc23 := NB101_111.out; obtain ⟨hcz24_0, hcz24_1, hcz24_2, hfz24_0, hfz24_1, hfz24_2⟩ := blk3_ BK111.out; obtain ⟨Ao25, co25, eo25⟩ := Kd.R_slice HO109.out; subst eo25; obtain ⟨hcz26_0, hcz26_1, hcz26_2, hfz26_0, hfz26_1, hfz26_2⟩ := blk3_ BK101.out))
  refine bodyPost_ret (results_ct rfl _ _ gb101 62 #[.int .i64 t105, .int .i64 t106, .slice Ao25 t107.length co25] (0, 0) _ rfl aq35 Tryz.underlying62 rfl (by kernel_rfl)) rfl ?_
  exact ⟨_, aq8, by (with_reducible repeat (first | apply Kd.R_alloc | apply Kd.R_drewN | apply Kd.R_drew)); exact Kd.R_mono (Kd.R_far (p := ⟨gb101, 2, none⟩) (Kd.R_far (p := ⟨gb101, 1, none⟩) (Kd.R_far (p := ⟨gb101, 0, none⟩) (Kd.R_far (p := ⟨gb111, 2, none⟩) (Kd.R_far (p := ⟨gb111, 1, none⟩) (Kd.R_far (p := ⟨gb111, 0, none⟩) (Kd.R_types (Kd.R_types HO109.out BK111.out (by decide)) BK101.out (by decide)) (fun _ hk => hk.1.2) (.int .i64 t105)) (fun _ hk => hk.1.2) (.int .i64 t106)) (fun _ hk => hk.1.2) (.slice Ao25 t107.length co25)) (fun _ hk => hk.2) (.int .i64 t105)) (fun _ hk => hk.2) (.int .i64 t106)) (fun _ hk => hk.2) (.slice Ao25 t107.length co25)) (fun _ hk => trivial), aq82⟩
mutual
def spec_CountGates.l0 : Nat → List Int → Int → Int → Int → Int → Int → List Int → Option (Int × Bool)
 | 0, _, _, _, _, _, _, _ => none
 | k + 1, x1, x2, x10, x11, x108000, x108001, x108002 => if x11 ≤ 4 then ((spec_mcWords.f k x11).bind fun t108 => (spec_CountGates.l1 k x1 x2 x10 x11 t108 (t108.length : Int) 0 x108000 x108001 x108002)) else (spec_CountGates.l2 k x10 0)
def spec_CountGates.l1 : Nat → List Int → Int → Int → Int → List ByteArray → Int → Int → Int → Int → List Int → Option (Int × Bool)
 | 0, _, _, _, _, _, _, _, _, _, _ => none
 | k + 1, x1, x2, x10, x11, x29, x30, x31, x108000, x108001, x108002 => if x31 < x30 then (if 0 ≤ x31 then (if x31 < (x29.length : Int) then ((spec_mcNumber.f k x108000 x108001 x108002 x1 x2 (rdOf ByteArray.empty x29 x31)).bind fun t112 => (if 0 ≤ t112 then (spec_CountGates.l1 k x1 x2 (Go.bits .or .i64 x10 (shl .i64 1 t112)) x11 x29 x30 (wrap64 (x31 + 1)) x108000 x108001 x108002) else (none))) else (none)) else (none)) else (spec_CountGates.l0 k x1 x2 x10 (wrap64 (x11 + 1)) x108000 x108001 x108002)
def spec_CountGates.l2 : Nat → Int → Int → Option (Int × Bool)
 | 0, _, _ => none
 | k + 1, x10, x14 => if x10 > 0 then (spec_CountGates.l2 k (wrap64 (Int.tdiv x10 2)) (wrap64 (x14 + (Int.tmod x10 2)))) else (some (x14, true))
end
def spec_CountGates.f (k : Nat) (a0 : ByteArray) (l1 : List Int) (a2 : Int) : Option (Int × Bool) := (spec_mcTwo.f k a0 l1 a2 (⟨#[]⟩ : ByteArray)).bind fun bt101 => (if bt101.2.2.2 = true then (spec_CountGates.l0 k l1 a2 0 0 bt101.1 bt101.2.1 bt101.2.2.1) else (some (0, false)))
theorem spec_CountGates.mono_l : ∀ k, (∀ y0 y1 y2 y3 y4 y5 y6, LeO (spec_CountGates.l0 k y0 y1 y2 y3 y4 y5 y6) (spec_CountGates.l0 (k + 1) y0 y1 y2 y3 y4 y5 y6)) ∧ (∀ y0 y1 y2 y3 y4 y5 y6 y7 y8 y9, LeO (spec_CountGates.l1 k y0 y1 y2 y3 y4 y5 y6 y7 y8 y9) (spec_CountGates.l1 (k + 1) y0 y1 y2 y3 y4 y5 y6 y7 y8 y9)) ∧ (∀ y0 y1, LeO (spec_CountGates.l2 k y0 y1) (spec_CountGates.l2 (k + 1) y0 y1))
 | 0 => ⟨fun _ _ _ _ _ _ _ r h => by simp [spec_CountGates.l0] at h, fun _ _ _ _ _ _ _ _ _ _ r h => by simp [spec_CountGates.l1] at h, fun _ _ r h => by simp [spec_CountGates.l2] at h⟩
 | k + 1 => by
  obtain ⟨ih0, ih1, ih2⟩ := spec_CountGates.mono_l k
  refine ⟨?_, ?_, ?_⟩
  ·intro y0 y1 y2 y3 y4 y5 y6
   unfold spec_CountGates.l0
   have im0 := @spec_mcNumber.mono; have im1 := @spec_mcTwo.mono; have im2 := @spec_mcWords.mono; exact mo
  ·intro y0 y1 y2 y3 y4 y5 y6 y7 y8 y9
   unfold spec_CountGates.l1
   have im0 := @spec_mcNumber.mono; have im1 := @spec_mcTwo.mono; have im2 := @spec_mcWords.mono; exact mo
  ·intro y0 y1
   unfold spec_CountGates.l2
   have im0 := @spec_mcNumber.mono; have im1 := @spec_mcTwo.mono; have im2 := @spec_mcWords.mono; exact mo
theorem spec_CountGates.mono : ∀ a0 a1 a2 k, LeO (spec_CountGates.f k a0 a1 a2) (spec_CountGates.f (k + 1) a0 a1 a2) := by
 intro a0 a1 a2 k
 obtain ⟨ih0, ih1, ih2⟩ := spec_CountGates.mono_l k
 unfold spec_CountGates.f
 have im0 := @spec_mcNumber.mono; have im1 := @spec_mcTwo.mono; have im2 := @spec_mcWords.mono; exact mo
set_option maxHeartbeats 8000000 in
set_option maxRecDepth 100000 in
theorem spec_CountGates.calls (k : Nat) (a0 : ByteArray) (A1 : Option Addr) (c1 : Nat) (l1 : List Int) (a2 : Int) (r1 : Int) (r2 : Bool) (w : World) (hr1 : Kd.C (Kd.int .i64) w A1 l1.length l1) (hc1 : l1.length ≤ c1) (h : spec_CountGates.f k a0 l1 a2 = some (r1, r2)) :
  Calls Tryz.prog 37 #[.string a0, .slice A1 l1.length c1, .int .i64 a2] w fun e w' => e = .returned (.tuple #[.int .i64 r1, .bool r2]) ∧ Below w.heap.size w w' := by
 have hu62 := Tryz.underlying62
 have HR1 := am hr1
 have HC1 := am hc1
 clear hr1 hc1
 have HB := am (Below.refl w.heap.size w)
 have H : ((spec_mcTwo.f k a0 l1 a2 (⟨#[]⟩ : ByteArray)).bind fun bt101 => (if bt101.2.2.2 = true then (spec_CountGates.l0 k l1 a2 0 0 bt101.1 bt101.2.1 bt101.2.2.1) else (some (0, false)))) = some (r1, r2) := h
 clear h
 replace H := Option.bind_eq_some_iff.mp H
 obtain ⟨⟨t101, t102, t103, t106⟩, A40, H⟩ := H
 replace H : (if t106 = true then (spec_CountGates.l0 k l1 a2 0 0 t101 t102 t103) else (some (0, false))) = some (r1, r2) := H
 have A4 := am A40
 clear A40
 by_cases c5 : t106 = true
 ·subst c5
  rw [if_pos rfl] at H
  have H' := am H
  clear H
  go_enter Tryz.func37, Tryz.ntmps37
  go_wp2_with (first | ((with_reducible refine gate_callee (f := 71) rfl ?_); refine goesL_ (some 19) rfl rfl Tryz.func71 (by kernel_rfl) rfl #[.string a0, .slice A1 l1.length c1, .int .i64 a2, .string (⟨#[]⟩ : ByteArray)] rfl aq5 ?_; (with_reducible refine (spec_mcTwo.calls k a0 _ _ l1 a2 (⟨#[]⟩ : ByteArray) t101 t102 t103 true _ ?side1 ?side2 A4.out).mono ?_); (case side1 => exact aq72); (case side2 => exact HC1.out); rintro e w6 ⟨v104, rfl, ho0, hb⟩; refine ⟨_, rfl, ?_⟩; have n0_ := am (Kd.R_lower ho0 (below_size aq1)); have n1_ := am (below_step aq1 hb); clear HB; have HO105 := n0_; have HB := n1_; clear n0_ n1_; (try clear hb); (try clear hb2); (try clear hk); (try clear hi); (try clear ho0)) | ((with_reducible refine gate_dst (N := 8) rfl ?_); refine box_event ?hg (N := 8) ?hd (cs := #[.int .i64 0, .int .i64 0, .slice none 0 0]) (t := 62) ?hr ?_; (case hd => rfl); (case hg => rfl); (case hr => exact aq15); intro gb107 hg w7 hbox hb; have n0_ := am (Kd.R_below aq79 hb); have n1_ := am (below_step aq1 hb); have n2_ := am (hbox); have n3_ := am ((by rw [hg]; exact (below_size aq1) : w.heap.size ≤ gb107)); have n4_ := am ((by rw [hg]; exact (below_size aq1) : w.heap.size ≤ gb107)); clear HO105; clear HB; have HO105 := n0_; have HB := n1_; have BK107 := n2_; have GW107 := n3_; have GE107 := n4_; clear n0_ n1_ n2_ n3_ n4_; clear hb hbox hg; obtain ⟨hcz8_0, hcz8_1, hcz8_2, hfz8_0, hfz8_1, hfz8_2⟩ := blk3_ BK107.out; obtain ⟨Ao9, co9, eo9⟩ := Kd.R_slice HO105.out; subst eo9))
  go_loopg [10, 11] k (fun kq v10 v11 w' => ∃ (x10_1 : Int) (x11_1 : Int), v10 = .int .i64 x10_1 ∧ v11 = .int .i64 x11_1 ∧ Aside0 (spec_CountGates.l0 kq l1 a2 x10_1 x11_1 t101 t102 t103 = some (r1, r2)) ∧ Aside0 (kq ≤ k) ∧ Aside0 (Kd.R (Kd.int .u8) 5 w' w.heap.size (fun _ => True) (.slice Ao9 t103.length co9) t103) ∧ Aside0 (w'.heap[gb107]? = some (.cells #[.int .i64 t101, .int .i64 t102, (.slice Ao9 t103.length co9)] 62 (0, 0))) ∧ Aside0 (Below w.heap.size w w'))
  case atStart => exact ⟨(0), (0), aq7, aq7, H', ⟨Nat.le_refl _⟩, ⟨by (with_reducible repeat (first | apply Kd.R_alloc | apply Kd.R_drewN | apply Kd.R_drew)); exact Kd.R_mono (Kd.R_far (p := ⟨gb107, 2, none⟩) (Kd.R_far (p := ⟨gb107, 1, none⟩) (Kd.R_far (p := ⟨gb107, 0, none⟩) (Kd.R_types HO105.out BK107.out (by decide)) (fun _ hk => hk.2) (.int .i64 t101)) (fun _ hk => hk.2) (.int .i64 t102)) (fun _ hk => hk.2) (.slice Ao9 t103.length co9)) (fun _ hk => trivial)⟩, ⟨by (with_reducible repeat (first | refine blk_drewN ?_ _ | refine blk_drew ?_ | refine blk_alloc ?_ _)); refine blk_put (cs := #[.int .i64 t101, .int .i64 t102, .slice none 0 0]) ?_ 2 _ rfl; (with_reducible repeat (first | refine blk_drewN ?_ _ | refine blk_drew ?_ | refine blk_alloc ?_ _)); refine blk_put (cs := #[.int .i64 t101, .int .i64 0, .slice none 0 0]) ?_ 1 _ rfl; (with_reducible repeat (first | refine blk_drewN ?_ _ | refine blk_drew ?_ | refine blk_alloc ?_ _)); refine blk_put (cs := #[.int .i64 0, .int .i64 0, .slice none 0 0]) ?_ 0 _ rfl; (with_reducible repeat (first | refine blk_drewN ?_ _ | refine blk_drew ?_ | refine blk_alloc ?_ _)); exact BK107.out⟩, ⟨aq19⟩⟩
  case round =>
   clear H'
   try clear c1
   try clear p2
   try clear c3
   try clear c5
   try clear c7
   try clear hcz8_0
   try clear hcz8_1
   try clear hcz8_2
   try clear hfz8_0
   try clear hfz8_1
   try clear hfz8_2
   obtain ⟨x10_1, x11_1, rfl, rfl, HA, HK1, HO_108002, BK107, HB⟩ := hrel
   cases gk with
   | zero => exact absurd HA.out (by simp [spec_CountGates.l0])
   | succ k1 =>
    have H := HA.out
    clear HA
    simp only [spec_CountGates.l0] at H
    by_cases c10 : x11_1 ≤ 4
    ·rw [if_pos c10] at H
     have c10b0 := decide_eq_true c10
     clear c10
     obtain ⟨t108, A110, H⟩ := Option.bind_eq_some_iff.mp H
     have A11 := am A110
     clear A110
     have H' := am H
     clear H
     go_wp2_with (first | ((with_reducible refine gate_callee (f := 53) rfl ?_); refine goesL_ (some 29) rfl rfl Tryz.func53 (by kernel_rfl) rfl #[.int .i64 x11_1] rfl aq5 ?_; (with_reducible refine (spec_mcWords.calls k1 x11_1 t108 _ A11.out).mono ?_); rintro e w12 ⟨v109, rfl, ho0, hb⟩; refine ⟨_, rfl, ?_⟩; have n0_ := am (Kd.R_below aq28 hb); have n1_ := am (Kd.R_lower ho0 (below_size aq19)); have n2_ := am (blk_below (g := gb107) (o := .cells #[.int .i64 t101, .int .i64 t102, .slice Ao9 t103.length co9] 62 (0, 0)) aq20 hb); have n3_ := am (below_step aq19 hb); clear HO_108002; clear BK107; clear HB; have HO_108002 := n0_; have HO110 := n1_; have BK107 := n2_; have HB := n3_; clear n0_ n1_ n2_ n3_; (try clear hb); (try clear hb2); (try clear hk); (try clear hi); (try clear ho0); obtain ⟨Ao13, co13, eo13⟩ := Kd.R_slice HO110.out; subst eo13))
     go_loopg [10, 31] k1 (fun kq v10 v31 w' => ∃ (x10_2 : Int) (x31_2 : Int), v10 = .int .i64 x10_2 ∧ v31 = .int .i64 x31_2 ∧ Aside0 (spec_CountGates.l1 kq l1 a2 x10_2 x11_1 t108 (t108.length : Int) x31_2 t101 t102 t103 = some (r1, r2)) ∧ Aside0 (kq ≤ k1) ∧ Aside0 (Kd.R Kd.string 9 w' w.heap.size (fun _ => True) (.slice Ao13 t108.length co13) t108) ∧ Aside0 (Kd.R (Kd.int .u8) 5 w' w.heap.size (fun _ => True) (.slice Ao9 t103.length co9) t103) ∧ Aside0 (w'.heap[gb107]? = some (.cells #[.int .i64 t101, .int .i64 t102, (.slice Ao9 t103.length co9)] 62 (0, 0))) ∧ Aside0 (Below w.heap.size w w'))
     case atStart => exact ⟨(x10_1), (0), aq7, aq7, H', ⟨Nat.le_refl _⟩, ⟨aq80⟩, ⟨aq28⟩, ⟨aq20⟩, ⟨aq19⟩⟩
     case round =>
      clear H'
      try clear c1
      try clear p2
      try clear c3
      try clear c5
      try clear c7
      try clear c10
      try clear c10b0
      try clear hcz8_0
      try clear hcz8_1
      try clear hcz8_2
      try clear hfz8_0
      try clear hfz8_1
      try clear hfz8_2
      try clear p2
      obtain ⟨x10_2, x31_2, rfl, rfl, HA, HK2, HO_29, HO_108002, BK107, HB⟩ := hrel
      cases gk with
      | zero => exact absurd HA.out (by simp [spec_CountGates.l1])
      | succ k2 =>
       have H := HA.out
       clear HA
       simp only [spec_CountGates.l1] at H
       by_cases c14 : x31_2 < (t108.length : Int)
       ·rw [if_pos c14] at H
        have c14b0 := decide_eq_true c14
        clear c14
        by_cases c15 : 0 ≤ x31_2
        ·rw [if_pos c15] at H
         have c15b0 := decide_eq_true c15
         clear c15
         by_cases c16 : x31_2 < (t108.length : Int)
         ·rw [if_pos c16] at H
          have c16b0 := decide_eq_true c16
          clear c16
          obtain ⟨t112, A170, H⟩ := Option.bind_eq_some_iff.mp H
          have A17 := am A170
          clear A170
          by_cases c18 : 0 ≤ t112
          ·rw [if_pos c18] at H
           have c18b0 := eq_true c18
           have c18b1 := decide_eq_true c18
           clear c18
           obtain ⟨ji19, hji19⟩ : ∃ j_ : Int, (shl .i64 1 t112) = j_ := ⟨_, rfl⟩
           first | rw [hji19] at H | simp only [hji19] at H
           (try rw [hji19] at A17)
           have hji19_ : (IntKind.i64.wrap (1 * 2 ^ min t112.toNat 64)) = ji19 := hji19
           have hji19z : t112 ≤ 64 → (IntKind.i64.wrap (1 * 2 ^ t112.toNat)) = ji19 := shl_small hji19
           have hji19u : (IntKind.i64.wrap (2 ^ min t112.toNat 64)) = ji19 := by have h_ := hji19_; rw [Int.one_mul] at h_; exact h_
           have hji19v : t112 ≤ 64 → (IntKind.i64.wrap (2 ^ t112.toNat)) = ji19 := fun hle_ => by have h_ := hji19z hle_; rw [Int.one_mul] at h_; exact h_
           have hji19y : (wrap64 (1 * 2 ^ min t112.toNat 64)) = ji19 := (i64_w _).symm.trans hji19_
           have hji19x : t112 ≤ 64 → (wrap64 (1 * 2 ^ t112.toNat)) = ji19 := fun h_ => (i64_w _).symm.trans (hji19z h_)
           have H' := am H
           clear H
           have p111 : 0 ≤ (x31_2 : Int) := of_decide_eq_true aq4
           have q111 : x31_2 < (t108.length : Int) := of_decide_eq_true aq4
           obtain ⟨ad111, e111, hx111_0⟩ := Kd.at_string (Kd.R_reads' HO_29.out).2.2 x31_2 p111 q111
           cases e111
           replace p111 := eq_true p111
           replace q111 := eq_true q111
           obtain ⟨hcz20_0, hcz20_1, hcz20_2, hfz20_0, hfz20_1, hfz20_2⟩ := blk3_ BK107.out
           go_wp2_with (first | ((with_reducible refine gate_callee (f := 72) rfl ?_); refine goesL_ (some 40) rfl rfl Tryz.func72 (by kernel_rfl) rfl #[.agg #[.int .i64 t101, .int .i64 t102, .slice Ao9 t103.length co9], .slice A1 l1.length c1, .int .i64 a2, .string (rdOf ByteArray.empty t108 x31_2)] rfl aq5 ?_; (with_reducible refine (spec_mcNumber.calls k2 t101 t102 _ _ t103 _ _ l1 a2 (rdOf ByteArray.empty t108 x31_2) t112 _ ?side1 ?side2 ?side3 ?side4 A17.out).mono ?_); (case side1 => repeat (first | exact (Kd.R_reads' HO_108002.out).2.2 | (with_reducible refine Kd.C_alloc ?_ _) | (with_reducible refine Kd.C_drewN ?_ _) | (with_reducible refine Kd.C_drew ?_))); (case side2 => exact (Kd.R_reads' HO_108002.out).2.1); (case side3 => exact aq16); (case side4 => exact HC1.out); rintro e w21 ⟨rfl, hb⟩; refine ⟨_, rfl, ?_⟩; have n0_ := am (Kd.R_below (by (with_reducible repeat (first | apply Kd.R_alloc | apply Kd.R_drewN | apply Kd.R_drew)); exact HO_29.out) hb); have n1_ := am (Kd.R_below aq28 hb); have n2_ := am (blk_below (g := gb107) (o := .cells #[.int .i64 t101, .int .i64 t102, .slice Ao9 t103.length co9] 62 (0, 0)) aq20 hb); have n3_ := am (below_step aq19 hb); clear HO_29; clear HO_108002; clear BK107; clear HB; have HO_29 := n0_; have HO_108002 := n1_; have BK107 := n2_; have HB := n3_; clear n0_ n1_ n2_ n3_; (try clear hb); (try clear hb2); (try clear hk); (try clear hi)))
           go_roundg k2
           case measure => have := HK1.out; have := HK2.out; omega
           case rel => exact ⟨(Go.bits .or .i64 x10_2 (ji19)), (wrap64 (x31_2 + 1)), (by first | rfl | (simp; done) | (simp only [← hji19] <;> (first | rfl | simp)) | (simp [*]; done)), aq7, H', ⟨aq49⟩, ⟨by (with_reducible repeat (first | apply Kd.R_alloc | apply Kd.R_drewN | apply Kd.R_drew)); exact HO_29.out⟩, ⟨aq28⟩, ⟨aq20⟩, ⟨aq19⟩⟩
          ·rw [if_neg c18] at H
           exact absurd H (by simp)
         ·rw [if_neg c16] at H
          exact absurd H (by simp)
        ·rw [if_neg c15] at H
         exact absurd H (by simp)
       ·rw [if_neg c14] at H
        have c14b0 := decide_eq_false c14
        clear c14
        have H' := am H
        clear H
        go_wp2
        go_roundg k2
        case measure => have := HK1.out; have := HK2.out; omega
        case rel => exact ⟨(x10_2), (wrap64 (x11_1 + 1)), aq7, aq7, H', ⟨aq49⟩, ⟨aq28⟩, ⟨aq20⟩, ⟨aq19⟩⟩
    ·rw [if_neg c10] at H
     have c10b0 := decide_eq_false c10
     clear c10
     have H' := am H
     clear H
     go_wp2
     go_loopg [10, 14] k1 (fun kq v10 v14 w' => ∃ (x10_2 : Int) (x14_2 : Int), v10 = .int .i64 x10_2 ∧ v14 = .int .i64 x14_2 ∧ Aside0 (spec_CountGates.l2 kq x10_2 x14_2 = some (r1, r2)) ∧ Aside0 (kq ≤ k1) ∧ Aside0 (Kd.R (Kd.int .u8) 5 w' w.heap.size (fun _ => True) (.slice Ao9 t103.length co9) t103) ∧ Aside0 (w'.heap[gb107]? = some (.cells #[.int .i64 t101, .int .i64 t102, (.slice Ao9 t103.length co9)] 62 (0, 0))) ∧ Aside0 (Below w.heap.size w w'))
     case atStart => exact ⟨(x10_1), (0), aq7, aq7, H', ⟨Nat.le_refl _⟩, ⟨aq28⟩, ⟨aq20⟩, ⟨aq19⟩⟩
     case round =>
      clear H'
      try clear c1
      try clear p1
      try clear q1
      try clear hx1
      try clear p2
      try clear c3
      try clear c5
      try clear p6
      try clear c7
      try clear c10
      try clear c10b0
      try clear p11
      try clear q11
      try clear hx11
      try clear c14
      try clear c14b0
      try clear c15
      try clear c15b0
      try clear c16
      try clear c16b0
      try clear c18
      try clear c18b0
      try clear c18b1
      try clear hcz20_0
      try clear hcz20_1
      try clear hcz20_2
      try clear hcz8_0
      try clear hcz8_1
      try clear hcz8_2
      try clear hfz20_0
      try clear hfz20_1
      try clear hfz20_2
      try clear hfz8_0
      try clear hfz8_1
      try clear hfz8_2
      try clear hx111_0
      try clear p111
      try clear p2
      try clear q111
      obtain ⟨x10_2, x14_2, rfl, rfl, HA, HK2, HO_108002, BK107, HB⟩ := hrel
      cases gk with
      | zero => exact absurd HA.out (by simp [spec_CountGates.l2])
      | succ k2 =>
       have H := HA.out
       clear HA
       simp only [spec_CountGates.l2] at H
       by_cases c22 : x10_2 > 0
       ·rw [if_pos c22] at H
        have c22b0 := decide_eq_true c22
        clear c22
        have H' := am H
        clear H
        go_wp2
        go_roundg k2
        case measure => have := HK1.out; have := HK2.out; omega
        case rel => exact ⟨(wrap64 (Int.tdiv x10_2 2)), (wrap64 (x14_2 + (Int.tmod x10_2 2))), aq7, aq7, H', ⟨aq49⟩, ⟨aq28⟩, ⟨aq20⟩, ⟨aq19⟩⟩
       ·rw [if_neg c22] at H
        have c22b0 := decide_eq_false c22
        clear c22
        simp only [Option.some.injEq, Prod.mk.injEq] at H
        obtain ⟨rfl, rfl⟩ := H
        go_wp2
        go_ret2
        exact ⟨aq8, aq19⟩
 ·replace c5 := Bool.eq_false_iff.mpr c5
  subst c5
  rw [if_neg Bool.false_ne_true] at H
  simp only [Option.some.injEq, Prod.mk.injEq] at H
  obtain ⟨rfl, rfl⟩ := H
  go_enter Tryz.func37, Tryz.ntmps37
  go_wp2_with (first | ((with_reducible refine gate_callee (f := 71) rfl ?_); refine goesL_ (some 19) rfl rfl Tryz.func71 (by kernel_rfl) rfl #[.string a0, .slice A1 l1.length c1, .int .i64 a2, .string (⟨#[]⟩ : ByteArray)] rfl aq5 ?_; (with_reducible refine (spec_mcTwo.calls k a0 _ _ l1 a2 (⟨#[]⟩ : ByteArray) t101 t102 t103 false _ ?side1 ?side2 A4.out).mono ?_); (case side1 => exact aq72); (case side2 => exact HC1.out); rintro e w23 ⟨v104, rfl, ho0, hb⟩; refine ⟨_, rfl, ?_⟩; have n0_ := am (Kd.R_lower ho0 (below_size aq1)); have n1_ := am (below_step aq1 hb); clear HB; have HO105 := n0_; have HB := n1_; clear n0_ n1_; (try clear hb); (try clear hb2); (try clear hk); (try clear hi); (try clear ho0)) | ((with_reducible refine gate_dst (N := 8) rfl ?_); refine box_event ?hg (N := 8) ?hd (cs := #[.int .i64 0, .int .i64 0, .slice none 0 0]) (t := 62) ?hr ?_; (case hd => rfl); (case hg => rfl); (case hr => exact aq15); intro gb107 hg w24 hbox hb; have n0_ := am (Kd.R_below aq79 hb); have n1_ := am (below_step aq1 hb); have n2_ := am (hbox); have n3_ := am ((by rw [hg]; exact (below_size aq1) : w.heap.size ≤ gb107)); have n4_ := am ((by rw [hg]; exact (below_size aq1) : w.heap.size ≤ gb107)); clear HO105; clear HB; have HO105 := n0_; have HB := n1_; have BK107 := n2_; have GW107 := n3_; have GE107 := n4_; clear n0_ n1_ n2_ n3_ n4_; clear hb hbox hg; obtain ⟨hcz25_0, hcz25_1, hcz25_2, hfz25_0, hfz25_1, hfz25_2⟩ := blk3_ BK107.out; obtain ⟨Ao26, co26, eo26⟩ := Kd.R_slice HO105.out; subst eo26))
  go_ret2
  exact ⟨aq8, aq19⟩
def laws_FnExactCountGates.j0 : Nat → List Int → List Int → Bool → Option (Bool)
 | 0, _, _, _ => none
 | k + 1, x1, x9, x42 => if x42 = true then (some false) else ((laws_toIntS.f k x1).bind fun t111 => ((laws_eqIntS.f k x9 t111).bind fun t114 => (if t114 = true then (some true) else (some false))))
def laws_FnExactCountGates.f (k : Nat) (a0 : ByteArray) (l1 : List Int) (a2 : Int) : Option (Bool) := if (a0.size : Int) > 1048576 then (some true) else (if (l1.length : Int) > 1048576 then (some true) else ((laws_toIntS.f k l1).bind fun t101 => ((spec_CountGates.f k a0 t101 a2).bind fun bt104 => ((laws_toIntS.f k l1).bind fun t106 => ((impl_CountGates.f k a0 t106 a2).bind fun bt109 => (if bt109.1 = bt104.1 then (laws_FnExactCountGates.j0 k l1 t106 (bt109.2 != bt104.2)) else (laws_FnExactCountGates.j0 k l1 t106 true)))))))
theorem laws_FnExactCountGates.mono_l : ∀ k, (∀ y0 y1 y2, LeO (laws_FnExactCountGates.j0 k y0 y1 y2) (laws_FnExactCountGates.j0 (k + 1) y0 y1 y2))
 | 0 => fun _ _ _ r h => by simp [laws_FnExactCountGates.j0] at h
 | k + 1 => by
  have ih0 := laws_FnExactCountGates.mono_l k
  ·intro y0 y1 y2
   unfold laws_FnExactCountGates.j0
   have im0 := @impl_CountGates.mono; have im1 := @laws_eqIntS.mono; have im2 := @laws_toIntS.mono; have im3 := @spec_CountGates.mono; exact mo
set_option maxHeartbeats 8000000 in
set_option maxRecDepth 100000 in
theorem laws_FnExactCountGates.calls (k : Nat) (a0 : ByteArray) (A1 : Option Addr) (c1 : Nat) (l1 : List Int) (a2 : Int) (r : Bool) (w : World) (hr1 : Kd.C (Kd.int .i64) w A1 l1.length l1) (hc1 : l1.length ≤ c1) (h : laws_FnExactCountGates.f k a0 l1 a2 = some r) :
  Calls Tryz.prog 9 #[.string a0, .slice A1 l1.length c1, .int .i64 a2] w fun e w' => e = .returned (.bool r) ∧ Below w.heap.size w w' := by
 have HR1 := am hr1
 have HC1 := am hc1
 clear hr1 hc1
 have HB := am (Below.refl w.heap.size w)
 have H : (if (a0.size : Int) > 1048576 then (some true) else (if (l1.length : Int) > 1048576 then (some true) else ((laws_toIntS.f k l1).bind fun t101 => ((spec_CountGates.f k a0 t101 a2).bind fun bt104 => ((laws_toIntS.f k l1).bind fun t106 => ((impl_CountGates.f k a0 t106 a2).bind fun bt109 => (if bt109.1 = bt104.1 then (laws_FnExactCountGates.j0 k l1 t106 (bt109.2 != bt104.2)) else (laws_FnExactCountGates.j0 k l1 t106 true)))))))) = some r := h
 clear h
 by_cases c4 : (a0.size : Int) > 1048576
 ·rw [if_pos c4] at H
  have c4b0 := decide_eq_true c4
  have c4b1 : decide (1048576 < a0.size) = true := decide_eq_true (by omega)
  clear c4
  obtain rfl := Option.some.inj H
  go_enter Tryz.func9, Tryz.ntmps9
  go_wp2
  go_ret
  exact ⟨aq8, aq1⟩
 ·rw [if_neg c4] at H
  have c4b0 := decide_eq_false c4
  have c4b1 : decide (1048576 < a0.size) = false := decide_eq_false (by omega)
  clear c4
  by_cases c5 : (l1.length : Int) > 1048576
  ·rw [if_pos c5] at H
   have c5b0 := decide_eq_true c5
   have c5b1 : decide (1048576 < l1.length) = true := decide_eq_true (by omega)
   clear c5
   obtain rfl := Option.some.inj H
   go_enter Tryz.func9, Tryz.ntmps9
   go_wp2
   go_ret
   exact ⟨aq8, aq1⟩
  ·rw [if_neg c5] at H
   have c5b0 := decide_eq_false c5
   have c5b1 : decide (1048576 < l1.length) = false := decide_eq_false (by omega)
   clear c5
   obtain ⟨t101, A60, H⟩ := Option.bind_eq_some_iff.mp H
   have A6 := am A60
   clear A60
   replace H := Option.bind_eq_some_iff.mp H
   obtain ⟨⟨t104, t105⟩, A70, H⟩ := H
   replace H : ((laws_toIntS.f k l1).bind fun t106 => ((impl_CountGates.f k a0 t106 a2).bind fun bt109 => (if bt109.1 = t104 then (laws_FnExactCountGates.j0 k l1 t106 (bt109.2 != t105)) else (laws_FnExactCountGates.j0 k l1 t106 true)))) = some r := H
   have A7 := am A70
   clear A70
   obtain ⟨t106, A80, H⟩ := Option.bind_eq_some_iff.mp H
   have A8 := am A80
   clear A80
   replace H := Option.bind_eq_some_iff.mp H
   obtain ⟨⟨t109, t110⟩, A90, H⟩ := H
   replace H : (if t109 = t104 then (laws_FnExactCountGates.j0 k l1 t106 (t110 != t105)) else (laws_FnExactCountGates.j0 k l1 t106 true)) = some r := H
   have A9 := am A90
   clear A90
   have HC10 := am H
   clear H
   go_enter Tryz.func9, Tryz.ntmps9
   go_upto_region 8 with (first | ((with_reducible refine gate_callee (f := 21) rfl ?_); refine goesL_ (some 21) rfl rfl Tryz.func21 (by kernel_rfl) rfl #[.slice A1 l1.length c1] rfl aq5 ?_; (with_reducible refine (laws_toIntS.calls k _ _ l1 t101 _ ?side1 ?side2 A6.out).mono ?_); (case side1 => exact aq72); (case side2 => exact HC1.out); rintro e w11 ⟨v102, rfl, ho0, hb⟩; refine ⟨_, rfl, ?_⟩; have n0_ := am (Kd.R_lower ho0 (below_size aq1)); have n1_ := am (below_step aq1 hb); clear HB; have HO103 := n0_; have HB := n1_; clear n0_ n1_; (try clear hb); (try clear hb2); (try clear hk); (try clear hi); (try clear ho0); obtain ⟨Ao12, co12, eo12⟩ := Kd.R_slice HO103.out; subst eo12) | ((with_reducible refine gate_callee (f := 37) rfl ?_); refine goesL_ (some 23) rfl rfl Tryz.func37 (by kernel_rfl) rfl #[.string a0, .slice Ao12 t101.length co12, .int .i64 a2] rfl aq5 ?_; (with_reducible refine (spec_CountGates.calls k a0 _ _ t101 a2 t104 t105 _ ?side1 ?side2 A7.out).mono ?_); (case side1 => exact aq65); (case side2 => exact (Kd.R_reads' HO103.out).2.1); rintro e w13 ⟨rfl, hb⟩; refine ⟨_, rfl, ?_⟩; have n0_ := am (Kd.R_below aq26 hb); have n1_ := am (below_step aq1 hb); clear HO103; clear HB; have HO103 := n0_; have HB := n1_; clear n0_ n1_; (try clear hb); (try clear hb2); (try clear hk); (try clear hi)) | ((with_reducible refine gate_callee (f := 21) rfl ?_); refine goesL_ (some 27) rfl rfl Tryz.func21 (by kernel_rfl) rfl #[.slice A1 l1.length c1] rfl aq5 ?_; (with_reducible refine (laws_toIntS.calls k _ _ l1 t106 _ ?side1 ?side2 A8.out).mono ?_); (case side1 => exact aq16); (case side2 => exact HC1.out); rintro e w14 ⟨v107, rfl, ho0, hb⟩; refine ⟨_, rfl, ?_⟩; have n0_ := am (Kd.R_elder' aq26 (Kd.R_base ho0) hb); have n1_ := am (Kd.R_lower (Kd.R_new' ho0 (Kd.R_lt aq26)) (below_size aq1)); have n2_ := am (below_step aq1 hb); clear HO103; clear HB; have HO103 := n0_; have HO108 := n1_; have HB := n2_; clear n0_ n1_ n2_; (try clear hb); (try clear hb2); (try clear hk); (try clear hi); (try clear ho0); obtain ⟨Ao15, co15, eo15⟩ := Kd.R_slice HO108.out; subst eo15) | ((with_reducible refine gate_callee (f := 38) rfl ?_); refine goesL_ (some 32) rfl rfl Tryz.func38 (by kernel_rfl) rfl #[.string a0, .slice Ao15 t106.length co15, .int .i64 a2] rfl aq5 ?_; (with_reducible refine (impl_CountGates.calls k a0 _ _ t106 a2 t109 t110 _ ?side1 ?side2 A9.out).mono ?_); (case side1 => repeat (first | exact (Kd.R_reads' HO108.out).2.2 | (with_reducible refine Kd.C_alloc ?_ _) | (with_reducible refine Kd.C_drewN ?_ _) | (with_reducible refine Kd.C_drew ?_))); (case side2 => exact (Kd.R_reads' HO108.out).2.1); rintro e w16 ⟨rfl, hb⟩; refine ⟨_, rfl, ?_⟩; have n0_ := am (Kd.R_below aq26 hb); have n1_ := am (Kd.R_below (by (with_reducible repeat (first | apply Kd.R_alloc | apply Kd.R_drewN | apply Kd.R_drew)); exact HO108.out) hb); have n2_ := am (below_step aq1 hb); clear HO103; clear HO108; clear HB; have HO103 := n0_; have HO108 := n1_; have HB := n2_; clear n0_ n1_ n2_; (try clear hb); (try clear hb2); (try clear hk); (try clear hi)))
   (try simp only [Act.put, List.setIfInBounds_toArray, List.set_cons_zero, List.set_cons_succ])
   go_cut [42] (fun v42 wc => ∃ (kq : Nat) (x42_9 : Bool), v42 = .bool x42_9 ∧ Aside0 (laws_FnExactCountGates.j0 kq l1 t106 x42_9 = some r) ∧ Aside0 (kq ≤ k) ∧ Aside0 (Kd.R (Kd.int .i64) 3 wc w.heap.size (fun _ => True) (.slice Ao15 t106.length co15) t106) ∧ Aside0 (Below w.heap.size w wc))
   case first =>
    have H := HC10.out
    clear HC10
    by_cases c17 : t109 = t104
    ·rw [if_pos c17] at H
     have c17b0 := beq_iff_eq.mpr c17
     have c17b1 := bne_eq_false_iff_eq.mpr c17
     clear c17
     (first | rw [c17b0] | (simp only [i64_w, i32_w]; rw [c17b0]) | skip)
     have H' := am H
     clear H
     go_wp2
     go_meet
     case rel => exact ⟨_, ((t110 != t105)), aq7, H', ⟨aq105⟩, ⟨aq101⟩, ⟨aq1⟩⟩
    ·rw [if_neg c17] at H
     have c17b0 := beq_eq_false_iff_ne.mpr c17
     have c17b1 := bne_iff_ne.mpr c17
     (first | rw [c17b0] | (simp only [i64_w, i32_w]; rw [c17b0]) | skip)
     have H' := am H
     clear H
     go_wp2
     go_meet
     case rel => exact ⟨_, (true), aq7, H', ⟨aq105⟩, ⟨aq101⟩, ⟨aq1⟩⟩
   case rest =>
    clear HC10
    try clear c1
    try clear c2
    try clear p2
    try clear c3
    try clear c4
    try clear c4b0
    try clear c4b1
    try clear c5
    try clear c5b0
    try clear c5b1
    try clear c9
    try clear c17
    try clear c17b0
    try clear c17b1
    obtain ⟨kq, x42_9, rfl, HA, HJ9, HO_9, HB⟩ := hcut
    cases kq with
    | zero => exact absurd HA.out (by simp [laws_FnExactCountGates.j0])
    | succ kj9 =>
     have H := HA.out
     clear HA
     simp only [laws_FnExactCountGates.j0] at H
     by_cases c18 : x42_9 = true
     ·subst c18
      rw [if_pos rfl] at H
      obtain rfl := Option.some.inj H
      go_wp2
      go_ret
      exact ⟨aq8, aq1⟩
     ·replace c18 := Bool.eq_false_iff.mpr c18
      subst c18
      rw [if_neg Bool.false_ne_true] at H
      obtain ⟨t111, A190, H⟩ := Option.bind_eq_some_iff.mp H
      have A19 := am A190
      clear A190
      obtain ⟨t114, A200, H⟩ := Option.bind_eq_some_iff.mp H
      have A20 := am A200
      clear A200
      by_cases c21 : t114 = true
      ·subst c21
       rw [if_pos rfl] at H
       obtain rfl := Option.some.inj H
       go_wp2_with (first | ((with_reducible refine gate_callee (f := 21) rfl ?_); refine goesL_ (some 45) rfl rfl Tryz.func21 (by kernel_rfl) rfl #[.slice A1 l1.length c1] rfl aq5 ?_; (with_reducible refine (laws_toIntS.calls kj9 _ _ l1 t111 _ ?side1 ?side2 A19.out).mono ?_); (case side1 => exact aq16); (case side2 => exact HC1.out); rintro e w22 ⟨v112, rfl, ho0, hb⟩; refine ⟨_, rfl, ?_⟩; have n0_ := am (Kd.R_elder' aq10 (Kd.R_base ho0) hb); have n1_ := am (Kd.R_lower (Kd.R_new' ho0 (Kd.R_lt aq10)) (below_size aq1)); have n2_ := am (below_step aq1 hb); clear HO_9; clear HB; have HO_9 := n0_; have HO113 := n1_; have HB := n2_; clear n0_ n1_ n2_; (try clear hb); (try clear hb2); (try clear hk); (try clear hi); (try clear ho0); obtain ⟨Ao23, co23, eo23⟩ := Kd.R_slice HO113.out; subst eo23) | ((with_reducible refine gate_callee (f := 23) rfl ?_); refine goesL_ (some 46) rfl rfl Tryz.func23 (by kernel_rfl) rfl #[.slice Ao15 t106.length co15, .slice Ao23 t111.length co23] rfl aq5 ?_; (with_reducible refine (laws_eqIntS.calls kj9 _ _ t106 _ _ t111 true _ ?side1 ?side2 ?side3 ?side4 A20.out).mono ?_); (case side1 => exact aq90); (case side2 => exact (Kd.R_reads' HO_9.out).2.1); (case side3 => exact aq88); (case side4 => exact (Kd.R_reads' HO113.out).2.1); rintro e w' ⟨rfl, ⟨nd, rfl⟩⟩; refine ⟨_, rfl, ?_⟩))
       go_ret
       exact ⟨aq8, aq1⟩
      ·replace c21 := Bool.eq_false_iff.mpr c21
       subst c21
       rw [if_neg Bool.false_ne_true] at H
       obtain rfl := Option.some.inj H
       go_wp2_with (first | ((with_reducible refine gate_callee (f := 21) rfl ?_); refine goesL_ (some 45) rfl rfl Tryz.func21 (by kernel_rfl) rfl #[.slice A1 l1.length c1] rfl aq5 ?_; (with_reducible refine (laws_toIntS.calls kj9 _ _ l1 t111 _ ?side1 ?side2 A19.out).mono ?_); (case side1 => exact aq16); (case side2 => exact HC1.out); rintro e w24 ⟨v112, rfl, ho0, hb⟩; refine ⟨_, rfl, ?_⟩; have n0_ := am (Kd.R_elder' aq10 (Kd.R_base ho0) hb); have n1_ := am (Kd.R_lower (Kd.R_new' ho0 (Kd.R_lt aq10)) (below_size aq1)); have n2_ := am (below_step aq1 hb); clear HO_9; clear HB; have HO_9 := n0_; have HO113 := n1_; have HB := n2_; clear n0_ n1_ n2_; (try clear hb); (try clear hb2); (try clear hk); (try clear hi); (try clear ho0); obtain ⟨Ao25, co25, eo25⟩ := Kd.R_slice HO113.out; subst eo25) | ((with_reducible refine gate_callee (f := 23) rfl ?_); refine goesL_ (some 46) rfl rfl Tryz.func23 (by kernel_rfl) rfl #[.slice Ao15 t106.length co15, .slice Ao25 t111.length co25] rfl aq5 ?_; (with_reducible refine (laws_eqIntS.calls kj9 _ _ t106 _ _ t111 false _ ?side1 ?side2 ?side3 ?side4 A20.out).mono ?_); (case side1 => exact aq90); (case side2 => exact (Kd.R_reads' HO_9.out).2.1); (case side3 => exact aq88); (case side4 => exact (Kd.R_reads' HO113.out).2.1); rintro e w' ⟨rfl, ⟨nd, rfl⟩⟩; refine ⟨_, rfl, ?_⟩))
       go_ret
       exact ⟨aq8, aq1⟩
end Go.Proofs.YtdffgeoegdkiaaaGreatDoor.F

namespace Go.Proofs.YtdffgeoegdkiaaaGreatDoor.F
open Go.RowKit Go.Proofs.YtdffgeoegdkiaaaGreatDoor Go.Proofs.YtdffgeoegdkiaaaGreatDoorW.PrintWords Go.Proofs.YtdffgeoegdkiaaaGreatDoorW.PrintMore Go.Maps
def cnt (n : Nat) (p : Nat → Bool) : Nat := ((List.range n).filter p).length
theorem cnt_succ (n : Nat) (p : Nat → Bool) : cnt (n + 1) p = cnt n p + if p n = true then 1 else 0 := by
  unfold cnt
  rw [List.range_succ, List.filter_append, List.length_append]
  by_cases h : p n = true <;> simp [h]
theorem cnt_head (n : Nat) (p : Nat → Bool) : cnt (n + 1) p = (if p 0 = true then 1 else 0) + cnt n (fun i => p (i + 1)) := by
  unfold cnt
  rw [List.range_succ_eq_map, List.filter_cons, List.filter_map]
  by_cases h : p 0 = true
  · rw [if_pos h, if_pos h, List.length_cons, List.length_map, Nat.add_comm]; rfl
  · rw [if_neg h, if_neg h, List.length_map, Nat.zero_add]; rfl
theorem cnt_add {n : Nat} {p : Nat → Bool} {y : Nat} (hy : y < n) (hp : p y = false) : cnt n (fun x => p x || x == y) = cnt n p + 1 := by
  induction n with
  | zero => omega
  | succ n ih =>
    rw [cnt_succ, cnt_succ]
    by_cases e : y = n
    · subst e
      have : cnt y (fun x => p x || x == y) = cnt y p := by
        unfold cnt
        congr 1
        refine List.filter_congr fun x hx => ?_
        have := List.mem_range.1 hx
        have h0 : (x == y) = false := by simp; omega
        rw [h0, Bool.or_false]
      rw [this, hp]; simp
    · have h0 : (n == y) = false := by simp; omega
      rw [ih (by omega), h0, Bool.or_false]; omega
theorem cnt_congr {n : Nat} {p q : Nat → Bool} (h : ∀ x, x < n → p x = q x) : cnt n p = cnt n q := by
  unfold cnt
  rw [List.filter_congr (fun x hx => h x (List.mem_range.1 hx))]
theorem keyI (x : Int) : WideAt.IsKeyLit (.int .i64 x) := trivial
theorem seen_tidy : ∀ s : List Int, Tidy (seenD s) := fun s => by
  refine snoc_ind (P := fun s => Tidy (seenD s)) tidy_empty (fun l a h => ?_) s
  show Tidy (seenD (l ++ [a]))
  rw [seenD_snoc]; exact h.put (keyI _) _
theorem seen_has (s : List Int) (x : Int) : Maps.has (seenD s) (.int .i64 x) = decide (x ∈ s) := by
  refine snoc_ind (P := fun s => Maps.has (seenD s) (.int .i64 x) = decide (x ∈ s)) rfl (fun l a h => ?_) s
  show Maps.has (seenD (l ++ [a])) _ = _
  rw [seenD_snoc]
  by_cases e : x = a
  · subst e
    rw [has_put_same (seen_tidy l).isMap (keyI _)]; simp
  · rw [has_put_other (fun q => e (by injection q)), h]; simp [e]
theorem seen_size (s : List Int) (hs : ∀ x ∈ s, 0 ≤ x ∧ x < 16) : Maps.size (seenD s) = cnt 16 (fun x => decide ((x : Int) ∈ s)) := by
  refine snoc_ind (P := fun s => (∀ x ∈ s, 0 ≤ x ∧ x < 16) → Maps.size (seenD s) = cnt 16 (fun x => decide ((x : Int) ∈ s))) (fun _ => rfl) (fun l a ih hs => ?_) s hs
  show Maps.size (seenD (l ++ [a])) = _
  rw [seenD_snoc, size_put (seen_tidy l), seen_has, ih (fun x hx => hs x (List.mem_append_left _ hx))]
  obtain ⟨h0, h1⟩ := hs a (by simp)
  by_cases e : a ∈ l
  · rw [if_pos (by simpa using e)]
    refine cnt_congr fun x _ => ?_
    rw [Bool.eq_iff_iff, decide_eq_true_iff, decide_eq_true_iff, List.mem_append, List.mem_singleton]
    exact ⟨.inl, fun q => q.elim id (fun q => by rw [q]; exact e)⟩
  · rw [if_neg (by simpa using e)]
    obtain ⟨y, rfl⟩ : ∃ y : Nat, a = y := ⟨a.toNat, by omega⟩
    rw [← cnt_add (n := 16) (p := fun x => decide ((x : Int) ∈ l)) (y := y) (by omega) (by simpa using e)]
    refine cnt_congr fun x _ => ?_
    rw [Bool.eq_iff_iff, Bool.or_eq_true, decide_eq_true_iff, decide_eq_true_iff, List.mem_append, List.mem_singleton, beq_iff_eq]
    exact or_congr Iff.rfl ⟨fun q => by omega, fun q => by omega⟩
def maskL (s : List Nat) : Nat := s.foldl (fun m t => m ||| 2 ^ t) 0
theorem maskL_snoc (s : List Nat) (t : Nat) : maskL (s ++ [t]) = maskL s ||| 2 ^ t := by unfold maskL; rw [List.foldl_append]; rfl
theorem maskL_lt (s : List Nat) (hs : ∀ x ∈ s, x < 16) : maskL s < 2 ^ 16 := by
  refine snoc_ind (P := fun s => (∀ x ∈ s, x < 16) → maskL s < 2 ^ 16) (fun _ => by decide) (fun l a ih hs => ?_) s hs
  show maskL (l ++ [a]) < 2 ^ 16
  rw [maskL_snoc]
  refine Nat.or_lt_two_pow (ih fun x hx => hs x (List.mem_append_left _ hx)) ?_
  exact Nat.pow_lt_pow_right (by decide) (hs a (by simp))
theorem maskL_bit (s : List Nat) (x : Nat) : (maskL s).testBit x = decide (x ∈ s) := by
  refine snoc_ind (P := fun s => (maskL s).testBit x = decide (x ∈ s)) (by simp [maskL]) (fun l a ih => ?_) s
  show (maskL (l ++ [a])).testBit x = _
  rw [maskL_snoc, Nat.testBit_or, ih, Nat.testBit_two_pow, Bool.eq_iff_iff, Bool.or_eq_true, decide_eq_true_iff, decide_eq_true_iff, decide_eq_true_iff, List.mem_append, List.mem_singleton]
  exact or_congr Iff.rfl ⟨fun q => q.symm, fun q => q.symm⟩
theorem shl_two {t : Nat} (h : t < 16) : shl .i64 1 (t : Int) = ((2 ^ t : Nat) : Int) := by
  have : ∀ t : Fin 16, shl .i64 1 ((t.1 : Nat) : Int) = ((2 ^ t.1 : Nat) : Int) := by decide
  exact this ⟨t, h⟩
theorem or_mask {m t : Nat} (hm : m < 2 ^ 16) (ht : t < 16) : Go.bits .or .i64 (m : Int) (shl .i64 1 (t : Int)) = ((m ||| 2 ^ t : Nat) : Int) := by
  rw [shl_two ht]
  exact (bits_nat .i64 16 (by decide) (fun n h0 h1 => by rw [IntKind.wrap_i64]; have : (2 : Int) ^ 16 = 65536 := rfl; omega) m (2 ^ t) hm (Nat.pow_lt_pow_right (by decide) ht)).2
theorem count_l2 : ∀ (n m : Nat) (c : Nat), m < 2 ^ n → n ≤ 16 → c + n ≤ 1000 → Ev (fun k => spec_CountGates.l2 k (m : Int) (c : Int)) (((c + cnt n m.testBit : Nat) : Int), true)
  | 0, m, c, hm, _, _ => by
    obtain rfl : m = 0 := by simpa using hm
    exact Ev.step (f := fun _ => some (((c + cnt 0 (Nat.testBit 0) : Nat) : Int), true)) (fun k => by rw [spec_CountGates.l2, if_neg (by omega)]; rfl) (Ev.now _)
  | n + 1, m, c, hm, hn, hc => by
    by_cases h0 : m = 0
    · subst h0
      have : cnt (n + 1) (Nat.testBit 0) = 0 := by unfold cnt; rw [List.filter_eq_nil_iff.2 (fun x _ => by simp)]; rfl
      rw [this]
      exact Ev.step (f := fun _ => some (((c + 0 : Nat) : Int), true)) (fun k => by rw [spec_CountGates.l2, if_neg (by omega)]; rfl) (Ev.now _)
    · have hp : 2 ^ (n + 1) ≤ 2 ^ 16 := Nat.pow_le_pow_right (by decide) hn
      have h16 : 2 ^ 16 = 65536 := rfl
      have HD : Aside0 (wrap64 (Int.tdiv (m : Int) 2) = ((m / 2 : Nat) : Int)) := ⟨by
        rw [show Int.tdiv (m : Int) 2 = ((m / 2 : Nat) : Int) from (Int.ofNat_tdiv m 2).symm]
        exact w64 (by omega) (by omega)⟩
      have HC : Aside0 (wrap64 ((c : Int) + Int.tmod (m : Int) 2) = ((c + m % 2 : Nat) : Int)) := ⟨by
        rw [show Int.tmod (m : Int) 2 = ((m % 2 : Nat) : Int) from (Int.ofNat_tmod m 2).symm, w64 (by omega) (by omega)]
        omega⟩
      have ih := count_l2 n (m / 2) (c + m % 2) (by rw [Nat.pow_succ] at hm; omega) (by omega) (by omega)
      have e : c + m % 2 + cnt n (m / 2).testBit = c + cnt (n + 1) m.testBit := by
        rw [cnt_head, show (fun i => m.testBit (i + 1)) = (m / 2).testBit from by funext i; rw [Nat.testBit_succ], Nat.testBit_zero]
        rcases Nat.mod_two_eq_zero_or_one m with h | h <;> rw [h] <;> simp <;> omega
      rw [e] at ih
      refine Ev.step (fun k => ?_) ih
      rw [spec_CountGates.l2, if_pos (by omega), HD.out, HC.out]
def cgL (w h : Nat) (cs l1 : List Int) (o : Int) : Nat := cnt 16 (fun x => decide (∃ u ∈ levels 4, gN w h cs l1 o u = (x : Int)))
section
variable {t : ByteArray} {w h : Nat} {cs l1 : List Int} {o : Int} (hg : tyGrid (bytesOf t) = some (w, h, cs)) (h2 : l1.length = 2) (c1 : cellsOk freeC cs l1 = true) (c2 : cellsOk isOpenC cs [o] = true)
include hg h2 c1 c2
theorem impl_cg_words : Ev (fun k => wordsF (cgStep k t l1 o) 5 [] [ByteArray.empty]) ((levels 4).map (gN w h cs l1 o)) := by
  have := words_all (step := fun k => cgStep k t l1 o) (g := fun s x => s ++ [gN w h cs l1 o (wordD x)]) (P := fun m s => s.length ≤ m) (fun m s u hu hl hm hp => ⟨by
    have hG := impl_gate_num (wd := txtW u) hg (word_txtW hu (by omega)) c1 c2
    have hr := gN_range (w := w) (h := h) (cs := cs) (o := o) h2 (wordD (txtW u))
    unfold cgStep
    refine Ev.bind hG (Ev.congr (fun k => ?_) (Ev.now _))
    rw [if_pos (by omega), if_pos (by omega)], by
    show (s ++ [gN w h cs l1 o (wordD (txtW u))]).length ≤ m + 1
    rw [List.length_append, List.length_singleton]; omega⟩) 5 0 0 [] (by omega) (by rw [Nat.zero_add]; exact levels_small (n := 4) (by omega)) (Nat.le_refl _)
  rw [level0_map, levels_map 4] at this
  have e : ∀ (L : List (List Nat)) (s : List Int), (∀ u ∈ L, ∀ d ∈ u, d < 4) → (L.map txtW).foldl (fun s x => s ++ [gN w h cs l1 o (wordD x)]) s = s ++ L.map (gN w h cs l1 o) := fun L => by
    induction L with
    | nil => intro s _; simp
    | cons u L ih =>
      intro s hL
      rw [List.map_cons, List.foldl_cons, ih _ (fun v hv => hL v (List.mem_cons_of_mem _ hv)), wordD_txtW (hL u List.mem_cons_self), List.map_cons, List.append_assoc]; rfl
  rw [e _ _ (fun u hu => by
    obtain ⟨m, _, hu⟩ := List.mem_flatMap.1 hu
    exact ((mem_level m u).1 hu).2), List.nil_append] at this
  exact this
omit hg c1 c2 in
theorem impl_cg_size : Maps.size (seenD ((levels 4).map (gN w h cs l1 o))) = cgL w h cs l1 o := by
  rw [seen_size _ (fun x hx => by
    obtain ⟨u, _, rfl⟩ := List.mem_map.1 hx
    exact gN_range h2 u)]
  refine cnt_congr fun x _ => ?_
  rw [Bool.eq_iff_iff, decide_eq_true_iff, decide_eq_true_iff, List.mem_map]
def gNn (w h : Nat) (cs l1 : List Int) (o : Int) (u : List Nat) : Nat := (gN w h cs l1 o u).toNat
theorem spec_cg_l1 {j : Nat} (hj : j ≤ 4) {R : Int × Bool} : ∀ (d i : Nat) (s : List Nat), (∀ x ∈ s, x < 16) → i + d = (levelS j).length →
    Ev (fun k => spec_CountGates.l0 k l1 o ((maskL (s ++ ((levelS j).drop i).map (gNn w h cs l1 o)) : Nat) : Int) (wrap64 ((j : Int) + 1)) w h cs) R →
    Ev (fun k => spec_CountGates.l1 k l1 o ((maskL s : Nat) : Int) (j : Int) ((levelS j).map txtW) (((levelS j).map txtW).length : Int) (i : Int) w h cs) R
  | 0, i, s, hs, hi, hr => by
    rw [List.drop_eq_nil_of_le (by omega), List.map_nil, List.append_nil] at hr
    exact Ev.step (fun k => by rw [spec_CountGates.l1, if_neg (by rw [List.length_map]; omega)]) hr
  | d + 1, i, s, hs, hi, hr => by
    have hil : i < (levelS j).length := by omega
    have hlen := (levelS_sub j).1
    have h4 : 4 ^ j ≤ 4 ^ 4 := Nat.pow_le_pow_right (by decide) hj
    have h44 : 4 ^ 4 = 256 := rfl
    have HW : Aside0 (wrap64 ((i : Int) + 1) = ((i + 1 : Nat) : Int)) := ⟨by rw [w64 (by omega) (by omega)]; rfl⟩
    obtain ⟨q1, q2⟩ := (levelS_sub j).2 _ (List.getElem_mem hil)
    have hrd : rdOf ByteArray.empty ((levelS j).map txtW) (i : Int) = txtW (levelS j)[i] := by unfold rdOf; rw [Int.toNat_natCast, List.getD_eq_getElem?_getD, List.getElem?_map, List.getElem?_eq_getElem hil]; rfl
    have hB := spec_gate_num (wd := txtW (levelS j)[i]) hg (word_txtW q1 (by omega)) c1 c2
    rw [wordD_txtW q1] at hB
    have hr16 := gN_range (w := w) (h := h) (cs := cs) (o := o) h2 (levelS j)[i]
    have hnat : gN w h cs l1 o (levelS j)[i] = ((gNn w h cs l1 o (levelS j)[i] : Nat) : Int) := by unfold gNn; omega
    have hlt : gNn w h cs l1 o (levelS j)[i] < 16 := by omega
    rw [hnat] at hB
    have hm := maskL_lt s hs
    rw [List.drop_eq_getElem_cons hil, List.map_cons, show s ++ gNn w h cs l1 o (levelS j)[i] :: ((levelS j).drop (i + 1)).map (gNn w h cs l1 o) = (s ++ [gNn w h cs l1 o (levelS j)[i]]) ++ ((levelS j).drop (i + 1)).map (gNn w h cs l1 o) by simp] at hr
    have ih := spec_cg_l1 hj d (i + 1) (s ++ [gNn w h cs l1 o (levelS j)[i]]) (fun x hx => by
      rcases List.mem_append.1 hx with q | q
      · exact hs x q
      · rw [List.mem_singleton.1 q]; exact hlt) (by omega) hr
    rw [maskL_snoc] at ih
    refine Ev.step (f := fun k => (spec_mcNumber.f k w h cs l1 o (txtW (levelS j)[i])).bind fun t112 => if 0 ≤ t112 then spec_CountGates.l1 k l1 o (Go.bits .or .i64 ((maskL s : Nat) : Int) (shl .i64 1 t112)) (j : Int) ((levelS j).map txtW) (((levelS j).map txtW).length : Int) ((i + 1 : Nat) : Int) w h cs else none) (fun k => ?_) (Ev.bind hB ?_)
    · rw [spec_CountGates.l1, if_pos (by rw [List.length_map]; omega), if_pos (by omega), if_pos (by rw [List.length_map]; omega), hrd, HW.out]
    · refine Ev.congr (fun k => ?_) ih
      rw [if_pos (by omega), or_mask hm hlt]
theorem spec_cg_l0 : ∀ (d j : Nat), j + d = 5 → Ev (fun k => spec_CountGates.l0 k l1 o ((maskL (((List.range j).flatMap levelS).map (gNn w h cs l1 o)) : Nat) : Int) (j : Int) w h cs) ((cgL w h cs l1 o : Int), true)
  | 0, j, hj => by
    obtain rfl : j = 5 := by omega
    have hm := maskL_lt (((List.range 5).flatMap levelS).map (gNn w h cs l1 o)) (fun x hx => by
      obtain ⟨u, _, rfl⟩ := List.mem_map.1 hx
      have := gN_range (w := w) (h := h) (cs := cs) (o := o) h2 u
      unfold gNn; omega)
    have hc := count_l2 16 _ 0 hm (Nat.le_refl _) (by omega)
    rw [Nat.zero_add] at hc
    have e : cnt 16 (maskL (((List.range 5).flatMap levelS).map (gNn w h cs l1 o))).testBit = cgL w h cs l1 o := by
      unfold cgL
      refine cnt_congr fun x _ => ?_
      obtain ⟨_, _, hl, _⟩ := tyGrid_some hg
      rw [maskL_bit, Bool.eq_iff_iff, decide_eq_true_iff, decide_eq_true_iff, some_short (gN w h cs l1 o) (fun u hu => gN_short hl hu) 4 (x : Int), List.mem_map]
      constructor
      · rintro ⟨u, hu, e⟩
        have := gN_range (w := w) (h := h) (cs := cs) (o := o) h2 u
        exact ⟨u, hu, by unfold gNn at e; omega⟩
      · rintro ⟨u, hu, e⟩
        exact ⟨u, hu, by unfold gNn; omega⟩
    rw [e] at hc
    exact Ev.step (fun k => by rw [spec_CountGates.l0, if_neg (by omega)]; rfl) hc
  | d + 1, j, hj => by
    have HW : Aside0 (wrap64 ((j : Int) + 1) = ((j + 1 : Nat) : Int)) := ⟨by rw [w64 (by omega) (by omega)]; rfl⟩
    have ih := spec_cg_l0 d (j + 1) (by omega)
    rw [List.range_succ, List.flatMap_append, List.flatMap_cons, List.flatMap_nil, List.append_nil, List.map_append] at ih
    have hl1 := spec_cg_l1 hg h2 c1 c2 (j := j) (by omega) (levelS j).length 0 (((List.range j).flatMap levelS).map (gNn w h cs l1 o)) (fun x hx => by
      obtain ⟨u, _, rfl⟩ := List.mem_map.1 hx
      have := gN_range (w := w) (h := h) (cs := cs) (o := o) h2 u
      unfold gNn; omega) (by omega) (by rw [HW.out, List.drop_zero]; exact ih)
    refine Ev.step (f := fun k => (spec_mcWords.f k (j : Int)).bind fun t108 => spec_CountGates.l1 k l1 o ((maskL (((List.range j).flatMap levelS).map (gNn w h cs l1 o)) : Nat) : Int) (j : Int) t108 (t108.length : Int) 0 w h cs) (fun k => ?_) (Ev.bind (mcWords_ev (n := j) (by omega)) hl1)
    rw [spec_CountGates.l0, if_pos (by omega)]
end
def cgA (t : ByteArray) (l1 : List Int) (o : Int) : Int × Bool := if l1.length = 2 ∧ gateB t l1 [o] = true then (match tyGrid (bytesOf t) with | none => (0, false) | some g => ((cgL g.1 g.2.1 g.2.2 l1 o : Int), true)) else (0, false)
theorem impl_cg_ev (t : ByteArray) (ht : t.size < 4294967281) (l1 : List Int) (h1 : l1.length ≤ 2000000) (o : Int) : Ev (fun k => impl_CountGates.f k t l1 o) (cgA t l1 o) := by
  unfold impl_CountGates.f cgA
  refine Ev.bind (impl_isTwo_ev t ht l1 h1 o) ?_
  by_cases hb : l1.length = 2 ∧ gateB t l1 [o] = true
  · obtain ⟨w, h, cs, hg, c1, c2⟩ := gateB_grid' hb.2
    rw [if_pos hb]
    simp only [hg]
    have hW := impl_cg_words hg hb.1 c1 c2
    have hz := impl_cg_size (w := w) (h := h) (cs := cs) (o := o) hb.1
    refine Ev.congr (fun k => if_pos (by rw [hb.2, decide_eq_true hb.1]; rfl)) (Ev.bind hW ?_)
    rw [hz]
    exact Ev.now _
  · rw [if_neg hb]
    refine Ev.congr (fun k => if_neg (fun q => hb ?_)) (Ev.now _)
    rw [Bool.and_eq_true, decide_eq_true_iff] at q
    exact q
theorem spec_cg_ev (t : ByteArray) (l1 : List Int) (h1 : l1.length ≤ 2000000) (o : Int) : Ev (fun k => spec_CountGates.f k t l1 o) (cgA t l1 o) := by
  obtain ⟨A, B, C, hG, hABC⟩ := spec_mcGate_ev t l1 [o] h1 (by simp) ByteArray.empty
  unfold cgA spec_CountGates.f spec_mcTwo.f
  by_cases hb : gateB t l1 [o] = true
  · obtain ⟨w, h, cs, hg, c1, c2⟩ := gateB_grid' hb
    obtain ⟨rfl, rfl, rfl⟩ := hABC w h cs hg
    refine Ev.bind (Ev.bind hG (Ev.congr (fun k => if_pos (by rw [hb, wordB_nil]; rfl)) (Ev.now _))) ?_
    by_cases h2 : l1.length = 2
    · rw [if_pos ⟨h2, hb⟩]
      simp only [hg]
      have h0 := spec_cg_l0 hg h2 c1 c2 5 0 (by omega)
      refine Ev.congr (fun k => if_pos (by rw [h2]; rfl)) h0
    · rw [if_neg (fun q => h2 q.1)]
      refine Ev.congr (fun k => if_neg (fun q => h2 ?_)) (Ev.now _)
      have := beq_iff_eq.1 q
      omega
  · rw [if_neg (fun q => hb q.2)]
    refine Ev.bind (Ev.bind hG (Ev.congr (fun k => if_neg (fun q => hb ?_)) (Ev.now _))) ?_
    · rw [Bool.and_eq_true] at q
      exact q.1
    · exact Ev.congr (fun k => if_neg Bool.false_ne_true) (Ev.now _)
theorem FnExactCountGates (a : ByteArray) (l1 : List Int) (o : Int) (ha : a.size ≤ 9223372036854775807) (hw1 : ∀ x ∈ l1, (Lit.int .i64 x).wf = true) (ho : (Lit.int .i64 o).wf = true) : ∃ k, laws_FnExactCountGates.f k a l1 o = some true := by
  refine Ev.rounds (g := fun k => laws_FnExactCountGates.f k a l1 o) ?_
  unfold laws_FnExactCountGates.f
  by_cases c0 : (a.size : Int) > 1048576
  · exact Ev.congr (fun k => if_pos c0) (Ev.now _)
  by_cases c1 : (l1.length : Int) > 1048576
  · exact Ev.congr (fun k => by rw [if_neg c0, if_pos c1]) (Ev.now _)
  refine Ev.congr (fun k => by rw [if_neg c0, if_neg c1]) ?_
  have t1 := toI_ev l1 (by omega)
  have e1 := eqI_ev l1 (by omega)
  have hI := impl_cg_ev a (by omega) l1 (by omega) o
  have hS := spec_cg_ev a l1 (by omega) o
  generalize cgA a l1 o = R at hI hS
  have hj0 : Ev (fun k => laws_FnExactCountGates.j0 k l1 l1 false) true := by
    refine Ev.step (fun k => by rw [laws_FnExactCountGates.j0, if_neg Bool.false_ne_true]) (Ev.bind t1 (Ev.bind e1 ?_))
    exact Ev.congr (fun k => if_pos rfl) (Ev.now _)
  refine Ev.bind t1 (Ev.bind hS (Ev.bind t1 (Ev.bind hI ?_)))
  refine Ev.congr (fun k => if_pos rfl) ?_
  rw [bne_self_eq_false]
  exact hj0
end Go.Proofs.YtdffgeoegdkiaaaGreatDoor.F
