/- The proof that the law's row holds, part 4: the kit's words, the printed walks and the plain law. No conditions beyond the card's own. -/
import Derived.Shelf.SlicesE.IndexFunc
import Derived.Maps.OwnOps
import Derived.Test.YtdffgeoegdkiaaaGreatDoorM0
import Derived.Test.YtdffgeoegdkiaaaGreatDoorM1
import Derived.Test.YtdffgeoegdkiaaaGreatDoorM2
import Derived.Test.YtdffgeoegdkiaaaGreatDoorM3
set_option linter.unusedVariables false
set_option linter.unusedSimpArgs false
namespace Go.Proofs.YtdffgeoegdkiaaaGreatDoor.F
open Go.Proofs.YtdffgeoegdkiaaaGreatDoor
open Go.RowKit Go.Proofs.YtdffgeoegdkiaaaGreatDoorW.PrintWords Go.Proofs.YtdffgeoegdkiaaaGreatDoorW.PrintLast Go.Proofs.YtdffgeoegdkiaaaGreatDoorW.PrintMore Go.Lib
attribute [local go_sem] max2_int min2_int
def stAll (k : Nat) (w h : Int) (cs : List Int) : List Int → Option Bool
  | [] => some true
  | d :: ds => (impl_tray_isStill.f k w h cs d).bind fun b => if b = true then stAll k w h cs ds else some false
def stStep (k : Nat) (txt : ByteArray) (o : List ByteArray) (w h : Int) (cs : List Int) : Option (List ByteArray) :=
  (stAll k w h cs (bytesOf txt)).bind fun b => if b = true then (impl_tray_text.f w h cs).bind fun t => if o.length < 8000000000 then some (o ++ [t]) else none else some o
def stInv (txt : ByteArray) (base bt bo : Nat) (o : List ByteArray) (F : Nat → Prop) (W : World) : Prop :=
  base ≤ bt ∧ base ≤ bo ∧ W.heap[bt]? = some (.cells #[.string txt] 9 (0, 0)) ∧ ∃ v, (∀ k, F k ↔ k = bt ∨ k = bo ∨ v.ownBlock = some k) ∧ W.heap[bo]? = some (.cells #[v] 22 (0, 0)) ∧ Kd.string.R 9 W base (fun k => k ≠ bt) v o
theorem stInv_lt {t : ByteArray} {base bt bo : Nat} {o : List ByteArray} {F : Nat → Prop} {W : World} (h : stInv t base bt bo o F W) : ∀ k, F k → k < W.heap.size := by
  obtain ⟨_, _, ht, v, hF, ho, hR⟩ := h
  intro k hk
  rcases (hF k).1 hk with rfl | rfl | e
  · exact blkx_lt ht
  · exact blkx_lt ho
  · exact Kd.R_lt hR k e
theorem stInv_st {t : ByteArray} {base bt bo : Nat} {o : List ByteArray} {F G : Nat → Prop} {W W' : World} (h : stInv t base bt bo o F W) (hh : Held G W W') (hG : ∀ k, G k → ¬ F k) : stInv t base bt bo o F W' := by
  have hk : ∀ k, F k → W'.heap[k]? = W.heap[k]? := fun k hf => hh.block k (stInv_lt h k hf) (fun g => hG k g hf)
  obtain ⟨h1, h2, ht, v, hF, ho, hR⟩ := h
  exact ⟨h1, h2, (hk bt ((hF _).2 (.inl rfl))).trans ht, v, hF, (hk bo ((hF _).2 (.inr (.inl rfl)))).trans ho, Kd.R_mono (Kd.R_move (Kd.R_tight rfl hR) (fun k e => hk k ((hF _).2 (.inr (.inr e.symm))))) (fun k e => hR.1 k e.symm)⟩
set_option maxRecDepth 100000 in
set_option maxHeartbeats 8000000 in
theorem st_closure (k : Nat) (txt : ByteArray) (hT : txt.size < 65536) (base bt bo : Nat) (o : List ByteArray) (F : Nat → Prop) (W : World) (w h : Int) (A : Option Addr) (c : Nat) (cs : List Int) (n : Int) (hr : Kd.C (Kd.int .u8) W A cs.length cs) (hc : cs.length ≤ c) (o' : List ByteArray) (hi : stInv txt base bt bo o F W) (hs : stStep k txt o w h cs = some o') :
    Calls Tryz.prog 136 (#[.agg #[.int .i64 w, .int .i64 h, .slice A cs.length c], .int .i64 n] ++ #[.pointer (some ⟨bt, 0, none⟩), .pointer (some ⟨bo, 0, none⟩)]) W fun e W' => e = .returned (.tuple #[]) ∧ ∃ F', stInv txt base bt bo o' F' W' ∧ Held F W W' ∧ ∀ k, F' k → F k ∨ W.heap.size ≤ k := by
  have HI := am hi
  obtain ⟨hb1, hb2, ht, v, hF, hbo, hR⟩ := hi
  unfold stStep at hs
  obtain ⟨b, ha, hs⟩ := Option.bind_eq_some_iff.mp hs
  have HA := am ha
  have HT := am ht
  have HBO := am hbo
  have HR := am hR
  have HF := am hF
  have HBB := am (And.intro hb1 hb2)
  have HC := am hr
  have HC1 := am hc
  have HS := am hs
  have HTX := am (show conv_bytes.f txt = some (bytesOf txt) from by unfold conv_bytes.f; rw [if_pos (by omega)])
  have HTL := am (show (bytesOf txt).length < 65536 from by rw [bytesOf_length]; exact hT)
  have HB := am (Below.refl W.heap.size W)
  clear ht hbo hR hF hb1 hb2 ha hr hc hs hT
  show Calls _ _ #[.agg #[.int .i64 w, .int .i64 h, .slice A cs.length c], .int .i64 n, .pointer (some ⟨bt, 0, none⟩), .pointer (some ⟨bo, 0, none⟩)] _ _
  go_enter Tryz.func136, Tryz.ntmps136
  go_wp2_with (first
    | ((with_reducible refine gate_dst (N := 4) rfl ?_); refine box_event ?hg (N := 4) ?hd (cs := #[.int .i64 w, .int .i64 h, .slice A cs.length c]) (t := 93) ?hr ?_; (case hd => rfl); (case hg => rfl); (case hr => first | (go_simp; done) | (go_simp; rfl)); intro b4 hg4 w1 hbox hb; have HB1 := am (below_step HB.out hb); have X1 := am hbox; have zt : w1.cell? ⟨bt, 0, none⟩ = some (.string txt) := (blk_cell ((HB1.out.block bt (blkx_lt HT.out)).trans HT.out) 0).trans rfl; have G4 := am hg4; clear hb hbox hg4)
    | ((with_reducible refine gate_dst (N := 9) rfl ?_); refine conv_event rfl (N := 9) rfl 9 60 5 _ rfl txt rfl Tryz.underlying9 Tryz.underlying60 Tryz.underlying5 (bytesOf txt) HTX.out ?_; intro v9 w2 hv hb; obtain ⟨A9, c9, rfl⟩ := Kd.V_slice hv; have HV := am hv; have HB2 := am (below_step HB1.out hb); have X2 := am (blk_below X1.out hb); clear hb hv zt))
  go_loopw [11] (fun v11 wr => ∃ (i : Nat), i ≤ (bytesOf txt).length ∧ v11 = .int .i64 i ∧ Aside0 (stAll k w h cs ((bytesOf txt).drop i) = some b) ∧ Aside0 (Below w2.heap.size w2 wr)) (fun v11 _ => (bytesOf txt).length - (intOf v11).toNat)
  case atStart => exact ⟨0, Nat.zero_le _, rfl, ⟨by rw [List.drop_zero]; exact HA.out⟩, ⟨Below.refl _ _⟩⟩
  case round =>
    obtain ⟨i, hi, rfl, HA', HQ⟩ := hrel
    have Xr := blk_below X2.out HQ.out
    have z40 : wr.cell? ⟨b4, 0, none⟩ = some (.int .i64 w) := (blk_cell Xr 0).trans rfl
    have z41 : wr.cell? ⟨b4, 1, none⟩ = some (.int .i64 h) := (blk_cell Xr 1).trans rfl
    have z42 : wr.cell? ⟨b4, 2, none⟩ = some (.slice A cs.length c) := (blk_cell Xr 2).trans rfl
    have HBr := am (below_step HB2.out HQ.out)
    by_cases hlt : i < (bytesOf txt).length
    · have hltI : (i : Int) < ((bytesOf txt).length : Int) := by omega
      obtain ⟨ad, e1, hx⟩ := Kd.at_int (Kd.C_below (Kd.V_reads' HV.out).2.2 HQ.out) (i : Int) (by omega) hltI
      simp only [Int.toNat_natCast] at hx
      have hrd : rd (bytesOf txt) (i : Int) = (bytesOf txt)[i] := by unfold rd; rw [Int.toNat_natCast, List.getD_eq_getElem?_getD, List.getElem?_eq_getElem hlt]; rfl
      have hA := HA'.out
      rw [List.drop_eq_getElem_cons hlt] at hA
      rw [hrd] at hx
      generalize (bytesOf txt)[i] = d at *
      subst e1
      obtain ⟨q, hq, hA⟩ := Option.bind_eq_some_iff.mp (show (impl_tray_isStill.f k w h cs d).bind (fun b => if b = true then stAll k w h cs ((bytesOf txt).drop (i + 1)) else some false) = some b from hA)
      have HQ2 := am hq
      have HL := am hlt
      clear hrd hq hlt hi HA'
      cases q with
      | false =>
        obtain rfl : false = b := Option.some.inj hA
        obtain rfl : o = o' := Option.some.inj HS.out
        clear hA
        go_wp2_with (first
          | (go_at_call 137; refine (impl_tray_isStill.calls k w h A c cs d false _ (Kd.C_below HC.out HBr.out) HC1.out HQ2.out).mono ?_; rintro e w3 ⟨rfl, hb⟩; have HB3 := am (below_step HBr.out hb); clear hb))
        (try simp only [Exit.inBlock, Exit.then]); refine bodyPost_ret (results_none rfl _ _ _) rfl ?_
        exact ⟨rfl, F, stInv_st HI.out (Held.of_below (F := fun _ => False) HB3.out) (fun _ h => h.elim), Held.of_below HB3.out, fun k hk => .inl hk⟩
      | true =>
        have HA2 := am (show stAll k w h cs ((bytesOf txt).drop (i + 1)) = some b from hA)
        have hw1 : IntKind.i64.wrap ((i : Int) + 1) = ((i + 1 : Nat) : Int) := by rw [IntKind.wrap_i64]; have := HTL.out; have := HL.out; omega
        clear hA
        go_wp2_with (first
          | (go_at_call 137; refine (impl_tray_isStill.calls k w h A c cs d true _ (Kd.C_below HC.out HBr.out) HC1.out HQ2.out).mono ?_; rintro e w3 ⟨rfl, hb⟩; have HB3 := am (below_step HQ.out hb); clear hb))
        go_roundw
        case rel => exact ⟨i + 1, by have := HL.out; omega, by first | rfl | simp, HA2, HB3⟩
        case measure => have := HL.out; simp [intOf]; omega
    · have hge : ¬ (i : Int) < ((bytesOf txt).length : Int) := by omega
      have hA := HA'.out
      rw [List.drop_eq_nil_of_le (by omega)] at hA
      obtain rfl : true = b := Option.some.inj hA
      obtain ⟨tx, htx, hS⟩ := Option.bind_eq_some_iff.mp (show (impl_tray_text.f w h cs).bind (fun t => if o.length < 8000000000 then some (o ++ [t]) else none) = some o' from HS.out)
      by_cases hlen : o.length < 8000000000
      · obtain rfl : o ++ [tx] = o' := by simpa [hlen] using hS
        have HTT := am htx
        have HLEN := am hlen
        clear hA HA' hi hlt htx hS hlen
        go_wp2
        have zo : wr.cell? ⟨bo, 0, none⟩ = some v := (blk_cell ((HBr.out.block bo (blkx_lt HBO.out)).trans HBO.out) 0).trans rfl
        have HXr := am Xr
        clear Xr
        refine start_ (n := 6) (S := fun w' => w'.cell? ⟨bo, 0, none⟩ = some v ∧ w'.cell? ⟨b4, 0, none⟩ = some (.int .i64 w) ∧ w'.cell? ⟨b4, 1, none⟩ = some (.int .i64 h) ∧ w'.cell? ⟨b4, 2, none⟩ = some (.slice A cs.length c)) (ds := [5]) #[false, false, false, false, false, false] (by kernel_rfl) rfl rfl ⟨zo, z40, z41, z42⟩ (fun hHeld => ?_)
        refine take_ (i := 0) (N := some 20) (v := ?_) (a' := ?_) (bm 6 1) rfl rfl (by kernel_rfl) (fun _ _ _ h => h) (Or.inl ⟨by rfl, ?_⟩) hHeld ?_ ?_
        rotate_left
        · rintro w' ⟨s0, s1, s2, s3⟩
          go_simp
          with_reducible rfl
        rotate_left
        · simp only [Act.put, ac_]
          rfl
        refine take_ (i := 1) (N := some 21) (v := ?_) (a' := ?_) (bm 6 3) rfl rfl (by kernel_rfl) (fun _ _ _ h => h) (Or.inl ⟨by rfl, ?_⟩) hHeld ?_ ?_
        rotate_left
        · rintro w' ⟨s0, s1, s2, s3⟩
          go_simp
          with_reducible rfl
        rotate_left
        · simp only [Act.put, ac_]
          rfl
        refine one_ (i := 2) (N := some 22) (bm 6 7) rfl rfl (by kernel_rfl) (by decide) (fun K hK => ?_)
        refine goes_ Tryz.func91 (by kernel_rfl) rfl #[.agg #[.int .i64 w, .int .i64 h, .slice A cs.length c]] (by rfl) rfl rfl (by (try simp only [List.map_toArray, List.map_cons, List.map_nil]); first | done | rfl) ?_
        refine (impl_tray_text.calls w h A c cs tx _ (by have h := Kd.C_below HC.out HBr.out; exact h) HC1.out HTT.out).mono ?_
        rintro e w3 ⟨rfl, hb⟩
        have hbW : Below wr.heap.size wr w3 := ⟨hb.os, hb.tape, hb.output, hb.size, hb.block⟩
        have HB3 := am (below_step HBr.out hbW)
        have X3 := am (blk_below HXr.out hbW)
        have hbo3 : w3.heap[bo]? = _ := (HB3.out.block bo (blkx_lt HBO.out)).trans HBO.out
        have zo3 : w3.cell? ⟨bo, 0, none⟩ = some v := (blk_cell hbo3 0).trans rfl
        have zo4 : (w3.alloc (.cells #[.string tx] 9)).cell? ⟨bo, 0, none⟩ = some v := (blk_cell (((Below.refl _ w3).alloc (Nat.le_refl _) _).block bo (blkx_lt hbo3) |>.trans hbo3) 0).trans rfl
        have HBO3 := am hbo3
        have HT3 := am ((HB3.out.block bt (blkx_lt HT.out)).trans HT.out)
        have HR3 := am (Kd.R_below HR.out HB3.out)
        refine ⟨_, rfl, ?_⟩
        refine hK.out _ _ ⟨zo3, (blk_cell X3.out 0).trans rfl, (blk_cell X3.out 1).trans rfl, (blk_cell X3.out 2).trans rfl⟩ (fun hHeld => ?_)
        clear hK K
        refine norm_ (a' := ?_) ?_ ?_
        rotate_left
        · show Act.put _ (some 22) _ = _
          simp only [Act.put, ac_]
          rfl
        refine one_ (i := 3) (N := some 23) (bm 6 15) rfl rfl (by kernel_rfl) (by decide) (fun K hK => ?_)
        go_simp
        have X4 := blk_below X3.out ((Below.refl _ w3).alloc (Nat.le_refl _) (.cells #[.string tx] 9))
        refine hK.out _ _ ⟨zo4, (blk_cell X4 0).trans rfl, (blk_cell X4 1).trans rfl, (blk_cell X4 2).trans rfl⟩ (fun hHeld => ?_)
        clear hK K X4
        refine one_ (i := 4) (N := some 24) (bm 6 31) rfl rfl (by kernel_rfl) (by decide) (fun K hK => ?_)
        refine Kd.R_append_step (w0 := w3) Kd.string base (by rfl) (.tmp 20) (.tmp 23) 22 9 (.string ⟨#[]⟩) 16 rfl Tryz.underlying22 info9 rfl (by decide) (by omega) v o tx [.string tx] (fun k => k ≠ bt) (fun _ => False) ?aE ?aX ?aP (fun _ hk => hk.elim) ?aF HR3.out ?aB ?aS ?aL ?_; (case aE => rfl); (case aX => rfl); (case aP => exact rfl); (case aB => exact Below.refl _ _); (case aF => exact (fun k hk => by have := blkx_lt HT3.out; show k ≠ bt; omega)); (case aS => have h1 := blkx_lt HBO3.out; have h2 := HBB.out.2; omega); (case aL => have := HLEN.out; omega)
        intro v7 w7 ho hb hg hat; obtain ⟨A7, c7, hv7⟩ := Kd.R_slice ho; obtain ⟨n7, hn7⟩ : ∃ n, (o ++ [tx]).length = n := ⟨_, rfl⟩; rw [hn7] at hv7; subst hv7; have HN7 := am hn7; clear hn7; have nbo : some bo ≠ v.ownBlock := Kd.R_ne HR3.out HBO3.out (by decide); have nbt : some bt ≠ v.ownBlock := fun e => HR3.out.1 bt e.symm rfl; have hbo7 : w7.heap[bo]? = _ := (hg.block bo (blkx_lt HBO3.out) nbo).trans HBO3.out; have z7 : w7.cell? ⟨bo, 0, none⟩ = some v := (blk_cell hbo7 0).trans rfl; have f7 := blk_frozen hbo7 0; have HBO7 := am hbo7; have HT7 := am ((hg.block bt (blkx_lt HT3.out) nbt).trans HT3.out); have HR7 := am ho; have HG7 := am hg; have HAT := am hat
        have e4 : b4 = W.heap.size := G4.out; have n4 : some b4 ≠ v.ownBlock := (fun e => by have := Kd.R_lt HR.out b4 e.symm; omega); have n4o : b4 ≠ bo := (by have := blkx_lt HBO.out; omega); have X7 := am ((hg.block b4 (blkx_lt X3.out) n4).trans X3.out)
        refine hK.out _ _ ⟨z7, (blk_cell X7.out 0).trans rfl, (blk_cell X7.out 1).trans rfl, (blk_cell X7.out 2).trans rfl⟩ (fun hHeld => ?_)
        clear hK K
        refine last_ (i := 5) (N := none) (bm 6 63) rfl rfl (by kernel_rfl) (by decide) (fun K hK => ?_)
        go_simp
        refine hK.out _ _ ?_
        clear hK K hHeld
        refine done_ (by kernel_rfl) ?_
        all_goals
          go_wp2
          go_end0
          have hne : bt ≠ bo := blk_ne HT7.out HBO7.out (by decide)
          have nb7 : some bo ≠ (.slice A7 n7 c7 : Value).ownBlock := Kd.R_ne HR7.out HBO7.out (by decide)
          refine ⟨rfl, fun k => k = bt ∨ k = bo ∨ (.slice A7 n7 c7 : Value).ownBlock = some k, ⟨HBB.out.1, HBB.out.2, ?_, (.slice A7 n7 c7), fun k => Iff.rfl, ?_, ?_⟩, ?_, ?_⟩
          · exact (Below.heap_setCell w7 _ _ bt (fun e => hne e)).trans HT7.out
          · exact (blk_set HBO7.out 0 (.slice A7 n7 c7)).trans rfl
          · exact Kd.R_mono (Kd.R_far (p := ⟨bo, 0, none⟩) (Kd.R_mono (Kd.R_tight rfl HR7.out) (ok' := fun k => k ≠ bt ∧ k ≠ bo) (fun k e => ⟨fun e2 => HR7.out.1 k e.symm e2, fun e2 => nb7 (by rw [← e2, e])⟩)) (fun k hk => hk.2) (.slice A7 n7 c7)) (fun k hk => hk.1)
          · refine Held.setCell (Held.trans (Held.of_below (F := F) HB3.out) (Held.of_grown (F := F) HG7.out (fun k e => (HF.out k).2 (.inr (.inr e)))) (fun k hk => .inl hk)) (.slice A7 n7 c7) ((HF.out bo).2 (.inr (.inl rfl)))
          · rintro k (rfl | rfl | e)
            · exact .inl ((HF.out _).2 (.inl rfl))
            · exact .inl ((HF.out _).2 (.inr (.inl rfl)))
            · rcases HAT.out with h | ⟨b, h, hb⟩
              · exact .inl ((HF.out k).2 (.inr (.inr (by rw [← h]; exact e))))
              · rw [h] at e; injection e with e; subst e
                exact .inr (Nat.le_trans HB3.out.size hb)
      · simp [hlen] at hS
section
open Go.Sort Go.Shelf
def sortB (xs : List ByteArray) : List ByteArray := ((xs.map fun b => b.data.toList).mergeSort fun x y => decide (x ≤ y)).map fun l => ⟨l.toArray⟩
theorem sortB_len (xs : List ByteArray) : (sortB xs).length = xs.length := by
  unfold sortB; rw [List.length_map, (List.mergeSort_perm _ _).length_eq, List.length_map]
theorem putRow_str (W : World) (g : Nat) (ss : List (List UInt8)) : putRow encStr W g 0 ss.toArray = putRow Value.string W g 0 (ss.map fun l => (⟨l.toArray⟩ : ByteArray)).toArray := by
  have h : putCells encStr 0 ss.toArray = putCells Value.string 0 (ss.map fun l => (⟨l.toArray⟩ : ByteArray)).toArray := by
    funext c
    unfold putCells
    congr 1
    funext k x
    by_cases hk : k < ss.length
    · rw [if_pos (by simp; exact hk), if_pos (by simp; exact hk), getElem!_pos _ _ (by simpa using hk), getElem!_pos _ _ (by simpa using hk)]
      simp
    · rw [if_neg (by simp; omega), if_neg (by simp; omega)]
  unfold putRow
  rw [h]
theorem sort_string_calls {W : World} {base : Nat} {ok : Nat → Prop} {v : Value} {xs : List ByteArray} (h : Kd.R Kd.string 9 W base ok v xs) (hlen : xs.length < 4000000000) :
    Calls Tryz.prog 138 #[v] W fun e w' => e = .returned (.tuple #[]) ∧ Kd.R Kd.string 9 w' base ok v (sortB xs) ∧ (∀ w : World, Go.RowKit.Below w.heap.size w W → w.heap.size ≤ base → Go.RowKit.Below w.heap.size w w') ∧ W.heap.size ≤ w'.heap.size ∧ ∀ k, k < W.heap.size → some k ≠ v.ownBlock → w'.heap[k]? = W.heap[k]? := by
  rcases row_sorted (enc := Value.string) (h1 := fun _ => rfl) h with ⟨A, c, rfl, rfl⟩ | ⟨g, cap, rfl, hcap, hg, hlt, hH, hput⟩
  · refine (Tryz.slices_Sort_string_none A c W).mono ?_
    rintro e w' ⟨rfl, rfl⟩
    exact ⟨rfl, by rw [show sortB [] = [] by unfold sortB; rw [List.map_nil, List.mergeSort_nil]; rfl]; exact h, fun w hw _ => hw, Nat.le_refl _, fun k _ _ => rfl⟩
  · have hH' : Holds encStr W g 0 (xs.map fun b => b.data.toList).toArray := by
      intro j hj
      have hj' : j < xs.length := by simpa using hj
      have := hH j (by simpa using hj')
      rw [getElem!_pos _ _ (by simpa using hj')] at this ⊢
      simpa using this
    have hc := Tryz.slices_Sort_string g 0 cap (xs.map fun b => b.data.toList) W hH' hlt (by rw [List.length_map]; omega)
    rw [List.length_map] at hc
    refine hc.mono ?_
    rintro e w' ⟨rfl, n, os, rfl⟩
    rw [putRow_str]
    have hR := hput (sortB xs) xs.length n os (sortB_len xs) (by rw [sortB_len]; exact Nat.le_refl _)
    rw [List.take_of_length_le (by rw [sortB_len]; exact Nat.le_refl _)] at hR
    exact ⟨rfl, hR, fun w hw hb => sort_below _ g n _ os hw (Nat.le_trans hb hg), sortWorld_size _ W g n _ os, fun k hk hne => sort_other _ W g n k _ os hk (fun q => hne (by rw [q]; rfl))⟩
end
theorem stAll_mono (k : Nat) (w h : Int) (cs : List Int) : ∀ l, LeO (stAll k w h cs l) (stAll (k + 1) w h cs l)
  | [] => LeO.refl _
  | d :: ds => LeO.bind (impl_tray_isStill.mono _ _ _ _ _) (fun b => LeO.ite (stAll_mono k w h cs ds) (LeO.refl _))
theorem stStep_mono (k : Nat) (txt : ByteArray) (o : List ByteArray) (w h : Int) (cs : List Int) : LeO (stStep k txt o w h cs) (stStep (k + 1) txt o w h cs) :=
  LeO.bind (stAll_mono k w h cs _) (fun b => LeO.refl _)
def impl_stills.f (k : Nat) (a0 a1 : ByteArray) : Option (List ByteArray) := if a1.size < 65536 then (fillF k (fun o w h cs _ => stStep k a1 o w h cs) a0 []).bind fun o => if o.length < 4000000000 then some (sortB o) else none else none
theorem impl_stills.mono : ∀ a0 a1 k, LeO (impl_stills.f k a0 a1) (impl_stills.f (k + 1) a0 a1) := fun a0 a1 k =>
  LeO.ite (LeO.bind (fillF_mono (fun s w h c n => stStep_mono k a1 s w h c) a0 []) (fun _ => LeO.refl _)) (LeO.refl _)
set_option maxRecDepth 100000 in
set_option maxHeartbeats 8000000 in
theorem impl_stills.calls (k : Nat) (a0 a1 : ByteArray) (r : List ByteArray) (w : World) (h : impl_stills.f k a0 a1 = some r) :
    Calls Tryz.prog 96 #[.string a0, .string a1] w fun e w' => ∃ v0_ : Value, e = .returned v0_ ∧ Kd.R Kd.string 9 w' w.heap.size (fun _ => True) v0_ r ∧ Below w.heap.size w w' := by
  unfold impl_stills.f at h
  split at h
  case isFalse => cases h
  rename_i hT
  obtain ⟨o, ho, h⟩ := Option.bind_eq_some_iff.mp h
  split at h
  case isFalse => cases h
  rename_i hL
  obtain rfl : sortB o = r := Option.some.inj h
  have HO := am ho
  have HT0 := am hT
  have HL := am hL
  have HB := am (Below.refl w.heap.size w)
  clear h ho hT hL
  go_enter Tryz.func96, Tryz.ntmps96
  go_wp2_with (first
    | ((with_reducible refine gate_dst (N := 3) rfl ?_); refine box_event ?hg (N := 3) ?hd (cs := #[.string a1]) (t := 9) ?hr ?_; (case hd => rfl); (case hg => rfl); (case hr => first | (go_simp; done) | (go_simp; rfl)); intro b1 hg1 w1 hbox1 hb1; have HB1 := am hb1; have HG1 := am hg1; have X1 := am hbox1; clear hbox1 hb1 hg1)
    | ((with_reducible refine gate_dst (N := 6) rfl ?_); refine Kd.R_lit Kd.string _ 9 ?hg (N := 6) ?hd (xs := ([] : List ByteArray)) (inner := []) (ok := fun _ => True) (okp := fun _ => True) ?hr ?hp (fun _ hk => hk) trivial (Below.refl _ _) (Nat.le_refl _) (by simp) ?_; (case hd => rfl); (case hg => rfl); (case hr => first | (go_simp; done) | (go_simp; rfl)); (case hp => exact (Reps.none _ _)); intro v4 w4 ho hb hg_ hnew_; obtain ⟨A4, c4, rfl⟩ := Kd.R_slice ho; have HB4 := am (below_step HB1.out hb); have HR4 := am ho; have X4 := am ((hb.block b1 (blkx_lt X1.out)).trans X1.out); have HG4 := am (show w.heap.size ≤ w4.heap.size from HB4.out.size); clear ho hb hg_ hnew_)
    | (go_at_call 135; refine (fillings_calls (fun o w h cs _ => stStep k a1 o w h cs) (stInv a1 w.heap.size b1 w4.heap.size) 136 _ (enters_of Tryz.func136 (by kernel_rfl) rfl) (fun s F W h => stInv_lt h) (fun s F W w0 h0 A c cs n s' hi hr hc hs => st_closure k a1 HT0.out _ _ _ s F W w0 h0 A c cs n hr hc s' hi hs) k a0 [] o (fun k => k = b1 ∨ k = w4.heap.size ∨ (.slice A4 0 c4 : Value).ownBlock = some k) _ (fun s F W W' h hh => stInv_st h hh (fun k hk => hk.1)) ⟨by rw [HG1.out]; exact HB.out.size, HG4.out, (((Below.refl _ w4).alloc (Nat.le_refl _) _).block b1 (blkx_lt X4.out)).trans X4.out, .slice A4 0 c4, fun k => Iff.rfl, heap_alloc_new _ _, Kd.R_alloc (Kd.R_lower (Kd.R_mono (Kd.R_bound HR4.out) (fun k hk => by have h1 := hk.2.1; have h2 := blkx_lt X1.out; show k ≠ b1; intro e; subst e; exact absurd h1 (Nat.not_le.2 h2))) HB1.out.size) _⟩ HO.out).mono ?_; rintro e w6 ⟨rfl, F', hinv, hheld, hsub⟩; have HB6 := am (Held.below (HB4.out.alloc HG4.out _) hheld (Nat.le_trans HG4.out (by simp)) (fun k hk => by rcases hk with rfl | rfl | e <;> first | (rw [HG1.out]; exact HB.out.size) | exact HG4.out | exact Nat.le_trans HB1.out.size (Kd.R_base HR4.out k e))); obtain ⟨_, _, _, v6, _, hbo6, hR6⟩ := hinv; have z6 : w6.cell? ⟨w4.heap.size, 0, none⟩ = some v6 := (blk_cell hbo6 0).trans rfl; have HR6 := am hR6; have HBO6 := am hbo6; clear hheld hsub hbo6 hR6)
    | (go_at_call 138; refine (sort_string_calls HR6.out HL.out).mono ?_; rintro e w7 ⟨rfl, hR7, hb7, hs7, hk7⟩; have HB7 := am (hb7 w HB6.out (Nat.le_refl _)); have hbo7 : w7.heap[w4.heap.size]? = _ := (hk7 _ (blkx_lt HBO6.out) (Kd.R_ne HR6.out HBO6.out (by decide))).trans HBO6.out; have z7 : w7.cell? ⟨w4.heap.size, 0, none⟩ = some v6 := (blk_cell hbo7 0).trans rfl; have HR7 := am hR7; clear hR7 hb7 hs7 hk7 hbo7))
  go_ret
  exact ⟨_, rfl, Kd.R_mono HR7.out (fun _ _ => trivial), HB7.out⟩
end Go.Proofs.YtdffgeoegdkiaaaGreatDoor.F

namespace Go.Proofs.YtdffgeoegdkiaaaGreatDoor.F
open Go.Proofs.YtdffgeoegdkiaaaGreatDoor
open Go.RowKit Go.Proofs.YtdffgeoegdkiaaaGreatDoorW.PrintWords Go.Proofs.YtdffgeoegdkiaaaGreatDoorW.PrintLast Go.Proofs.YtdffgeoegdkiaaaGreatDoorW.PrintMore
attribute [local go_sem] max2_int min2_int max_two min_two max_three min_three max_four min_four
mutual
def spec_cnAllStill.l0 : Nat → Int → ByteArray → List ByteArray → Int → Int → Int → List Int → Option (List ByteArray)
 | 0, _, _, _, _, _, _, _ => none
 | k + 1, x1, x2, x7, x8, x102000, x102001, x102002 => if 0 ≤ x1 then (if x8 < (shl .i64 1 x1) then ((spec_cnFill.f k x102000 x102001 x102002 x8).bind fun bt102 => (spec_cnAllStill.l1 k x1 x2 x7 x8 true 0 x102000 x102001 x102002 bt102.1 bt102.2.1 bt102.2.2)) else (some x7)) else (none)
def spec_cnAllStill.l1 : Nat → Int → ByteArray → List ByteArray → Int → Bool → Int → Int → Int → List Int → Int → Int → List Int → Option (List ByteArray)
 | 0, _, _, _, _, _, _, _, _, _, _, _, _ => none
 | k + 1, x1, x2, x7, x8, x10, x11, x102000, x102001, x102002, x108000, x108001, x108002 => if x11 < (x2.size : Int) then (spec_cnAllStill.j2 k x1 x2 x7 x8 x10 x11 x10 x102000 x102001 x102002 x108000 x108001 x108002) else (spec_cnAllStill.j2 k x1 x2 x7 x8 x10 x11 false x102000 x102001 x102002 x108000 x108001 x108002)
def spec_cnAllStill.j2 : Nat → Int → ByteArray → List ByteArray → Int → Bool → Int → Bool → Int → Int → List Int → Int → Int → List Int → Option (List ByteArray)
 | 0, _, _, _, _, _, _, _, _, _, _, _, _, _ => none
 | k + 1, x1, x2, x7, x8, x10, x11, x29, x102000, x102001, x102002, x108000, x108001, x108002 => if x29 = true then (if 0 ≤ x11 then (if x11 ≤ (wrap64 (x11 + 1)) then (if (wrap64 (x11 + 1)) ≤ (x2.size : Int) then ((spec_tiDir.f k (x2.extract (x11 : Int).toNat ((wrap64 (x11 + 1)) : Int).toNat)).bind fun t112 => ((spec_tiMoves.f k x108000 x108001 x108002 t112).bind fun t113 => (spec_cnAllStill.l2 k x1 x2 x7 x8 x10 x11 t113 (t113.length : Int) 0 x102000 x102001 x102002 x108000 x108001 x108002))) else (none)) else (none)) else (none)) else (if x10 = true then ((spec_tyText.f k x108000 x108001 x108002).bind fun t108 => (if x7.length < 8796093022208 then (spec_cnAllStill.l0 k x1 x2 (x7 ++ [t108]) (wrap64 (x8 + 1)) x102000 x102001 x102002) else (none))) else (spec_cnAllStill.l0 k x1 x2 x7 (wrap64 (x8 + 1)) x102000 x102001 x102002))
def spec_cnAllStill.l2 : Nat → Int → ByteArray → List ByteArray → Int → Bool → Int → List Int → Int → Int → Int → Int → List Int → Int → Int → List Int → Option (List ByteArray)
 | 0, _, _, _, _, _, _, _, _, _, _, _, _, _, _, _ => none
 | k + 1, x1, x2, x7, x8, x10, x11, x39, x40, x41, x102000, x102001, x102002, x108000, x108001, x108002 => if x41 < x40 then (if 0 ≤ x41 then (if x41 < (x39.length : Int) then (if x10 = true then (spec_cnAllStill.l2 k x1 x2 x7 x8 ((rd x39 x41) == 0) x11 x39 x40 (wrap64 (x41 + 1)) x102000 x102001 x102002 x108000 x108001 x108002) else (spec_cnAllStill.l2 k x1 x2 x7 x8 false x11 x39 x40 (wrap64 (x41 + 1)) x102000 x102001 x102002 x108000 x108001 x108002)) else (none)) else (none)) else (spec_cnAllStill.l1 k x1 x2 x7 x8 x10 (wrap64 (x11 + 1)) x102000 x102001 x102002 x108000 x108001 x108002)
end
def spec_cnAllStill.f (k : Nat) (a0_0 : Int) (a0_1 : Int) (l0_2 : List Int) (a1 : Int) (a2 : ByteArray) : Option (List ByteArray) := spec_cnAllStill.l0 k a1 a2 ([] : List ByteArray) 0 a0_0 a0_1 l0_2
theorem spec_cnAllStill.mono_l : ∀ k, (∀ y0 y1 y2 y3 y4 y5 y6, LeO (spec_cnAllStill.l0 k y0 y1 y2 y3 y4 y5 y6) (spec_cnAllStill.l0 (k + 1) y0 y1 y2 y3 y4 y5 y6)) ∧ (∀ y0 y1 y2 y3 y4 y5 y6 y7 y8 y9 y10 y11, LeO (spec_cnAllStill.l1 k y0 y1 y2 y3 y4 y5 y6 y7 y8 y9 y10 y11) (spec_cnAllStill.l1 (k + 1) y0 y1 y2 y3 y4 y5 y6 y7 y8 y9 y10 y11)) ∧ (∀ y0 y1 y2 y3 y4 y5 y6 y7 y8 y9 y10 y11 y12, LeO (spec_cnAllStill.j2 k y0 y1 y2 y3 y4 y5 y6 y7 y8 y9 y10 y11 y12) (spec_cnAllStill.j2 (k + 1) y0 y1 y2 y3 y4 y5 y6 y7 y8 y9 y10 y11 y12)) ∧ (∀ y0 y1 y2 y3 y4 y5 y6 y7 y8 y9 y10 y11 y12 y13 y14, LeO (spec_cnAllStill.l2 k y0 y1 y2 y3 y4 y5 y6 y7 y8 y9 y10 y11 y12 y13 y14) (spec_cnAllStill.l2 (k + 1) y0 y1 y2 y3 y4 y5 y6 y7 y8 y9 y10 y11 y12 y13 y14))
 | 0 => ⟨fun _ _ _ _ _ _ _ r h => by simp [spec_cnAllStill.l0] at h, fun _ _ _ _ _ _ _ _ _ _ _ _ r h => by simp [spec_cnAllStill.l1] at h, fun _ _ _ _ _ _ _ _ _ _ _ _ _ r h => by simp [spec_cnAllStill.j2] at h, fun _ _ _ _ _ _ _ _ _ _ _ _ _ _ _ r h => by simp [spec_cnAllStill.l2] at h⟩
 | k + 1 => by
  obtain ⟨ih0, ih1, ih2, ih3⟩ := spec_cnAllStill.mono_l k
  refine ⟨?_, ?_, ?_, ?_⟩
  ·intro y0 y1 y2 y3 y4 y5 y6
   unfold spec_cnAllStill.l0
   have im0 := @spec_cnFill.mono; have im1 := @spec_tiDir.mono; have im2 := @spec_tiMoves.mono; have im3 := @spec_tyText.mono; exact mo
  ·intro y0 y1 y2 y3 y4 y5 y6 y7 y8 y9 y10 y11
   unfold spec_cnAllStill.l1
   have im0 := @spec_cnFill.mono; have im1 := @spec_tiDir.mono; have im2 := @spec_tiMoves.mono; have im3 := @spec_tyText.mono; exact mo
  ·intro y0 y1 y2 y3 y4 y5 y6 y7 y8 y9 y10 y11 y12
   unfold spec_cnAllStill.j2
   have im0 := @spec_cnFill.mono; have im1 := @spec_tiDir.mono; have im2 := @spec_tiMoves.mono; have im3 := @spec_tyText.mono; exact mo
  ·intro y0 y1 y2 y3 y4 y5 y6 y7 y8 y9 y10 y11 y12 y13 y14
   unfold spec_cnAllStill.l2
   have im0 := @spec_cnFill.mono; have im1 := @spec_tiDir.mono; have im2 := @spec_tiMoves.mono; have im3 := @spec_tyText.mono; exact mo
theorem spec_cnAllStill.mono : ∀ a0 a1 a2 a3 a4 k, LeO (spec_cnAllStill.f k a0 a1 a2 a3 a4) (spec_cnAllStill.f (k + 1) a0 a1 a2 a3 a4) := by
 intro a0 a1 a2 a3 a4 k
 obtain ⟨ih0, ih1, ih2, ih3⟩ := spec_cnAllStill.mono_l k
 unfold spec_cnAllStill.f
 have im0 := @spec_cnFill.mono; have im1 := @spec_tiDir.mono; have im2 := @spec_tiMoves.mono; have im3 := @spec_tyText.mono; exact mo
def spec_cnAllStill.T10 : Bool × List (List Nat × List Nat) := (true, [([], []), ([], []), ([], []), ([], []), ([3], [3]), ([1, 2, 4], [1, 2, 4]), ([5], [5]), ([0, 6, 6], [0, 6]), ([7], [7]), ([], [])])
def spec_cnAllStill.B10 : List Nat := [0, 0, 0, 0, 8, 30, 62, 127, 255, 0]
theorem spec_cnAllStill.tab10 : rtab .any (opsOf Tryz.f93 10) = spec_cnAllStill.T10 := by kernel_rfl
theorem spec_cnAllStill.bits10 : waitsOk spec_cnAllStill.T10.2 spec_cnAllStill.B10 = true := by kernel_rfl
set_option maxHeartbeats 8000000 in
set_option maxRecDepth 100000 in
theorem spec_cnAllStill.calls (k : Nat) (a0_0 : Int) (a0_1 : Int) (A0_2 : Option Addr) (c0_2 : Nat) (l0_2 : List Int) (a1 : Int) (a2 : ByteArray) (r : List ByteArray) (w : World) (hr0_2 : Kd.C (Kd.int .u8) w A0_2 l0_2.length l0_2) (hc0_2 : l0_2.length ≤ c0_2) (h : spec_cnAllStill.f k a0_0 a0_1 l0_2 a1 a2 = some r) :
  Calls Tryz.prog 93 #[.agg #[.int .i64 a0_0, .int .i64 a0_1, .slice A0_2 l0_2.length c0_2], .int .i64 a1, .string a2] w fun e w' => ∃ v0_ : Value, e = .returned (v0_) ∧ Kd.R Kd.string 9 w' w.heap.size (fun _ => True) v0_ r ∧ Below w.heap.size w w' := by
 have hu62 := Tryz.underlying62
 have HR0_2 := am hr0_2
 have HC0_2 := am hc0_2
 clear hr0_2 hc0_2
 have HB := am (Below.refl w.heap.size w)
 have H : (spec_cnAllStill.l0 k a1 a2 ([] : List ByteArray) 0 a0_0 a0_1 l0_2) = some r := h
 clear h
 have H' := am H
 clear H
 go_enter Tryz.func93, Tryz.ntmps93
 go_wp2_with (first | ((with_reducible refine gate_dst (N := 3) rfl ?_); refine box_event ?hg (N := 3) ?hd (cs := #[.int .i64 a0_0, .int .i64 a0_1, .slice A0_2 l0_2.length c0_2]) (t := 62) ?hr ?_; (case hd => rfl); (case hg => rfl); (case hr => exact aq19); intro gb101 hg w4 hbox hb; have n0_ := am (below_step aq1 hb); have n1_ := am (hbox); have n2_ := am ((by rw [hg]; exact (below_size aq1) : w.heap.size ≤ gb101)); have n3_ := am ((by rw [hg]; exact (below_size aq1) : w.heap.size ≤ gb101)); clear HB; have HB := n0_; have BK101 := n1_; have GW101 := n2_; have GE101 := n3_; clear n0_ n1_ n2_ n3_; clear hb hbox hg))
 go_loopg [7, 8] k (fun kq v7 v8 w' => ∃ (x7_1 : List ByteArray) (x8_1 : Int), v8 = .int .i64 x8_1 ∧ Aside0 (spec_cnAllStill.l0 kq a1 a2 x7_1 x8_1 a0_0 a0_1 l0_2 = some r) ∧ Aside0 (kq ≤ k) ∧ Aside0 (Kd.R Kd.string 9 w' w.heap.size (fun _ => True) v7 x7_1) ∧ Aside0 (w'.heap[gb101]? = some (.cells #[.int .i64 a0_0, .int .i64 a0_1, (.slice A0_2 l0_2.length c0_2)] 62 (0, 0))) ∧ Aside0 (Below w.heap.size w w'))
 case atStart => exact ⟨(([] : List ByteArray)), (0), aq6, H', ⟨Nat.le_refl _⟩, ⟨aq17⟩, ⟨aq2⟩, ⟨aq0⟩⟩
 case round =>
  clear H'
  try clear p2
  obtain ⟨x7_1, x8_1, rfl, HA, HK1, HO_7, BK101, HB⟩ := hrel
  cases gk with
  | zero => exact absurd HA.out (by simp [spec_cnAllStill.l0])
  | succ k1 =>
   have H := HA.out
   clear HA
   simp only [spec_cnAllStill.l0] at H
   by_cases c5 : 0 ≤ a1
   ·rw [if_pos c5] at H
    have c5b0 := eq_true c5
    have c5b1 := decide_eq_true c5
    clear c5
    obtain ⟨ji6, hji6⟩ : ∃ j_ : Int, (shl .i64 1 a1) = j_ := ⟨_, rfl⟩
    first | rw [hji6] at H | simp only [hji6] at H
    have hji6_ : (IntKind.i64.wrap (1 * 2 ^ min a1.toNat 64)) = ji6 := hji6
    have hji6z : a1 ≤ 64 → (IntKind.i64.wrap (1 * 2 ^ a1.toNat)) = ji6 := shl_small hji6
    have hji6u : (IntKind.i64.wrap (2 ^ min a1.toNat 64)) = ji6 := by have h_ := hji6_; rw [Int.one_mul] at h_; exact h_
    have hji6v : a1 ≤ 64 → (IntKind.i64.wrap (2 ^ a1.toNat)) = ji6 := fun hle_ => by have h_ := hji6z hle_; rw [Int.one_mul] at h_; exact h_
    have hji6y : (wrap64 (1 * 2 ^ min a1.toNat 64)) = ji6 := (i64_w _).symm.trans hji6_
    have hji6x : a1 ≤ 64 → (wrap64 (1 * 2 ^ a1.toNat)) = ji6 := fun h_ => (i64_w _).symm.trans (hji6z h_)
    by_cases c7 : x8_1 < (ji6)
    ·rw [if_pos c7] at H
     have c7b0 := decide_eq_true c7
     clear c7
     replace H := Option.bind_eq_some_iff.mp H
     obtain ⟨⟨t102, t103, t104⟩, A80, H⟩ := H
     replace H : (spec_cnAllStill.l1 k1 a1 a2 x7_1 x8_1 true 0 a0_0 a0_1 l0_2 t102 t103 t104) = some r := H
     have A8 := am A80
     clear A80
     have H' := am H
     clear H
     obtain ⟨hcz9_0, hcz9_1, hcz9_2, hfz9_0, hfz9_1, hfz9_2⟩ := blk3_ BK101.out
     go_wp2_with (first | ((with_reducible refine gate_callee (f := 132) rfl ?_); refine goesL_ (some 22) rfl rfl Tryz.func132 (by kernel_rfl) rfl #[.agg #[.int .i64 a0_0, .int .i64 a0_1, .slice A0_2 l0_2.length c0_2], .int .i64 x8_1] rfl aq4 ?_; (with_reducible refine (spec_cnFill.calls k1 a0_0 a0_1 _ _ l0_2 x8_1 t102 t103 t104 _ ?side1 ?side2 A8.out).mono ?_); (case side1 => exact aq10); (case side2 => exact HC0_2.out); rintro e w10 ⟨v105, rfl, ho0, hb⟩; refine ⟨_, rfl, ?_⟩; have n0_ := am (Kd.R_below aq16 hb); have n1_ := am (Kd.R_lower ho0 (below_size aq0)); have n2_ := am (blk_below (g := gb101) (o := .cells #[.int .i64 a0_0, .int .i64 a0_1, .slice A0_2 l0_2.length c0_2] 62 (0, 0)) aq2 hb); have n3_ := am (below_step aq0 hb); clear HO_7; clear BK101; clear HB; have HO_7 := n0_; have HO106 := n1_; have BK101 := n2_; have HB := n3_; clear n0_ n1_ n2_ n3_; (try clear hb); (try clear hb2); (try clear hk); (try clear hi); (try clear ho0)) | ((with_reducible refine gate_dst (N := 9) rfl ?_); refine box_event ?hg (N := 9) ?hd (cs := #[.int .i64 0, .int .i64 0, .slice none 0 0]) (t := 62) ?hr ?_; (case hd => rfl); (case hg => rfl); (case hr => exact aq19); intro gb107 hg w11 hbox hb; have n0_ := am (Kd.R_below aq16 hb); have n1_ := am (Kd.R_below aq40 hb); have n2_ := am (blk_below (g := gb101) (o := .cells #[.int .i64 a0_0, .int .i64 a0_1, .slice A0_2 l0_2.length c0_2] 62 (0, 0)) aq2 hb); have n3_ := am (below_step aq0 hb); have n4_ := am (hbox); have n5_ := am ((by rw [hg]; exact (below_size aq0) : w.heap.size ≤ gb107)); have n6_ := am ((by rw [hg]; exact (below_size aq0) : w.heap.size ≤ gb107)); have n7_ := am ((by rw [hg]; exact Nat.ne_of_lt (blk_lt (g := gb101) (o := .cells #[.int .i64 a0_0, .int .i64 a0_1, .slice A0_2 l0_2.length c0_2] 62 (0, 0)) aq2) : gb101 ≠ gb107)); have n8_ := am ((by rw [hg]; exact Nat.ne_of_gt (blk_lt (g := gb101) (o := .cells #[.int .i64 a0_0, .int .i64 a0_1, .slice A0_2 l0_2.length c0_2] 62 (0, 0)) aq2) : gb107 ≠ gb101)); clear HO_7; clear HO106; clear BK101; clear HB; have HO_7 := n0_; have HO106 := n1_; have BK101 := n2_; have HB := n3_; have BK107 := n4_; have GW107 := n5_; have GE107 := n6_; have NB101_107 := n7_; have NB107_101 := n8_; clear n0_ n1_ n2_ n3_ n4_ n5_ n6_ n7_ n8_; clear hb hbox hg; have hnb12 := NB107_101.out; have hnc12 := NB101_107.out; obtain ⟨hcz13_0, hcz13_1, hcz13_2, hfz13_0, hfz13_1, hfz13_2⟩ := blk3_ BK107.out; obtain ⟨Ao14, co14, eo14⟩ := Kd.R_slice HO106.out; subst eo14))
     go_loopg [10, 11] k1 (fun kq v10 v11 w' => ∃ (x10_2 : Bool) (x11_2 : Int), v10 = .bool x10_2 ∧ v11 = .int .i64 x11_2 ∧ Aside0 (spec_cnAllStill.l1 kq a1 a2 x7_1 x8_1 x10_2 x11_2 a0_0 a0_1 l0_2 t102 t103 t104 = some r) ∧ Aside0 (kq ≤ k1) ∧ Aside0 (Kd.R Kd.string 9 w' w.heap.size (fun _ => True) u7 x7_1) ∧ Aside0 (Kd.R (Kd.int .u8) 5 w' w.heap.size (fun _ => True) (.slice Ao14 t104.length co14) t104) ∧ Aside0 (w'.heap[gb101]? = some (.cells #[.int .i64 a0_0, .int .i64 a0_1, (.slice A0_2 l0_2.length c0_2)] 62 (0, 0))) ∧ Aside0 (w'.heap[gb107]? = some (.cells #[.int .i64 t102, .int .i64 t103, (.slice Ao14 t104.length co14)] 62 (0, 0))) ∧ Aside0 (Below w.heap.size w w'))
     case atStart => exact ⟨(true), (0), aq6, aq6, H', ⟨Nat.le_refl _⟩, ⟨by (with_reducible repeat (first | apply Kd.R_alloc | apply Kd.R_drewN | apply Kd.R_drew)); exact Kd.R_mono (Kd.R_far (p := ⟨gb107, 2, none⟩) (Kd.R_far (p := ⟨gb107, 1, none⟩) (Kd.R_far (p := ⟨gb107, 0, none⟩) (Kd.R_types HO_7.out BK107.out (by decide)) (fun _ hk => hk.2) (.int .i64 t102)) (fun _ hk => hk.2) (.int .i64 t103)) (fun _ hk => hk.2) (.slice Ao14 t104.length co14)) (fun _ hk => trivial)⟩, ⟨by (with_reducible repeat (first | apply Kd.R_alloc | apply Kd.R_drewN | apply Kd.R_drew)); exact Kd.R_mono (Kd.R_far (p := ⟨gb107, 2, none⟩) (Kd.R_far (p := ⟨gb107, 1, none⟩) (Kd.R_far (p := ⟨gb107, 0, none⟩) (Kd.R_types HO106.out BK107.out (by decide)) (fun _ hk => hk.2) (.int .i64 t102)) (fun _ hk => hk.2) (.int .i64 t103)) (fun _ hk => hk.2) (.slice Ao14 t104.length co14)) (fun _ hk => trivial)⟩, ⟨by (with_reducible repeat (first | refine blk_drewN ?_ _ | refine blk_drew ?_ | refine blk_alloc ?_ _)); refine blk_far ?_ NB101_107.out _; (with_reducible repeat (first | refine blk_drewN ?_ _ | refine blk_drew ?_ | refine blk_alloc ?_ _)); refine blk_far ?_ NB101_107.out _; (with_reducible repeat (first | refine blk_drewN ?_ _ | refine blk_drew ?_ | refine blk_alloc ?_ _)); refine blk_far ?_ NB101_107.out _; (with_reducible repeat (first | refine blk_drewN ?_ _ | refine blk_drew ?_ | refine blk_alloc ?_ _)); exact BK101.out⟩, ⟨by (with_reducible repeat (first | refine blk_drewN ?_ _ | refine blk_drew ?_ | refine blk_alloc ?_ _)); refine blk_put (cs := #[.int .i64 t102, .int .i64 t103, .slice none 0 0]) ?_ 2 _ rfl; (with_reducible repeat (first | refine blk_drewN ?_ _ | refine blk_drew ?_ | refine blk_alloc ?_ _)); refine blk_put (cs := #[.int .i64 t102, .int .i64 0, .slice none 0 0]) ?_ 1 _ rfl; (with_reducible repeat (first | refine blk_drewN ?_ _ | refine blk_drew ?_ | refine blk_alloc ?_ _)); refine blk_put (cs := #[.int .i64 0, .int .i64 0, .slice none 0 0]) ?_ 0 _ rfl; (with_reducible repeat (first | refine blk_drewN ?_ _ | refine blk_drew ?_ | refine blk_alloc ?_ _)); exact BK107.out⟩, ⟨aq13⟩⟩
     case round =>
      clear H'
      try clear c1
      try clear p2
      try clear c5
      try clear c5b0
      try clear c5b1
      try clear p6
      try clear c7
      try clear c7b0
      try clear c9
      try clear c12
      try clear c13
      try clear hcz13_0
      try clear hcz13_1
      try clear hcz13_2
      try clear hcz9_0
      try clear hcz9_1
      try clear hcz9_2
      try clear hfz13_0
      try clear hfz13_1
      try clear hfz13_2
      try clear hfz9_0
      try clear hfz9_1
      try clear hfz9_2
      try clear p2
      obtain ⟨x10_2, x11_2, rfl, rfl, HA, HK2, HO_7, HO_108002, BK101, BK107, HB⟩ := hrel
      cases gk with
      | zero => exact absurd HA.out (by simp [spec_cnAllStill.l1])
      | succ k2 =>
       have H := HA.out
       clear HA
       simp only [spec_cnAllStill.l1] at H
       have HC15 := am H
       clear H
       go_upto_region 8 with (fail)
       go_cut [29] (fun v29 wc => ∃ (kq : Nat) (x29_14 : Bool), v29 = .bool x29_14 ∧ Aside0 (spec_cnAllStill.j2 kq a1 a2 x7_1 x8_1 x10_2 x11_2 x29_14 a0_0 a0_1 l0_2 t102 t103 t104 = some r) ∧ Aside0 (kq ≤ k2) ∧ Aside0 (Kd.R Kd.string 9 wc w.heap.size (fun _ => True) u7 x7_1) ∧ Aside0 (Kd.R (Kd.int .u8) 5 wc w.heap.size (fun _ => True) (.slice Ao14 t104.length co14) t104) ∧ Aside0 (wc.heap[gb101]? = some (.cells #[.int .i64 a0_0, .int .i64 a0_1, (.slice A0_2 l0_2.length c0_2)] 62 (0, 0))) ∧ Aside0 (wc.heap[gb107]? = some (.cells #[.int .i64 t102, .int .i64 t103, (.slice Ao14 t104.length co14)] 62 (0, 0))) ∧ Aside0 (Below w.heap.size w wc))
       case first =>
        have H := HC15.out
        clear HC15
        by_cases c16 : x11_2 < (a2.size : Int)
        ·rw [if_pos c16] at H
         have c16b0 := decide_eq_true c16
         clear c16
         (first | rw [c16b0] | (simp only [i64_w, i32_w]; rw [c16b0]) | skip)
         have H' := am H
         clear H
         go_wp2
         go_meet
         case rel => exact ⟨_, (x10_2), aq6, H', ⟨by have := HK1.out; have := HK2.out; first | omega | exact Nat.le_refl _⟩, ⟨aq16⟩, ⟨aq36⟩, ⟨aq2⟩, ⟨aq29⟩, ⟨aq13⟩⟩
        ·rw [if_neg c16] at H
         have c16b0 := decide_eq_false c16
         clear c16
         (first | rw [c16b0] | (simp only [i64_w, i32_w]; rw [c16b0]) | skip)
         have H' := am H
         clear H
         go_wp2
         go_meet
         case rel => exact ⟨_, (false), aq6, H', ⟨by have := HK1.out; have := HK2.out; first | omega | exact Nat.le_refl _⟩, ⟨aq16⟩, ⟨aq36⟩, ⟨aq2⟩, ⟨aq29⟩, ⟨aq13⟩⟩
       case rest =>
        clear HC15
        try clear c1
        try clear p2
        try clear c5
        try clear c5b0
        try clear c5b1
        try clear p6
        try clear c7
        try clear c7b0
        try clear c9
        try clear c12
        try clear c13
        try clear c16
        try clear c16b0
        try clear hcz13_0
        try clear hcz13_1
        try clear hcz13_2
        try clear hcz9_0
        try clear hcz9_1
        try clear hcz9_2
        try clear hfz13_0
        try clear hfz13_1
        try clear hfz13_2
        try clear hfz9_0
        try clear hfz9_1
        try clear hfz9_2
        try clear p2
        try clear p6
        obtain ⟨kq, x29_14, rfl, HA, HJ14, HO_7, HO_108002, BK101, BK107, HB⟩ := hcut
        cases kq with
        | zero => exact absurd HA.out (by simp [spec_cnAllStill.j2])
        | succ kj14 =>
         have H := HA.out
         clear HA
         simp only [spec_cnAllStill.j2] at H
         by_cases c17 : x29_14 = true
         ·subst c17
          rw [if_pos rfl] at H
          by_cases c18 : 0 ≤ x11_2
          ·rw [if_pos c18] at H
           have c18b0 := eq_true c18
           have c18b1 := decide_eq_true c18
           clear c18
           by_cases c19 : x11_2 ≤ (wrap64 (x11_2 + 1))
           ·rw [if_pos c19] at H
            have c19b0 := eq_true c19
            have c19b1 := decide_eq_true c19
            by_cases c20 : (wrap64 (x11_2 + 1)) ≤ (a2.size : Int)
            ·rw [if_pos c20] at H
             have c20b0 := eq_true c20
             have c20b1 := decide_eq_true c20
             obtain ⟨t112, A210, H⟩ := Option.bind_eq_some_iff.mp H
             have A21 := am A210
             clear A210
             obtain ⟨t113, A220, H⟩ := Option.bind_eq_some_iff.mp H
             have A22 := am A220
             clear A220
             have H' := am H
             clear H
             try go_wp2
             have n0_ := am (Kd.R_drew HO_7.out)
             have n1_ := am (Kd.R_drew HO_108002.out)
             have n2_ := am (blk_drew BK101.out)
             have n3_ := am (blk_drew BK107.out)
             have n4_ := am (below_drew1 HB.out)
             clear HO_7
             clear HO_108002
             clear BK101
             clear BK107
             clear HB
             have HO_7 := n0_
             have HO_108002 := n1_
             have BK101 := n2_
             have BK107 := n3_
             have HB := n4_
             clear n0_ n1_ n2_ n3_ n4_
             refine start_ (n := 10) (S := fun w' => w'.cell? ⟨gb107, 0, none⟩ = some (.int .i64 t102) ∧ w'.cell? ⟨gb107, 1, none⟩ = some (.int .i64 t103) ∧ w'.cell? ⟨gb107, 2, none⟩ = some (.slice Ao14 t104.length co14)) (ds := []) #[false, false, false, false, false, false, false, false, false, false] (by kernel_rfl) rfl rfl ⟨(blk_cell BK107.out 0).trans rfl, (blk_cell BK107.out 1).trans rfl, (blk_cell BK107.out 2).trans rfl⟩ (fun hHeld => ?_); refine with_tabW spec_cnAllStill.tab10 spec_cnAllStill.bits10 (fun HT_ HW_ => ?_)
             generalize wc.drew = w23 at HO_7 HO_108002 BK101 BK107 HB hHeld ⊢
             refine pure_ (i := 1) (N := some 33) (v := ?_) (a' := ?_) (bm 10 2) rfl rfl (any_of HT_.out (by kernel_rfl)) (fun _ _ _ h => h) (Or.inl ⟨by rfl, ?_⟩) ?_ ?_
             rotate_left
             ·intro w'
              go_simp
              with_reducible rfl
             rotate_left
             ·simp only [Act.put, ac_]
              rfl
             refine pure_ (i := 2) (N := some 34) (v := ?_) (a' := ?_) (bm 10 6) rfl rfl (any_of HT_.out (by kernel_rfl)) (fun _ _ _ h => h) (Or.inl ⟨by rfl, ?_⟩) ?_ ?_
             rotate_left
             ·intro w'
              go_simp
              with_reducible rfl
             rotate_left
             ·simp only [Act.put, ac_]
              rfl
             refine pure_ (i := 3) (N := some 35) (v := ?_) (a' := ?_) (bm 10 14) rfl rfl (any_of HT_.out (by kernel_rfl)) (fun _ _ _ h => h) (Or.inl ⟨by rfl, ?_⟩) ?_ ?_
             rotate_left
             ·intro w'
              go_simp
              with_reducible rfl
             rotate_left
             ·simp only [Act.put, ac_]
              rfl
             refine pure_ (i := 4) (N := some 36) (v := ?_) (a' := ?_) (bm 10 30) rfl rfl (any_of HT_.out (by kernel_rfl)) (fun _ _ _ h => h) (Or.inl ⟨by rfl, ?_⟩) ?_ ?_
             rotate_left
             ·intro w'
              go_simp
              with_reducible rfl
             rotate_left
             ·simp only [Act.put, ac_]
              rfl
             refine pure_ (i := 5) (N := some 37) (v := ?_) (a' := ?_) (bm 10 62) rfl rfl (any_of HT_.out (by kernel_rfl)) (fun _ _ _ h => h) (Or.inl ⟨by rfl, ?_⟩) ?_ ?_
             rotate_left
             ·intro w'
              go_simp
              with_reducible rfl
             rotate_left
             ·simp only [Act.put, ac_]
              rfl
             refine pure_ (i := 9) (N := some 41) (v := ?_) (a' := ?_) (bm 10 574) rfl rfl (any_of HT_.out (by kernel_rfl)) (fun _ _ _ h => h) (Or.inl ⟨by rfl, ?_⟩) ?_ ?_
             rotate_left
             ·intro w'
              go_simp
              with_reducible rfl
             rotate_left
             ·simp only [Act.put, ac_]
              rfl
             refine take_ (i := 0) (N := some 32) (v := ?_) (a' := ?_) (bm 10 575) rfl rfl (take_ofW HT_.out HW_.out (by kernel_rfl)) (fun _ _ _ h => h) (Or.inl ⟨by rfl, ?_⟩) hHeld ?_ ?_
             rotate_left
             ·rintro w' ⟨s0, s1, s2⟩
              go_simp
              with_reducible rfl
             rotate_left
             ·simp only [Act.put, ac_]
              rfl
             refine one_ (i := 6) (N := some 38) (bm 10 639) rfl rfl (one_of HT_.out (by kernel_rfl)) (by decide) (fun K hK => ?_)
             refine goes_ Tryz.func86 (by kernel_rfl) rfl #[.string (a2.extract (x11_2 : Int).toNat ((wrap64 (x11_2 + 1)) : Int).toNat)] (by rfl) rfl rfl aq4 ?_
             with_reducible refine (spec_tiDir.calls kj14 (a2.extract (x11_2 : Int).toNat ((wrap64 (x11_2 + 1)) : Int).toNat) t112 _ A21.out).mono ?_
             rintro e w' ⟨rfl, ⟨nd, rfl⟩⟩
             refine ⟨_, rfl, ?_⟩
             refine hK.out _ _ ⟨(blk_cell BK107.out 0).trans rfl, (blk_cell BK107.out 1).trans rfl, (blk_cell BK107.out 2).trans rfl⟩ (fun hHeld => ?_)
             clear hK K
             refine norm_ (a' := ?_) ?_ ?_
             rotate_left
             ·show Act.put _ (some 38) _ = _
              simp only [Act.put, ac_]
              rfl
             refine one_ (i := 7) (N := some 39) (bm 10 767) rfl rfl (one_of HT_.out (by kernel_rfl)) (by decide) (fun K hK => ?_)
             refine goes_ Tryz.func133 (by kernel_rfl) rfl #[.agg #[.int .i64 t102, .int .i64 t103, .slice Ao14 t104.length co14], .int .i64 t112] (by rfl) rfl rfl aq4 ?_
             with_reducible refine (spec_tiMoves.calls kj14 t102 t103 _ _ t104 t112 t113 _ ?side1 ?side2 A22.out).mono ?_
             (case side1 => exact aq85)
             (case side2 => exact (Kd.R_reads' HO_108002.out).2.1)
             rintro e w24 ⟨v114, rfl, ho0, hb⟩
             refine ⟨_, rfl, ?_⟩
             have n0_ := am (Kd.R_below aq16 hb)
             have n1_ := am (Kd.R_below aq36 hb)
             have n2_ := am (Kd.R_lower ho0 (below_size aq13))
             have n3_ := am (blk_below (g := gb101) (o := .cells #[.int .i64 a0_0, .int .i64 a0_1, .slice A0_2 l0_2.length c0_2] 62 (0, 0)) aq2 hb)
             have n4_ := am (blk_below (g := gb107) (o := .cells #[.int .i64 t102, .int .i64 t103, .slice Ao14 t104.length co14] 62 (0, 0)) aq29 hb)
             have n5_ := am (below_step aq13 hb)
             clear HO_7
             clear HO_108002
             clear BK101
             clear BK107
             clear HB
             have HO_7 := n0_
             have HO_108002 := n1_
             have HO115 := n2_
             have BK101 := n3_
             have BK107 := n4_
             have HB := n5_
             clear n0_ n1_ n2_ n3_ n4_ n5_
             (try clear hb)
             (try clear hb2)
             (try clear hk)
             (try clear hi)
             (try clear ho0)
             obtain ⟨Ao25, co25, eo25⟩ := Kd.R_slice HO115.out
             (first | subst eo25 | (injection eo25 with f1_ f2_ f3_; have f4_ := f1_.symm; have f5_ := f3_.symm; clear f1_ f2_ f3_; subst f4_; subst f5_))
             refine hK.out _ _ ⟨(blk_cell BK107.out 0).trans rfl, (blk_cell BK107.out 1).trans rfl, (blk_cell BK107.out 2).trans rfl⟩ (fun hHeld => ?_)
             clear hK K
             refine norm_ (a' := ?_) ?_ ?_
             rotate_left
             ·show Act.put _ (some 39) _ = _
              simp only [Act.put, ac_]
              rfl
             refine pure_ (i := 8) (N := some 40) (v := ?_) (a' := ?_) (bm 10 1023) rfl rfl (any_of HT_.out (by kernel_rfl)) (fun _ _ _ h => h) (Or.inl ⟨by rfl, ?_⟩) ?_ ?_
             rotate_left
             ·intro w'
              go_simp
              with_reducible rfl
             rotate_left
             ·simp only [Act.put, ac_]
              rfl
             refine done_ (done_of HT_.out (by kernel_rfl)) ?_
             try go_wp2
             go_loopg [10, 41] kj14 (fun kq v10 v41 w' => ∃ (x10_4 : Bool) (x41_4 : Int), v10 = .bool x10_4 ∧ v41 = .int .i64 x41_4 ∧ Aside0 (spec_cnAllStill.l2 kq a1 a2 x7_1 x8_1 x10_4 x11_2 t113 (t113.length : Int) x41_4 a0_0 a0_1 l0_2 t102 t103 t104 = some r) ∧ Aside0 (kq ≤ kj14) ∧ Aside0 (Kd.R Kd.string 9 w' w.heap.size (fun _ => True) u7 x7_1) ∧ Aside0 (Kd.R (Kd.int .i64) 3 w' w.heap.size (fun _ => True) (.slice Ao25 t113.length co25) t113) ∧ Aside0 (Kd.R (Kd.int .u8) 5 w' w.heap.size (fun _ => True) (.slice Ao14 t104.length co14) t104) ∧ Aside0 (w'.heap[gb101]? = some (.cells #[.int .i64 a0_0, .int .i64 a0_1, (.slice A0_2 l0_2.length c0_2)] 62 (0, 0))) ∧ Aside0 (w'.heap[gb107]? = some (.cells #[.int .i64 t102, .int .i64 t103, (.slice Ao14 t104.length co14)] 62 (0, 0))) ∧ Aside0 (Below w.heap.size w w'))
             case atStart => exact ⟨(x10_2), (0), aq6, aq6, H', ⟨Nat.le_refl _⟩, ⟨aq16⟩, ⟨by (with_reducible repeat (first | apply Kd.R_alloc | apply Kd.R_drewN | apply Kd.R_drew)); exact HO115.out⟩, ⟨aq36⟩, ⟨aq2⟩, ⟨aq29⟩, ⟨aq13⟩⟩
             case round =>
              clear H'
              try clear c1
              try clear c2
              try clear p2
              try clear c5
              try clear c5b0
              try clear c5b1
              try clear p6
              try clear c7
              try clear c7b0
              try clear c8
              try clear c9
              try clear c12
              try clear c13
              try clear c16
              try clear c16b0
              try clear c17
              try clear c18
              try clear c18b0
              try clear c18b1
              try clear c19
              try clear c19b0
              try clear c19b1
              try clear c20
              try clear c20b0
              try clear c20b1
              try clear hcz13_0
              try clear hcz13_1
              try clear hcz13_2
              try clear hcz9_0
              try clear hcz9_1
              try clear hcz9_2
              try clear hfz13_0
              try clear hfz13_1
              try clear hfz13_2
              try clear hfz9_0
              try clear hfz9_1
              try clear hfz9_2
              try clear p2
              try clear p6
              obtain ⟨x10_4, x41_4, rfl, rfl, HA, HK4, HO_7, HO_39, HO_108002, BK101, BK107, HB⟩ := hrel
              cases gk with
              | zero => exact absurd HA.out (by simp [spec_cnAllStill.l2])
              | succ k4 =>
               have H := HA.out
               clear HA
               simp only [spec_cnAllStill.l2] at H
               by_cases c26 : x41_4 < (t113.length : Int)
               ·rw [if_pos c26] at H
                have c26b0 := decide_eq_true c26
                clear c26
                by_cases c27 : 0 ≤ x41_4
                ·rw [if_pos c27] at H
                 have c27b0 := decide_eq_true c27
                 clear c27
                 by_cases c28 : x41_4 < (t113.length : Int)
                 ·rw [if_pos c28] at H
                  have c28b0 := decide_eq_true c28
                  clear c28
                  by_cases c29 : x10_4 = true
                  ·subst c29
                   rw [if_pos rfl] at H
                   have H' := am H
                   clear H
                   have p116 : 0 ≤ (x41_4 : Int) := of_decide_eq_true aq5
                   have q116 : x41_4 < (t113.length : Int) := of_decide_eq_true aq5
                   obtain ⟨ad116, e116, hx116_0⟩ := Kd.at_int (Kd.R_reads' HO_39.out).2.2 x41_4 p116 q116
                   cases e116
                   replace p116 := eq_true p116
                   replace q116 := eq_true q116
                   go_wp2
                   go_roundg k4
                   case measure => have := HK1.out; have := HK2.out; have := HJ14.out; have := HK4.out; omega
                   case rel => exact ⟨(((rd t113 x41_4) == 0)), (wrap64 (x41_4 + 1)), aq6, aq6, H', ⟨aq92⟩, ⟨aq16⟩, ⟨by (with_reducible repeat (first | apply Kd.R_alloc | apply Kd.R_drewN | apply Kd.R_drew)); exact HO_39.out⟩, ⟨aq36⟩, ⟨aq2⟩, ⟨aq29⟩, ⟨aq13⟩⟩
                  ·replace c29 := Bool.eq_false_iff.mpr c29
                   subst c29
                   rw [if_neg Bool.false_ne_true] at H
                   have H' := am H
                   clear H
                   have p116 : 0 ≤ (x41_4 : Int) := of_decide_eq_true aq5
                   have q116 : x41_4 < (t113.length : Int) := of_decide_eq_true aq5
                   obtain ⟨ad116, e116, hx116_0⟩ := Kd.at_int (Kd.R_reads' HO_39.out).2.2 x41_4 p116 q116
                   cases e116
                   replace p116 := eq_true p116
                   replace q116 := eq_true q116
                   go_wp2
                   go_roundg k4
                   case measure => have := HK1.out; have := HK2.out; have := HJ14.out; have := HK4.out; omega
                   case rel => exact ⟨(false), (wrap64 (x41_4 + 1)), aq6, aq6, H', ⟨aq92⟩, ⟨aq16⟩, ⟨by (with_reducible repeat (first | apply Kd.R_alloc | apply Kd.R_drewN | apply Kd.R_drew)); exact HO_39.out⟩, ⟨aq36⟩, ⟨aq2⟩, ⟨aq29⟩, ⟨aq13⟩⟩
                 ·rw [if_neg c28] at H
                  exact absurd H (by simp)
                ·rw [if_neg c27] at H
                 exact absurd H (by simp)
               ·rw [if_neg c26] at H
                have c26b0 := decide_eq_false c26
                clear c26
                have H' := am H
                clear H
                go_wp2
                go_roundg k4
                case measure => have := HK1.out; have := HK2.out; have := HJ14.out; have := HK4.out; omega
                case rel => exact ⟨(x10_4), (wrap64 (x11_2 + 1)), aq6, aq6, H', ⟨aq92⟩, ⟨aq16⟩, ⟨aq36⟩, ⟨aq2⟩, ⟨aq29⟩, ⟨aq13⟩⟩
            ·rw [if_neg c20] at H
             exact absurd H (by simp)
           ·rw [if_neg c19] at H
            exact absurd H (by simp)
          ·rw [if_neg c18] at H
           exact absurd H (by simp)
         ·replace c17 := Bool.eq_false_iff.mpr c17
          subst c17
          rw [if_neg Bool.false_ne_true] at H
          by_cases c30 : x10_2 = true
          ·subst c30
           rw [if_pos rfl] at H
           obtain ⟨t108, A310, H⟩ := Option.bind_eq_some_iff.mp H
           have A31 := am A310
           clear A310
           by_cases c32 : x7_1.length < 8796093022208
           ·rw [if_pos c32] at H
            have LMc32 := am c32
            clear c32
            obtain ⟨y109, hy_⟩ : ∃ y_ : List ByteArray, y_ = (x7_1 ++ [t108]) := ⟨_, rfl⟩
            replace H : (spec_cnAllStill.l0 kj14 a1 a2 y109 (wrap64 (x8_1 + 1)) a0_0 a0_1 l0_2) = some r := aq3
            have Ny109 := am hy_
            clear hy_
            have H' := am H
            clear H
            have hnb33 := NB107_101.out
            have hnc33 := NB101_107.out
            obtain ⟨hcz34_0, hcz34_1, hcz34_2, hfz34_0, hfz34_1, hfz34_2⟩ := blk3_ BK107.out
            go_wp2_with (first | ((with_reducible refine gate_callee (f := 87) rfl ?_); refine goesL_ (some 54) rfl rfl Tryz.func87 (by kernel_rfl) rfl #[.agg #[.int .i64 t102, .int .i64 t103, .slice Ao14 t104.length co14]] rfl aq4 ?_; (with_reducible refine (spec_tyText.calls kj14 t102 t103 _ _ t104 t108 _ ?side1 ?side2 A31.out).mono ?_); (case side1 => exact aq85); (case side2 => exact (Kd.R_reads' HO_108002.out).2.1); rintro e w35 ⟨rfl, hb⟩; refine ⟨_, rfl, ?_⟩; have n0_ := am (Kd.R_below aq16 hb); have n1_ := am (Kd.R_below aq36 hb); have n2_ := am (blk_below (g := gb101) (o := .cells #[.int .i64 a0_0, .int .i64 a0_1, .slice A0_2 l0_2.length c0_2] 62 (0, 0)) aq2 hb); have n3_ := am (blk_below (g := gb107) (o := .cells #[.int .i64 t102, .int .i64 t103, .slice Ao14 t104.length co14] 62 (0, 0)) aq29 hb); have n4_ := am (below_step aq13 hb); clear HO_7; clear HO_108002; clear BK101; clear BK107; clear HB; have HO_7 := n0_; have HO_108002 := n1_; have BK101 := n2_; have BK107 := n3_; have HB := n4_; clear n0_ n1_ n2_ n3_ n4_; (try clear hb); (try clear hb2); (try clear hk); (try clear hi)) | ((with_reducible refine gate_builtin (b := .append) (xs := #[.tmp 52, .tmp 55]) rfl ?_); at_builtin; refine Kd.R_append Kd.string (w0 := w) w.heap.size rfl (.tmp 52) (.tmp 55) 22 9 (.string ⟨#[]⟩) 16 rfl Tryz.underlying22 info9 rfl (by decide) (by omega) u7 x7_1 t108 [.string t108] (fun _ => True) (fun _ => False) rfl rfl ?aP (fun _ hk => hk.elim) ?aF ?aO ?aB ?aS ?aL ?_; (case aP => exact rfl); (case aB => exact aq13); (case aF => exact aq75); (case aO => exact aq16); (case aS => exact (below_size aq13)); (case aL => have := LMc32.out; omega); intro v110 w36 ho hb hg hat; rw [← Ny109.out] at ho; have n0_ := am (Kd.R_over' aq36 (Kd.R_typed aq16) (by decide) hg); have n1_ := am (blk_grown (g := gb101) (o := .cells #[.int .i64 a0_0, .int .i64 a0_1, .slice A0_2 l0_2.length c0_2] 62 (0, 0)) aq2 hg (Kd.R_ne HO_7.out BK101.out (by decide))); have n2_ := am (blk_grown (g := gb107) (o := .cells #[.int .i64 t102, .int .i64 t103, .slice Ao14 t104.length co14] 62 (0, 0)) aq29 hg (Kd.R_ne HO_7.out BK107.out (by decide))); have n3_ := am (hb); have n4_ := am (ho); clear HO_108002; clear BK101; clear BK107; clear HB; clear HO_7; have HO_108002 := n0_; have BK101 := n1_; have BK107 := n2_; have HB := n3_; have HO111 := n4_; clear n0_ n1_ n2_ n3_ n4_; clear ho hb hg hat))
            go_roundg kj14
            case measure => have := HK1.out; have := HK2.out; have := HJ14.out; omega
            case rel => exact ⟨(y109), (wrap64 (x8_1 + 1)), aq6, H', ⟨by have := HK1.out; have := HK2.out; have := HJ14.out; omega⟩, ⟨by (with_reducible repeat (first | apply Kd.R_alloc | apply Kd.R_drewN | apply Kd.R_drew)); exact HO111.out⟩, ⟨aq2⟩, ⟨aq13⟩⟩
           ·rw [if_neg c32] at H
            exact absurd H (by simp)
          ·replace c30 := Bool.eq_false_iff.mpr c30
           subst c30
           rw [if_neg Bool.false_ne_true] at H
           have H' := am H
           clear H
           go_wp2
           go_roundg kj14
           case measure => have := HK1.out; have := HK2.out; have := HJ14.out; omega
           case rel => exact ⟨(x7_1), (wrap64 (x8_1 + 1)), aq6, H', ⟨by have := HK1.out; have := HK2.out; have := HJ14.out; omega⟩, ⟨aq16⟩, ⟨aq2⟩, ⟨aq13⟩⟩
    ·rw [if_neg c7] at H
     have c7b0 := decide_eq_false c7
     clear c7
     obtain rfl := Option.some.inj H
     go_wp2
     go_ret
     exact ⟨_, by first | rfl | (simp [errW_none, errW_some] <;> rfl) | (simp only [← hji6]; first | rfl | (simp [errW_none, errW_some] <;> rfl)) | (simp [*, errW_none, errW_some] <;> rfl), aq16, aq0⟩
   ·rw [if_neg c5] at H
    exact absurd H (by simp)
end Go.Proofs.YtdffgeoegdkiaaaGreatDoor.F

namespace Go.Proofs.YtdffgeoegdkiaaaGreatDoor.F
open Go.RowKit Go.Proofs.YtdffgeoegdkiaaaGreatDoor Go.Proofs.YtdffgeoegdkiaaaGreatDoorW.PrintWords Go.Proofs.YtdffgeoegdkiaaaGreatDoorW.PrintMore
def openL (cs : List Int) : List Nat := (List.range cs.length).filter (openAt cs)
theorem open_l0 {cs : List Int} (hl : cs.length ≤ 1000) : ∀ (d i : Nat) (out : List Int), i + d = cs.length → out.length ≤ i → Ev (fun k => impl_tray_indices__impl_isOpen.l0 k out cs (cs.length : Int) i) (out ++ castsI ((List.range' i d).filter (openAt cs)))
  | 0, i, out, hi, ho => by
    rw [show castsI ((List.range' i 0).filter (openAt cs)) = [] from rfl, List.append_nil]
    exact Ev.step (fun k => by rw [impl_tray_indices__impl_isOpen.l0, if_neg (by omega)]) (Ev.now _)
  | d + 1, i, out, hi, ho => by
    have hW : wrap64 ((i : Int) + 1) = ((i + 1 : Nat) : Int) := by rw [w64 (by omega) (by omega)]; rfl
    have hop : impl_isOpen.f (rd cs (i : Int)) = some (openAt cs i) := by unfold rd; rw [Int.toNat_natCast]; rfl
    rw [List.range'_succ, List.filter_cons]
    by_cases hb : openAt cs i = true
    · rw [if_pos hb]
      have ih := open_l0 hl d (i + 1) (out ++ [(i : Int)]) (by omega) (by rw [List.length_append, List.length_singleton]; omega)
      rw [List.append_assoc] at ih
      refine Ev.step (fun k => ?_) ih
      rw [impl_tray_indices__impl_isOpen.l0, if_pos (by omega), if_pos (by omega), if_pos (by omega), hop, Option.bind_some, if_pos hb, if_pos (by omega), hW]
    · rw [if_neg hb]
      refine Ev.step (fun k => ?_) (open_l0 hl d (i + 1) out (by omega) (by omega))
      rw [impl_tray_indices__impl_isOpen.l0, if_pos (by omega), if_pos (by omega), if_pos (by omega), hop, Option.bind_some, if_neg hb, hW]
theorem open_ev (a b : Int) {cs : List Int} (hl : cs.length ≤ 1000) : Ev (fun k => impl_tray_indices__impl_isOpen.f k a b cs) (castsI (openL cs)) := by
  have := open_l0 hl cs.length 0 [] (by omega) (Nat.le_refl _)
  rw [List.nil_append, ← List.range_eq_range'] at this
  exact this
def fillC (cs : List Int) (n : Nat) : List Int := (flGo n (castsI (openL cs)) 0 (cs, 0)).1
theorem flGo_mem (n : Nat) : ∀ (l : List Int) (i : Nat) (s : List Int × Int), ∀ c ∈ (flGo n l i s).1, c ∈ s.1 ∨ c = 111
  | [], _, _, c, hc => .inl hc
  | k :: l, i, s, c, hc => by
    unfold flGo at hc
    rcases flGo_mem n l (i + 1) _ c hc with h | h
    · unfold flStep at h
      split at h
      · rcases List.mem_or_eq_of_mem_set h with h | h
        · exact .inl h
        · exact .inr h
      · exact .inl h
    · exact .inr h
theorem fillC_len (cs : List Int) (n : Nat) : (fillC cs n).length = cs.length := flGo_len n _ _ _
def bareC (cs : List Int) : Prop := ∀ c ∈ cs, c = 46 ∨ c = 35
theorem fillC_mem {cs : List Int} (hb : bareC cs) (n : Nat) : ∀ c ∈ fillC cs n, c = 46 ∨ c = 35 ∨ c = 111 := fun c hc => by
  rcases flGo_mem n _ _ _ c hc with h | h
  · rcases hb c h with h | h
    · exact .inl h
    · exact .inr (.inl h)
  · exact .inr (.inr h)
theorem fillC_V {w h : Nat} {cs : List Int} (v : VG w h cs) (hb : bareC cs) (n : Nat) : VG w h (fillC cs n) :=
  { w1 := v.w1, w7 := v.w7, h1 := v.h1, h7 := v.h7, len := by rw [fillC_len]; exact v.len, small := v.small,
    cell := fun c hc => by rcases fillC_mem hb n c hc with rfl | rfl | rfl <;> rfl,
    names := by
      rw [namesOk_iff]
      intro m h1 h2
      rw [List.count_eq_zero_of_not_mem (fun hm => by rcases fillC_mem hb n m hm with e | e | e <;> omega)]
      omega }
def halfG : Nat → List Int → List Int → List Int
  | _, [], s => s
  | p, k :: l, s => halfG (p / 2) l (if p % 2 = 1 then s.set k.toNat 111 else s)
theorem half_go (n : Nat) : ∀ (l : List Int) (j : Nat) (s : List Int × Int), (flGo n l j s).1 = halfG (n / 2 ^ j) l s.1
  | [], _, _ => rfl
  | k :: l, j, s => by
    unfold flGo halfG
    rw [half_go n l (j + 1), Nat.pow_succ, ← Nat.div_div_eq_div_mul]
    congr 1
    unfold flStep
    split <;> rfl
theorem fill_l0 {cs : List Int} (hl : cs.length ≤ 1000) (hb : bareC cs) (a b : Int) : ∀ (d i p : Nat) (out : List Int), i + d = cs.length → out.length = cs.length → p ≤ 1000000 → Ev (fun k => spec_cnFill.l0 k (p : Int) cs (cs.length : Int) i a b out) (a, b, halfG p (castsI ((List.range' i d).filter (openAt cs))) out)
  | 0, i, p, out, hi, ho, hp => Ev.step (fun k => by rw [spec_cnFill.l0, if_neg (by omega)]; rfl) (Ev.now _)
  | d + 1, i, p, out, hi, ho, hp => by
    have hil : i < cs.length := by omega
    have hW : wrap64 ((i : Int) + 1) = ((i + 1 : Nat) : Int) := by rw [w64 (by omega) (by omega)]; rfl
    have hrd : rd cs (i : Int) = cs.getD i 0 := by unfold rd; rw [Int.toNat_natCast]
    have hc := hb (cs.getD i 0) (by rw [List.getD_eq_getElem?_getD, List.getElem?_eq_getElem hil]; exact List.getElem_mem hil)
    have hdv : wrap64 (Int.tdiv (p : Int) 2) = ((p / 2 : Nat) : Int) := by rw [Int.tdiv_eq_ediv_of_nonneg (by omega), w64 (by omega) (by omega)]; omega
    have hmd : Int.tmod (p : Int) 2 = ((p % 2 : Nat) : Int) := by rw [Int.tmod_eq_emod_of_nonneg (by omega)]; omega
    rw [List.range'_succ, List.filter_cons]
    by_cases hop : openAt cs i = true
    · have h46 : cs.getD i 0 = 46 := by
        rcases hc with hc | hc
        · exact hc
        · unfold openAt at hop; rw [hc] at hop; cases hop
      rw [if_pos hop, show castsI (i :: (List.range' (i + 1) d).filter (openAt cs)) = (i : Int) :: castsI ((List.range' (i + 1) d).filter (openAt cs)) from rfl]
      unfold halfG
      by_cases h1 : p % 2 = 1
      · rw [if_pos h1]
        refine Ev.step (fun k => ?_) (fill_l0 hl hb a b d (i + 1) (p / 2) (out.set i 111) (by omega) (by rw [List.length_set]; exact ho) (by omega))
        rw [spec_cnFill.l0, if_pos (by omega), if_pos (by omega), if_pos (by omega), hrd, if_pos h46, hmd, if_pos (by omega), if_pos (by omega), hdv, hW, Int.toNat_natCast]
      · rw [if_neg h1]
        refine Ev.step (fun k => ?_) (fill_l0 hl hb a b d (i + 1) (p / 2) out (by omega) ho (by omega))
        rw [spec_cnFill.l0, if_pos (by omega), if_pos (by omega), if_pos (by omega), hrd, if_pos h46, hmd, if_neg (by omega), hdv, hW]
    · have h46 : ¬ cs.getD i 0 = 46 := fun e => hop (by unfold openAt; rw [e]; rfl)
      rw [if_neg hop]
      refine Ev.step (fun k => ?_) (fill_l0 hl hb a b d (i + 1) p out (by omega) ho hp)
      rw [spec_cnFill.l0, if_pos (by omega), if_pos (by omega), if_pos (by omega), hrd, if_neg h46, hW]
theorem tyCopy_eq (a b : Int) {cs : List Int} (hl : cs.length ≤ 1000) : spec_tyCopy.f a b cs = some (a, b, cs) := by
  unfold spec_tyCopy.f
  rw [Option.bind_some, if_pos (by simp; omega), List.nil_append]
theorem fill_ev {w h : Nat} {cs : List Int} (hl : cs.length ≤ 1000) (hb : bareC cs) (n : Nat) (hn : n ≤ 1000000) : Ev (fun k => spec_cnFill.f k w h cs n) ((w : Int), (h : Int), fillC cs n) := by
  have h0 := fill_l0 hl hb (w : Int) (h : Int) cs.length 0 n cs (by omega) rfl hn
  rw [← List.range_eq_range'] at h0
  unfold fillC
  rw [half_go, Nat.pow_zero, Nat.div_one]
  exact Ev.congr (fun k => by unfold spec_cnFill.f; rw [tyCopy_eq _ _ hl, Option.bind_some]; rfl) h0
theorem equal_l0 {a b : List Int} (hl : a.length = b.length) (ha : a.length ≤ 1000) : ∀ (d i : Nat), i + d = a.length → Ev (fun k => slices_Equal_byte_byte.l0 k a b (a.length : Int) i) (decide (a.drop i = b.drop i))
  | 0, i, hi => by
    rw [List.drop_of_length_le (by omega), List.drop_of_length_le (by omega), decide_eq_true rfl]
    exact Ev.step (fun k => by rw [slices_Equal_byte_byte.l0, if_neg (by omega)]) (Ev.now _)
  | d + 1, i, hi => by
    have h1 : i < a.length := by omega
    have h2 : i < b.length := by omega
    have hW : wrap64 ((i : Int) + 1) = ((i + 1 : Nat) : Int) := by rw [w64 (by omega) (by omega)]; rfl
    have r1 : rd a (i : Int) = a[i] := by unfold rd; rw [Int.toNat_natCast, List.getD_eq_getElem?_getD, List.getElem?_eq_getElem h1]; rfl
    have r2 : rd b (i : Int) = b[i] := by unfold rd; rw [Int.toNat_natCast, List.getD_eq_getElem?_getD, List.getElem?_eq_getElem h2]; rfl
    rw [List.drop_eq_getElem_cons h1, List.drop_eq_getElem_cons h2]
    by_cases he : a[i] = b[i]
    · have ih := equal_l0 hl ha d (i + 1) (by omega)
      have e : decide (a[i] :: a.drop (i + 1) = b[i] :: b.drop (i + 1)) = decide (a.drop (i + 1) = b.drop (i + 1)) := by rw [he]; exact decide_eq_decide.2 ⟨fun e => (List.cons.inj e).2, fun e => by rw [e]⟩
      rw [e]
      refine Ev.step (fun k => ?_) ih
      rw [slices_Equal_byte_byte.l0, if_pos (by omega), if_pos (by omega), if_pos (by omega), if_pos (by omega), r1, r2, if_pos he, hW]
    · rw [decide_eq_false (fun e => he (List.cons.inj e).1)]
      refine Ev.step (f := fun _ => some false) (fun k => ?_) (Ev.now _)
      rw [slices_Equal_byte_byte.l0, if_pos (by omega), if_pos (by omega), if_pos (by omega), if_pos (by omega), r1, r2, if_neg he]
theorem equal_ev {a b : List Int} (hl : a.length = b.length) (ha : a.length ≤ 1000) : Ev (fun k => slices_Equal_byte_byte.f k a b) (decide (a = b)) := by
  have := equal_l0 hl ha a.length 0 (by omega)
  rw [List.drop_zero, List.drop_zero] at this
  exact Ev.congr (fun k => by unfold slices_Equal_byte_byte.f; rw [if_pos (by omega)]; rfl) this
theorem isStill_ev {w h : Nat} {cs : List Int} (v : VG w h cs) {c : Int} (hc : isDirC c = true) : Ev (fun k => impl_tray_isStill.f k w h cs c) (stillB w h cs (dirIx c).toNat) := by
  have hlen : cs.length ≤ 36 := by rw [v.len]; exact v.small
  refine Ev.congr (f := fun k => (slices_Equal_byte_byte.f k (tiltD w h (dirIx c).toNat cs) cs).bind fun t => some t) (fun k => by
    unfold impl_tray_isStill.f
    rw [impl_tilted_eq ⟨v.w1, v.w7⟩ ⟨v.h1, v.h7⟩ v.len hc, Option.bind_some]) ?_
  exact Ev.bind (equal_ev (by rw [tiltD_length]) (by rw [tiltD_length]; omega)) (Ev.now _)
def allStill (w h : Nat) (cs : List Int) (l : List Int) : Bool := l.all fun c => stillB w h cs (dirIx c).toNat
theorem stAll_ev {w h : Nat} {cs : List Int} (v : VG w h cs) : ∀ l : List Int, (∀ c ∈ l, isDirC c = true) → Ev (fun k => stAll k w h cs l) (allStill w h cs l)
  | [], _ => Ev.now _
  | c :: l, hl => by
    refine Ev.bind (isStill_ev v (hl c List.mem_cons_self)) ?_
    unfold allStill
    rw [List.all_cons]
    cases hs : stillB w h cs (dirIx c).toNat with
    | true => rw [Bool.true_and]; exact Ev.congr (fun k => by rw [if_pos rfl]) (stAll_ev v l (fun c hc => hl c (List.mem_cons_of_mem _ hc)))
    | false => rw [Bool.false_and]; exact Ev.congr (fun k => by rw [if_neg Bool.false_ne_true]) (Ev.now _)
def stL (w h : Nat) (cs : List Int) (ds : List Int) : Nat → Nat → List ByteArray → List ByteArray
  | 0, _, o => o
  | m + 1, n, o => stL w h cs ds m (n + 1) (if allStill w h (fillC cs n) ds = true then o ++ [textB (w, h, fillC cs n)] else o)
theorem stL_len (w h : Nat) (cs ds : List Int) : ∀ (m n : Nat) (o : List ByteArray), (stL w h cs ds m n o).length ≤ o.length + m
  | 0, _, o => Nat.le_refl _
  | m + 1, n, o => by
    refine Nat.le_trans (stL_len w h cs ds m (n + 1) _) ?_
    split
    · rw [List.length_append, List.length_singleton]; omega
    · omega
theorem flRun_ev {w h : Nat} {cs : List Int} (v : VG w h cs) (hb : bareC cs) (txt : ByteArray) (hd : ∀ c ∈ bytesOf txt, isDirC c = true) : ∀ (m n : Nat) (o : List ByteArray), o.length + m ≤ 1000000 → Ev (fun k => flRun (fun o c _ => stStep k txt o w h c) cs (castsI (openL cs)) m n o) (stL w h cs (bytesOf txt) m n o)
  | 0, _, o, _ => Ev.now _
  | m + 1, n, o, ho => by
    have vF := fillC_V v hb n
    have ht : impl_tray_text.f w h (fillC cs n) = some (textB (w, h, fillC cs n)) := impl_text_eq (g := (w, h, fillC cs n)) vF
    have hst : Ev (fun k => stStep k txt o w h (fillC cs n)) (if allStill w h (fillC cs n) (bytesOf txt) = true then o ++ [textB (w, h, fillC cs n)] else o) := by
      refine Ev.bind (stAll_ev vF (bytesOf txt) hd) ?_
      by_cases ha : allStill w h (fillC cs n) (bytesOf txt) = true
      · rw [if_pos ha]
        exact Ev.congr (fun k => by rw [if_pos ha, ht, Option.bind_some, if_pos (by omega)]) (Ev.now _)
      · rw [if_neg ha]
        exact Ev.congr (fun k => by rw [if_neg ha]) (Ev.now _)
    refine Ev.bind hst ?_
    unfold stL
    refine flRun_ev v hb txt hd m (n + 1) _ ?_
    split
    · rw [List.length_append, List.length_singleton]; omega
    · omega
theorem openL_lt {cs : List Int} : ∀ x ∈ castsI (openL cs), 0 ≤ x ∧ x < (cs.length : Int) := by
  intro x hx
  obtain ⟨i, hi, rfl⟩ := List.mem_map.1 hx
  have := List.mem_range.1 (List.mem_filter.1 hi).1
  exact ⟨Int.natCast_nonneg _, Int.ofNat_lt.2 this⟩
theorem stills_ev {t txt : ByteArray} {w h : Nat} {cs : List Int} (hg : tyGrid (bytesOf t) = some (w, h, cs)) (v : VG w h cs) (hb : bareC cs) (hn : (openL cs).length ≤ 16) (hd : ∀ c ∈ bytesOf txt, isDirC c = true) (hsz : txt.size < 65536) :
    Ev (fun k => impl_stills.f k t txt) (sortB (stL w h cs (bytesOf txt) (2 ^ (openL cs).length) 0 [])) := by
  have hcl : cs.length ≤ 36 := by rw [v.len]; exact v.small
  have hp : 2 ^ (openL cs).length ≤ 65536 := Nat.le_trans (Nat.pow_le_pow_right (by decide) hn) (by decide)
  have hlen := stL_len w h cs (bytesOf txt) (2 ^ (openL cs).length) 0 []
  refine Ev.congr (f := fun k => (fillF k (fun o w h cs _ => stStep k txt o w h cs) t []).bind fun o => if o.length < 4000000000 then some (sortB o) else none) (fun k => by unfold impl_stills.f; rw [if_pos hsz]) ?_
  refine Ev.bind (a := stL w h cs (bytesOf txt) (2 ^ (openL cs).length) 0 []) ?_ (Ev.congr (fun k => by rw [if_pos (by simp at hlen; omega)]) (Ev.now _))
  refine Ev.congr (f := fun k => (impl_tray_indices__impl_isOpen.f k w h cs).bind fun list => if list.length ≤ 20 ∧ (∀ x ∈ list, 0 ≤ x ∧ x < (cs.length : Int)) then flRun (fun s c n => stStep k txt s w h c) cs list (2 ^ list.length) 0 [] else none) (fun k => by
    unfold fillF impl_readS.f
    rw [impl_read_eq t hg, Option.bind_some]) ?_
  refine Ev.bind (open_ev _ _ (by omega)) ?_
  have := flRun_ev v hb txt hd (2 ^ (openL cs).length) 0 [] (by simp; omega)
  refine Ev.congr (fun k => ?_) this
  rw [if_pos ⟨by rw [castsI_length]; omega, openL_lt⟩, castsI_length]
end Go.Proofs.YtdffgeoegdkiaaaGreatDoor.F

namespace Go.Proofs.YtdffgeoegdkiaaaGreatDoor.F
open Go.Proofs.YtdffgeoegdkiaaaGreatDoor
open Go.RowKit Go.Proofs.YtdffgeoegdkiaaaGreatDoorW.PrintWords Go.Proofs.YtdffgeoegdkiaaaGreatDoorW.PrintLast Go.Proofs.YtdffgeoegdkiaaaGreatDoorW.PrintMore
attribute [local go_sem] max2_int min2_int max_two min_two max_three min_three max_four min_four
def slices_Index_byte_byte.l0 : Nat → List Int → Int → Int → Int → Option (Int)
 | 0, _, _, _, _ => none
 | k + 1, x0, x1, x7, x8 => if x8 < x7 then (if 0 ≤ x8 then (if x8 < (x0.length : Int) then (if x1 = (rd x0 x8) then (some x8) else (slices_Index_byte_byte.l0 k x0 x1 x7 (wrap64 (x8 + 1)))) else (none)) else (none)) else (some (-1))
def slices_Index_byte_byte.f (k : Nat) (l0 : List Int) (a1 : Int) : Option (Int) := slices_Index_byte_byte.l0 k l0 a1 (l0.length : Int) 0
theorem slices_Index_byte_byte.mono_l : ∀ k, (∀ y0 y1 y2 y3, LeO (slices_Index_byte_byte.l0 k y0 y1 y2 y3) (slices_Index_byte_byte.l0 (k + 1) y0 y1 y2 y3))
 | 0 => fun _ _ _ _ r h => by simp [slices_Index_byte_byte.l0] at h
 | k + 1 => by
  have ih0 := slices_Index_byte_byte.mono_l k
  ·intro y0 y1 y2 y3
   unfold slices_Index_byte_byte.l0
   exact mo
theorem slices_Index_byte_byte.mono : ∀ a0 a1 k, LeO (slices_Index_byte_byte.f k a0 a1) (slices_Index_byte_byte.f (k + 1) a0 a1) := by
 intro a0 a1 k
 have ih0 := slices_Index_byte_byte.mono_l k
 unfold slices_Index_byte_byte.f
 exact mo
def impl_cellOf.j0 : Nat → ByteArray → ByteArray → Bool → Option (Int × Bool)
 | 0, _, _, _ => none
 | k + 1, x0, x1, x20 => if x20 = true then (some (0, false)) else ((impl_read.f x0).bind fun bt103 => (if 0 < (x1.size : Int) then ((slices_Index_byte_byte.f k bt103.2.2 (bt x1 0)).bind fun t108 => (some (t108, decide (t108 ≥ 0)))) else (none)))
theorem impl_cellOf.mono_l : ∀ k, (∀ y0 y1 y2, LeO (impl_cellOf.j0 k y0 y1 y2) (impl_cellOf.j0 (k + 1) y0 y1 y2))
 | 0 => fun _ _ _ r h => by simp [impl_cellOf.j0] at h
 | k + 1 => by
  have ih0 := impl_cellOf.mono_l k
  ·intro y0 y1 y2
   unfold impl_cellOf.j0
   have im0 := @impl_IsTray.mono; have im1 := @slices_Index_byte_byte.mono; exact mo
end Go.Proofs.YtdffgeoegdkiaaaGreatDoor.F

namespace Go.Proofs.YtdffgeoegdkiaaaGreatDoor.F
open Go.RowKit Go.Proofs.YtdffgeoegdkiaaaGreatDoor Go.Proofs.YtdffgeoegdkiaaaGreatDoorW.PrintWords

end Go.Proofs.YtdffgeoegdkiaaaGreatDoor.F

namespace Go.Proofs.YtdffgeoegdkiaaaGreatDoor
open Go.RowKit Go.Proofs.YtdffgeoegdkiaaaGreatDoorW.PrintWords Go.Proofs.YtdffgeoegdkiaaaGreatDoorW.PrintLast Go.Proofs.YtdffgeoegdkiaaaGreatDoorW.PrintMore Go.Lib Go.Shelf
def inR (lo hi x : Int) : Bool := decide (lo ≤ x) && decide (x ≤ hi)
def impl_areWithin.f (l : List Int) (lo hi : Int) : Option Bool := some (l.all (inR lo hi))
end Go.Proofs.YtdffgeoegdkiaaaGreatDoor

namespace Go.Proofs.YtdffgeoegdkiaaaGreatDoor.F
open Go.Proofs.YtdffgeoegdkiaaaGreatDoor
open Go.RowKit Go.Proofs.YtdffgeoegdkiaaaGreatDoorW.PrintWords Go.Proofs.YtdffgeoegdkiaaaGreatDoorW.PrintLast Go.Proofs.YtdffgeoegdkiaaaGreatDoorW.PrintMore
attribute [local go_sem] max2_int min2_int max_two min_two max_three min_three max_four min_four
def impl_isNumber.f (k : Nat) (a0 : ByteArray) (l1 : List Int) : Option (Bool) := (impl_IsTray.f k a0).bind fun t101 => (if t101 = true then ((impl_read.f a0).bind fun bt102 => ((impl_areWithin.f l1 0 (wrap64 ((bt102.2.2.length : Int) - 1))).bind fun t107 => (some t107))) else (some false))
theorem impl_isNumber.mono : ∀ a0 a1 k, LeO (impl_isNumber.f k a0 a1) (impl_isNumber.f (k + 1) a0 a1) := by
 intro a0 a1 k
 unfold impl_isNumber.f
 have im0 := @impl_IsTray.mono; exact mo
def impl_IsPuzzle.T2 : Bool × List (List Nat × List Nat) := (true, [([], []), ([0], [0]), ([1], [1]), ([2, 1], [1, 2]), ([1], [1]), ([4, 1], [1, 4]), ([5, 1], [1, 5]), ([3, 6, 1, 1], [1, 3, 6]), ([1, 7], [1, 7]), ([8, 7], [8]), ([9], [9]), ([10, 9], [9, 10]), ([11, 9, 9], [9, 11]), ([12, 9], [9, 12]), ([9], [9]), ([14, 9], [9, 14]), ([13, 15, 9], [9, 13, 15]), ([16, 9], [9, 16]), ([17, 9], [9, 17]), ([9, 18], [9, 18]), ([19, 12, 0, 1, 2, 3, 4, 5, 6, 7, 8, 9, 10, 11, 12, 13, 14, 15, 16, 17, 18, 19], [19])])
def impl_IsPuzzle.B2 : List Nat := [0, 1, 3, 7, 3, 19, 51, 127, 255, 511, 1023, 2047, 4095, 8191, 1023, 17407, 65535, 131071, 262143, 524287, 1048575]
theorem impl_IsPuzzle.tab2 : rtab .any (opsOf Tryz.f88 2) = impl_IsPuzzle.T2 := by kernel_rfl
theorem impl_IsPuzzle.bits2 : waitsOk impl_IsPuzzle.T2.2 impl_IsPuzzle.B2 = true := by kernel_rfl
def spec_tiPlace.l0 : Nat → Int → List Int → Int → Int → Option (Int)
 | 0, _, _, _, _ => none
 | k + 1, x1, x8, x9, x10 => if x10 < x9 then (if 0 ≤ x10 then (if x10 < (x8.length : Int) then (if (rd x8 x10) = x1 then (some x10) else (spec_tiPlace.l0 k x1 x8 x9 (wrap64 (x10 + 1)))) else (none)) else (none)) else (some (-1))
def spec_tiPlace.f (k : Nat) (a0_0 : Int) (a0_1 : Int) (l0_2 : List Int) (a1 : Int) : Option (Int) := spec_tiPlace.l0 k a1 l0_2 (l0_2.length : Int) 0
theorem spec_tiPlace.mono_l : ∀ k, (∀ y0 y1 y2 y3, LeO (spec_tiPlace.l0 k y0 y1 y2 y3) (spec_tiPlace.l0 (k + 1) y0 y1 y2 y3))
 | 0 => fun _ _ _ _ r h => by simp [spec_tiPlace.l0] at h
 | k + 1 => by
  have ih0 := spec_tiPlace.mono_l k
  ·intro y0 y1 y2 y3
   unfold spec_tiPlace.l0
   exact mo
theorem spec_tiPlace.mono : ∀ a0 a1 a2 a3 k, LeO (spec_tiPlace.f k a0 a1 a2 a3) (spec_tiPlace.f (k + 1) a0 a1 a2 a3) := by
 intro a0 a1 a2 a3 k
 have ih0 := spec_tiPlace.mono_l k
 unfold spec_tiPlace.f
 exact mo

def spec_puGood.T2 : Bool × List (List Nat × List Nat) := (true, [([], []), ([0], [0]), ([1], [1]), ([2], [2]), ([3, 2], [2, 3]), ([4, 2, 2], [2, 4]), ([5, 2], [2, 5]), ([2, 6], [2, 6]), ([7, 5], [7]), ([8], [8]), ([8], [8]), ([10, 8], [8, 10]), ([11, 8], [8, 11]), ([9, 12, 8, 8], [8, 9, 12]), ([13, 8], [8, 13]), ([8, 14], [8, 14])])
def spec_puGood.B2 : List Nat := [0, 1, 3, 7, 15, 31, 63, 127, 255, 511, 511, 1535, 3583, 8191, 16383, 32767]
theorem spec_puGood.tab2 : rtab .any (opsOf Tryz.f83 2) = spec_puGood.T2 := by kernel_rfl
theorem spec_puGood.bits2 : waitsOk spec_puGood.T2.2 spec_puGood.B2 = true := by kernel_rfl
end Go.Proofs.YtdffgeoegdkiaaaGreatDoor.F

namespace Go.Proofs.YtdffgeoegdkiaaaGreatDoor.F
open Go.RowKit Go.Proofs.YtdffgeoegdkiaaaGreatDoor Go.Proofs.YtdffgeoegdkiaaaGreatDoorW.PrintWords Go.Proofs.YtdffgeoegdkiaaaGreatDoorW.PrintMore

end Go.Proofs.YtdffgeoegdkiaaaGreatDoor.F

namespace Go.Proofs.YtdffgeoegdkiaaaGreatDoor.F
open Go.Proofs.YtdffgeoegdkiaaaGreatDoor
open Go.RowKit Go.Proofs.YtdffgeoegdkiaaaGreatDoorW.PrintWords Go.Proofs.YtdffgeoegdkiaaaGreatDoorW.PrintLast Go.Proofs.YtdffgeoegdkiaaaGreatDoorW.PrintMore
attribute [local go_sem] max2_int min2_int max_two min_two max_three min_three max_four min_four
def laws_toIntS.l0 : Nat → List Int → List Int → Int → Option (List Int)
 | 0, _, _, _ => none
 | k + 1, x0, x3, x4 => if x4 < (x0.length : Int) then (if 0 ≤ x4 then (if x4 < (x3.length : Int) then (laws_toIntS.l0 k x0 (x3.set (x4 : Int).toNat (rd x0 x4)) (wrap64 (x4 + 1))) else (none)) else (none)) else (some x3)
theorem laws_toIntS.mono_l : ∀ k, (∀ y0 y1 y2, LeO (laws_toIntS.l0 k y0 y1 y2) (laws_toIntS.l0 (k + 1) y0 y1 y2))
 | 0 => fun _ _ _ r h => by simp [laws_toIntS.l0] at h
 | k + 1 => by
  have ih0 := laws_toIntS.mono_l k
  ·intro y0 y1 y2
   unfold laws_toIntS.l0
   exact mo
def laws_eqIntS.l0 : Nat → List Int → List Int → Int → Option (Bool)
 | 0, _, _, _ => none
 | k + 1, x0, x1, x5 => if x5 < (x0.length : Int) then (if 0 ≤ x5 then (if x5 < (x1.length : Int) then (if (rd x0 x5) = (rd x1 x5) then (laws_eqIntS.l0 k x0 x1 (wrap64 (x5 + 1))) else (some false)) else (none)) else (none)) else (some true)
theorem laws_eqIntS.mono_l : ∀ k, (∀ y0 y1 y2, LeO (laws_eqIntS.l0 k y0 y1 y2) (laws_eqIntS.l0 (k + 1) y0 y1 y2))
 | 0 => fun _ _ _ r h => by simp [laws_eqIntS.l0] at h
 | k + 1 => by
  have ih0 := laws_eqIntS.mono_l k
  ·intro y0 y1 y2
   unfold laws_eqIntS.l0
   exact mo
def laws_markIntS.l0 : Nat → List Int → Int → Int → Option (Int × List Int)
 | 0, _, _, _ => none
 | k + 1, x0, x1, x5 => if x5 < (x0.length : Int) then (if 0 ≤ x5 then (laws_markIntS.l0 k (x0.set (x5 : Int).toNat x1) (wrap64 (x1 + 1)) (wrap64 (x5 + 1))) else (none)) else (some (x1, x0))
theorem laws_markIntS.mono_l : ∀ k, (∀ y0 y1 y2, LeO (laws_markIntS.l0 k y0 y1 y2) (laws_markIntS.l0 (k + 1) y0 y1 y2))
 | 0 => fun _ _ _ r h => by simp [laws_markIntS.l0] at h
 | k + 1 => by
  have ih0 := laws_markIntS.mono_l k
  ·intro y0 y1 y2
   unfold laws_markIntS.l0
   exact mo
def laws_heldIntS.l0 : Nat → List Int → Int → Int → Option (Int)
 | 0, _, _, _ => none
 | k + 1, x0, x1, x5 => if x5 < (x0.length : Int) then (if 0 ≤ x5 then (if (rd x0 x5) = x1 then (laws_heldIntS.l0 k x0 (wrap64 (x1 + 1)) (wrap64 (x5 + 1))) else (some (-1))) else (none)) else (some x1)
theorem laws_heldIntS.mono_l : ∀ k, (∀ y0 y1 y2, LeO (laws_heldIntS.l0 k y0 y1 y2) (laws_heldIntS.l0 (k + 1) y0 y1 y2))
 | 0 => fun _ _ _ r h => by simp [laws_heldIntS.l0] at h
 | k + 1 => by
  have ih0 := laws_heldIntS.mono_l k
  ·intro y0 y1 y2
   unfold laws_heldIntS.l0
   exact mo
end Go.Proofs.YtdffgeoegdkiaaaGreatDoor.F

namespace Go.Proofs.YtdffgeoegdkiaaaGreatDoor.F
open Go.RowKit Go.Proofs.YtdffgeoegdkiaaaGreatDoor Go.Proofs.YtdffgeoegdkiaaaGreatDoorW.PrintWords Go.Proofs.YtdffgeoegdkiaaaGreatDoorW.PrintMore
theorem rdN (l : List Int) (i : Nat) : rd l (i : Int) = l.getD i 0 := by unfold rd; rw [Int.toNat_natCast]
end Go.Proofs.YtdffgeoegdkiaaaGreatDoor.F

namespace Go.Proofs.YtdffgeoegdkiaaaGreatDoor.F
open Go.Proofs.YtdffgeoegdkiaaaGreatDoor
open Go.RowKit Go.Proofs.YtdffgeoegdkiaaaGreatDoorW.PrintWords Go.Proofs.YtdffgeoegdkiaaaGreatDoorW.PrintLast Go.Proofs.YtdffgeoegdkiaaaGreatDoorW.PrintMore
attribute [local go_sem] max2_int min2_int max_two min_two max_three min_three max_four min_four
def slices_Index_int_int.l0 : Nat → List Int → Int → Int → Int → Option (Int)
 | 0, _, _, _, _ => none
 | k + 1, x0, x1, x7, x8 => if x8 < x7 then (if 0 ≤ x8 then (if x8 < (x0.length : Int) then (if x1 = (rd x0 x8) then (some x8) else (slices_Index_int_int.l0 k x0 x1 x7 (wrap64 (x8 + 1)))) else (none)) else (none)) else (some (-1))
def slices_Index_int_int.f (k : Nat) (l0 : List Int) (a1 : Int) : Option (Int) := slices_Index_int_int.l0 k l0 a1 (l0.length : Int) 0
theorem slices_Index_int_int.mono_l : ∀ k, (∀ y0 y1 y2 y3, LeO (slices_Index_int_int.l0 k y0 y1 y2 y3) (slices_Index_int_int.l0 (k + 1) y0 y1 y2 y3))
 | 0 => fun _ _ _ _ r h => by simp [slices_Index_int_int.l0] at h
 | k + 1 => by
  have ih0 := slices_Index_int_int.mono_l k
  ·intro y0 y1 y2 y3
   unfold slices_Index_int_int.l0
   exact mo
theorem slices_Index_int_int.mono : ∀ a0 a1 k, LeO (slices_Index_int_int.f k a0 a1) (slices_Index_int_int.f (k + 1) a0 a1) := by
 intro a0 a1 k
 have ih0 := slices_Index_int_int.mono_l k
 unfold slices_Index_int_int.f
 exact mo
def slices_Contains_int_int.f (k : Nat) (l0 : List Int) (a1 : Int) : Option (Bool) := (slices_Index_int_int.f k l0 a1).bind fun t101 => (some (decide (t101 ≥ 0)))
theorem slices_Contains_int_int.mono : ∀ a0 a1 k, LeO (slices_Contains_int_int.f k a0 a1) (slices_Contains_int_int.f (k + 1) a0 a1) := by
 intro a0 a1 k
 unfold slices_Contains_int_int.f
 have im0 := @slices_Index_int_int.mono; exact mo
def impl_isGate_1.f (a0 : Int) : Option (Bool) := some (a0 == 46)
mutual
def impl_areCells__impl_isGate_1.j0 : Nat → ByteArray → List Int → Bool → Option (Bool)
 | 0, _, _, _ => none
 | k + 1, x0, x1, x18 => if x18 = true then (some false) else (impl_areCells__impl_isGate_1.l0 k x0 x1 x1 (x1.length : Int) 0)
def impl_areCells__impl_isGate_1.l0 : Nat → ByteArray → List Int → List Int → Int → Int → Option (Bool)
 | 0, _, _, _, _, _ => none
 | k + 1, x0, x1, x19, x20, x21 => if x21 < x20 then (if 0 ≤ x21 then (if x21 < (x19.length : Int) then (if x21 ≤ (x1.length : Int) then ((slices_Contains_int_int.f k (x1.take (x21 : Int).toNat) (rd x19 x21)).bind fun t105 => (if t105 = true then (some false) else ((impl_read.f x0).bind fun bt106 => (if 0 ≤ (rd x19 x21) then (if (rd x19 x21) < (bt106.2.2.length : Int) then ((impl_isGate_1.f (rd bt106.2.2 (rd x19 x21))).bind fun t112 => (if t112 = true then (impl_areCells__impl_isGate_1.l0 k x0 x1 x19 x20 (wrap64 (x21 + 1))) else (some false))) else (none)) else (none))))) else (none)) else (none)) else (none)) else (some true)
end
theorem impl_areCells__impl_isGate_1.mono_l : ∀ k, (∀ y0 y1 y2, LeO (impl_areCells__impl_isGate_1.j0 k y0 y1 y2) (impl_areCells__impl_isGate_1.j0 (k + 1) y0 y1 y2)) ∧ (∀ y0 y1 y2 y3 y4, LeO (impl_areCells__impl_isGate_1.l0 k y0 y1 y2 y3 y4) (impl_areCells__impl_isGate_1.l0 (k + 1) y0 y1 y2 y3 y4))
 | 0 => ⟨fun _ _ _ r h => by simp [impl_areCells__impl_isGate_1.j0] at h, fun _ _ _ _ _ r h => by simp [impl_areCells__impl_isGate_1.l0] at h⟩
 | k + 1 => by
  obtain ⟨ih0, ih1⟩ := impl_areCells__impl_isGate_1.mono_l k
  refine ⟨?_, ?_⟩
  ·intro y0 y1 y2
   unfold impl_areCells__impl_isGate_1.j0
   have im0 := @impl_isNumber.mono; have im1 := @slices_Contains_int_int.mono; exact mo
  ·intro y0 y1 y2 y3 y4
   unfold impl_areCells__impl_isGate_1.l0
   have im0 := @impl_isNumber.mono; have im1 := @slices_Contains_int_int.mono; exact mo
mutual
def impl_areCells__impl_isOpen.j0 : Nat → ByteArray → List Int → Bool → Option (Bool)
 | 0, _, _, _ => none
 | k + 1, x0, x1, x18 => if x18 = true then (some false) else (impl_areCells__impl_isOpen.l0 k x0 x1 x1 (x1.length : Int) 0)
def impl_areCells__impl_isOpen.l0 : Nat → ByteArray → List Int → List Int → Int → Int → Option (Bool)
 | 0, _, _, _, _, _ => none
 | k + 1, x0, x1, x19, x20, x21 => if x21 < x20 then (if 0 ≤ x21 then (if x21 < (x19.length : Int) then (if x21 ≤ (x1.length : Int) then ((slices_Contains_int_int.f k (x1.take (x21 : Int).toNat) (rd x19 x21)).bind fun t105 => (if t105 = true then (some false) else ((impl_read.f x0).bind fun bt106 => (if 0 ≤ (rd x19 x21) then (if (rd x19 x21) < (bt106.2.2.length : Int) then ((impl_isOpen.f (rd bt106.2.2 (rd x19 x21))).bind fun t112 => (if t112 = true then (impl_areCells__impl_isOpen.l0 k x0 x1 x19 x20 (wrap64 (x21 + 1))) else (some false))) else (none)) else (none))))) else (none)) else (none)) else (none)) else (some true)
end
theorem impl_areCells__impl_isOpen.mono_l : ∀ k, (∀ y0 y1 y2, LeO (impl_areCells__impl_isOpen.j0 k y0 y1 y2) (impl_areCells__impl_isOpen.j0 (k + 1) y0 y1 y2)) ∧ (∀ y0 y1 y2 y3 y4, LeO (impl_areCells__impl_isOpen.l0 k y0 y1 y2 y3 y4) (impl_areCells__impl_isOpen.l0 (k + 1) y0 y1 y2 y3 y4))
 | 0 => ⟨fun _ _ _ r h => by simp [impl_areCells__impl_isOpen.j0] at h, fun _ _ _ _ _ r h => by simp [impl_areCells__impl_isOpen.l0] at h⟩
 | k + 1 => by
  obtain ⟨ih0, ih1⟩ := impl_areCells__impl_isOpen.mono_l k
  refine ⟨?_, ?_⟩
  ·intro y0 y1 y2
   unfold impl_areCells__impl_isOpen.j0
   have im0 := @impl_isNumber.mono; have im1 := @slices_Contains_int_int.mono; exact mo
  ·intro y0 y1 y2 y3 y4
   unfold impl_areCells__impl_isOpen.l0
   have im0 := @impl_isNumber.mono; have im1 := @slices_Contains_int_int.mono; exact mo

def spec_mcRead.T2 : Bool × List (List Nat × List Nat) := (true, [([], []), ([], []), ([1], [1]), ([2], [2]), ([3, 2, 2], [2, 3]), ([2, 4], [2, 4]), ([0, 4, 0], [0]), ([5, 6, 0, 1, 2, 3, 4, 5, 6], [5])])
def spec_mcRead.B2 : List Nat := [0, 0, 2, 6, 14, 30, 31, 127]
theorem spec_mcRead.tab2 : rtab .any (opsOf Tryz.f112 2) = spec_mcRead.T2 := by kernel_rfl
theorem spec_mcRead.bits2 : waitsOk spec_mcRead.T2.2 spec_mcRead.B2 = true := by kernel_rfl
def spec_l1Has.l0 : Nat → Int → List Int → Int → Int → Option (Bool)
 | 0, _, _, _, _ => none
 | k + 1, x1, x7, x8, x9 => if x9 < x8 then (if 0 ≤ x9 then (if x9 < (x7.length : Int) then (if (rd x7 x9) = x1 then (some true) else (spec_l1Has.l0 k x1 x7 x8 (wrap64 (x9 + 1)))) else (none)) else (none)) else (some false)
def spec_l1Has.f (k : Nat) (l0 : List Int) (a1 : Int) : Option (Bool) := spec_l1Has.l0 k a1 l0 (l0.length : Int) 0
theorem spec_l1Has.mono_l : ∀ k, (∀ y0 y1 y2 y3, LeO (spec_l1Has.l0 k y0 y1 y2 y3) (spec_l1Has.l0 (k + 1) y0 y1 y2 y3))
 | 0 => fun _ _ _ _ r h => by simp [spec_l1Has.l0] at h
 | k + 1 => by
  have ih0 := spec_l1Has.mono_l k
  ·intro y0 y1 y2 y3
   unfold spec_l1Has.l0
   exact mo
theorem spec_l1Has.mono : ∀ a0 a1 k, LeO (spec_l1Has.f k a0 a1) (spec_l1Has.f (k + 1) a0 a1) := by
 intro a0 a1 k
 have ih0 := spec_l1Has.mono_l k
 unfold spec_l1Has.f
 exact mo
def spec_mcCells.l0 : Nat → List Int → Int → List Int → Int → Int → Int → Int → List Int → Option (Bool)
 | 0, _, _, _, _, _, _, _, _ => none
 | k + 1, x1, x2, x13, x14, x15, x102000, x102001, x102002 => if x15 < x14 then (if 0 ≤ x15 then (if x15 < (x13.length : Int) then ((spec_l1In.f (rd x13 x15) 0 (wrap64 ((x102002.length : Int) - 1))).bind fun t104 => (if t104 = true then (if x15 ≤ (x1.length : Int) then ((spec_l1Has.f k (x1.take (x15 : Int).toNat) (rd x13 x15)).bind fun t106 => (if t106 = true then (some false) else (if 0 ≤ (rd x13 x15) then (if (rd x13 x15) < (x102002.length : Int) then (if (rd x102002 (rd x13 x15)) = 35 then (some false) else (if x2 = 0 then (spec_mcCells.l0 k x1 x2 x13 x14 (wrap64 (x15 + 1)) x102000 x102001 x102002) else (if (rd x102002 (rd x13 x15)) = x2 then (spec_mcCells.l0 k x1 x2 x13 x14 (wrap64 (x15 + 1)) x102000 x102001 x102002) else (some false)))) else (none)) else (none)))) else (none)) else (some false))) else (none)) else (none)) else (some true)
theorem spec_mcCells.mono_l : ∀ k, (∀ y0 y1 y2 y3 y4 y5 y6 y7, LeO (spec_mcCells.l0 k y0 y1 y2 y3 y4 y5 y6 y7) (spec_mcCells.l0 (k + 1) y0 y1 y2 y3 y4 y5 y6 y7))
 | 0 => fun _ _ _ _ _ _ _ _ r h => by simp [spec_mcCells.l0] at h
 | k + 1 => by
  have ih0 := spec_mcCells.mono_l k
  ·intro y0 y1 y2 y3 y4 y5 y6 y7
   unfold spec_mcCells.l0
   have im0 := @spec_l1Has.mono; exact mo
def spec_mcGate.T2 : Bool × List (List Nat × List Nat) := (true, [([], []), ([], []), ([1], [1]), ([2], [2]), ([2], [2]), ([3, 4, 2, 2], [2, 3, 4]), ([2, 5], [2, 5]), ([6, 5], [6]), ([7], [7]), ([7], [7]), ([8, 9, 7, 7], [7, 8, 9]), ([7, 10], [7, 10]), ([0, 10, 0], [0]), ([11, 12, 0, 1, 2, 3, 4, 5, 6, 7, 8, 9, 10, 11, 12], [11])])
def spec_mcGate.B2 : List Nat := [0, 0, 2, 6, 6, 30, 62, 126, 254, 254, 1022, 2046, 2047, 8191]
theorem spec_mcGate.tab2 : rtab .any (opsOf Tryz.f62 2) = spec_mcGate.T2 := by kernel_rfl
theorem spec_mcGate.bits2 : waitsOk spec_mcGate.T2.2 spec_mcGate.B2 = true := by kernel_rfl
end Go.Proofs.YtdffgeoegdkiaaaGreatDoor.F

namespace Go.Proofs.YtdffgeoegdkiaaaGreatDoor.F
open Go.RowKit Go.Proofs.YtdffgeoegdkiaaaGreatDoor Go.Proofs.YtdffgeoegdkiaaaGreatDoorW.PrintWords Go.Proofs.YtdffgeoegdkiaaaGreatDoorW.PrintMore
def cellOk (p : Int → Bool) (cs l : List Int) (j : Nat) : Prop := (0 ≤ l.getD j 0 ∧ l.getD j 0 < (cs.length : Int)) ∧ l.getD j 0 ∉ l.take j ∧ p (cs.getD (l.getD j 0).toNat 0) = true
instance (p : Int → Bool) (cs l : List Int) (j : Nat) : Decidable (cellOk p cs l j) := by unfold cellOk; exact inferInstance
end Go.Proofs.YtdffgeoegdkiaaaGreatDoor.F

namespace Go.Proofs.YtdffgeoegdkiaaaGreatDoor
open Go.RowKit Go.Proofs.YtdffgeoegdkiaaaGreatDoorW.PrintWords Go.Proofs.YtdffgeoegdkiaaaGreatDoorW.PrintMore

end Go.Proofs.YtdffgeoegdkiaaaGreatDoor

namespace Go.Proofs.YtdffgeoegdkiaaaGreatDoor
open Go.RowKit Go.Proofs.YtdffgeoegdkiaaaGreatDoorW.PrintWords Go.Proofs.YtdffgeoegdkiaaaGreatDoorW.PrintLast Go.Proofs.YtdffgeoegdkiaaaGreatDoorW.PrintMore Go.Lib Go.Maps
def lookZ (x : Int) (m : List (Nat × Nat)) : Int := ((m.lookup x.toNat).getD 0 : Nat)
def impl_slideZ.f (a0 a1 : Int) (l : List Int) (d : Int) : Option (List (Nat × Nat)) := if gridI a0 a1 l ∧ isDirC d = true then some (mvD a0.toNat a1.toNat (dirIx d).toNat l) else none
theorem MapAt.ne {w : World} {b g : Nat} {m : List (Nat × Nat)} {cs : Array Value} {t : TypeId} {f : Nat × Nat} (h : MapAt w b m) (hg : w.heap[g]? = some (.cells cs t f)) : b ≠ g := by
  obtain ⟨n, _, es, clock, h1, _⟩ := h
  intro e
  rw [e, hg] at h1
  cases h1
end Go.Proofs.YtdffgeoegdkiaaaGreatDoor

namespace Go.Proofs.YtdffgeoegdkiaaaGreatDoor.F
open Go.Proofs.YtdffgeoegdkiaaaGreatDoor
open Go.RowKit Go.Proofs.YtdffgeoegdkiaaaGreatDoorW.PrintWords Go.Proofs.YtdffgeoegdkiaaaGreatDoorW.PrintLast Go.Proofs.YtdffgeoegdkiaaaGreatDoorW.PrintMore
attribute [local go_sem] max2_int min2_int max_two min_two max_three min_three max_four min_four
def impl_tray_indices__impl_isBall.l0 : Nat → List Int → List Int → Int → Int → Option (List Int)
 | 0, _, _, _, _ => none
 | k + 1, x5, x10, x11, x12 => if x12 < x11 then (if 0 ≤ x12 then (if x12 < (x10.length : Int) then ((impl_isBall.f (rd x10 x12)).bind fun t106 => (if t106 = true then (if x5.length < 17592186044416 then (impl_tray_indices__impl_isBall.l0 k (x5 ++ [x12]) x10 x11 (wrap64 (x12 + 1))) else (none)) else (impl_tray_indices__impl_isBall.l0 k x5 x10 x11 (wrap64 (x12 + 1))))) else (none)) else (none)) else (some x5)
def impl_tray_indices__impl_isBall.f (k : Nat) (a0_0 : Int) (a0_1 : Int) (l0_2 : List Int)  : Option (List Int) := impl_tray_indices__impl_isBall.l0 k (([] : List Int)) l0_2 (l0_2.length : Int) 0
theorem impl_tray_indices__impl_isBall.mono_l : ∀ k, (∀ y0 y1 y2 y3, LeO (impl_tray_indices__impl_isBall.l0 k y0 y1 y2 y3) (impl_tray_indices__impl_isBall.l0 (k + 1) y0 y1 y2 y3))
 | 0 => fun _ _ _ _ r h => by simp [impl_tray_indices__impl_isBall.l0] at h
 | k + 1 => by
  have ih0 := impl_tray_indices__impl_isBall.mono_l k
  ·intro y0 y1 y2 y3
   unfold impl_tray_indices__impl_isBall.l0
   exact mo
theorem impl_tray_indices__impl_isBall.mono : ∀ a0 a1 a2 k, LeO (impl_tray_indices__impl_isBall.f k a0 a1 a2) (impl_tray_indices__impl_isBall.f (k + 1) a0 a1 a2) := by
 intro a0 a1 a2 k
 have ih0 := impl_tray_indices__impl_isBall.mono_l k
 unfold impl_tray_indices__impl_isBall.f
 exact mo
mutual
def impl_comesBack.l0 : Nat → List Int → List Int → List Int → Int → Int → Int → Int → List Int → Option (List Int × Bool)
 | 0, _, _, _, _, _, _, _, _ => none
 | k + 1, x7, x8, x24, x25, x26, x107000, x107001, x107002 => if x26 < x25 then (if 0 ≤ x26 then (if x26 < (x24.length : Int) then ((impl_slideZ.f x107000 x107001 x107002 (rd x24 x26)).bind fun t117 => (impl_comesBack.l1 k x7 x8 (rd x24 x26) t117 x24 x25 x26 (x8.length : Int) 0 x107000 x107001 x107002)) else (none)) else (none)) else (impl_comesBack.l2 k x7 (([] : List Int)) x8 (x8.length : Int) 0)
def impl_comesBack.l1 : Nat → List Int → List Int → Int → List (Nat × Nat) → List Int → Int → Int → Int → Int → Int → Int → List Int → Option (List Int × Bool)
 | 0, _, _, _, _, _, _, _, _, _, _, _, _ => none
 | k + 1, x7, x8, x10, x11, x24, x25, x26, x34, x35, x107000, x107001, x107002 => if x35 < x34 then (if 0 ≤ x35 then (if x35 < (x8.length : Int) then (if 0 ≤ (rd x8 x35) ∧ (rd x8 x35) < 65536 then (impl_comesBack.l1 k x7 (x8.set (x35 : Int).toNat (lookZ (rd x8 x35) x11)) x10 x11 x24 x25 x26 x34 (wrap64 (x35 + 1)) x107000 x107001 x107002) else none) else (none)) else (none)) else ((impl_tray_tilted.f x107000 x107001 x107002 x10).bind fun bt120 => (impl_comesBack.l0 k x7 x8 x24 x25 (wrap64 (x26 + 1)) bt120.1 bt120.2.1 bt120.2.2))
def impl_comesBack.l2 : Nat → List Int → List Int → List Int → Int → Int → Option (List Int × Bool)
 | 0, _, _, _, _, _ => none
 | k + 1, x7, x14, x52, x53, x54 => if x54 < x53 then (if 0 ≤ x54 then (if x54 < (x52.length : Int) then ((slices_Index_int_int.f k x7 (rd x52 x54)).bind fun t129 => (if x14.length < 17592186044416 then (impl_comesBack.l2 k x7 (x14 ++ [t129]) x52 x53 (wrap64 (x54 + 1))) else (none))) else (none)) else (none)) else ((slices_Contains_int_int.f k x14 (-1)).bind fun t133 => (some (x14, !t133)))
end
theorem impl_comesBack.mono_l : ∀ k, (∀ y0 y1 y2 y3 y4 y5 y6 y7, LeO (impl_comesBack.l0 k y0 y1 y2 y3 y4 y5 y6 y7) (impl_comesBack.l0 (k + 1) y0 y1 y2 y3 y4 y5 y6 y7)) ∧ (∀ y0 y1 y2 y3 y4 y5 y6 y7 y8 y9 y10 y11, LeO (impl_comesBack.l1 k y0 y1 y2 y3 y4 y5 y6 y7 y8 y9 y10 y11) (impl_comesBack.l1 (k + 1) y0 y1 y2 y3 y4 y5 y6 y7 y8 y9 y10 y11)) ∧ (∀ y0 y1 y2 y3 y4, LeO (impl_comesBack.l2 k y0 y1 y2 y3 y4) (impl_comesBack.l2 (k + 1) y0 y1 y2 y3 y4))
 | 0 => ⟨fun _ _ _ _ _ _ _ _ r h => by simp [impl_comesBack.l0] at h, fun _ _ _ _ _ _ _ _ _ _ _ _ r h => by simp [impl_comesBack.l1] at h, fun _ _ _ _ _ r h => by simp [impl_comesBack.l2] at h⟩
 | k + 1 => by
  obtain ⟨ih0, ih1, ih2⟩ := impl_comesBack.mono_l k
  refine ⟨?_, ?_, ?_⟩
  ·intro y0 y1 y2 y3 y4 y5 y6 y7
   unfold impl_comesBack.l0
   have im0 := @impl_tray_indices__impl_isBall.mono; have im1 := @slices_Contains_int_int.mono; have im2 := @slices_Index_int_int.mono; exact mo
  ·intro y0 y1 y2 y3 y4 y5 y6 y7 y8 y9 y10 y11
   unfold impl_comesBack.l1
   have im0 := @impl_tray_indices__impl_isBall.mono; have im1 := @slices_Contains_int_int.mono; have im2 := @slices_Index_int_int.mono; exact mo
  ·intro y0 y1 y2 y3 y4
   unfold impl_comesBack.l2
   have im0 := @impl_tray_indices__impl_isBall.mono; have im1 := @slices_Contains_int_int.mono; have im2 := @slices_Index_int_int.mono; exact mo
end Go.Proofs.YtdffgeoegdkiaaaGreatDoor.F

namespace Go.Proofs.YtdffgeoegdkiaaaGreatDoor.F
open Go.RowKit Go.Proofs.YtdffgeoegdkiaaaGreatDoor Go.Proofs.YtdffgeoegdkiaaaGreatDoorW.PrintWords Go.Proofs.YtdffgeoegdkiaaaGreatDoorW.PrintMore
theorem ite_argZ {α β : Type} (c : Prop) [Decidable c] (f : α → β) (a b : α) : (if c then f a else f b) = f (if c then a else b) := by split <;> rfl
theorem idxTo_succZ (p : Int → Bool) (cs : List Int) (n : Nat) : castsI (idxTo p cs (n + 1)) = if p (cs.getD n 0) = true then castsI (idxTo p cs n) ++ [(n : Int)] else castsI (idxTo p cs n) := by
  unfold idxTo
  rw [List.range_succ, List.filter_append]
  by_cases h : p (cs.getD n 0) = true
  · rw [if_pos h]; simp only [List.filter_cons, h, if_true, List.filter_nil]; rw [casts_app]; rfl
  · rw [if_neg h]; simp only [List.filter_cons, List.filter_nil]; rw [if_neg h, List.append_nil]
theorem idxTo_lenZ (p : Int → Bool) (cs : List Int) (n : Nat) : (idxTo p cs n).length ≤ n := by
  unfold idxTo; refine Nat.le_trans (List.length_filter_le _ _) ?_; simp
section
variable {w h : Nat} (hw : 1 ≤ w ∧ w ≤ 7) (hh : 1 ≤ h ∧ h ≤ 7)
include hw hh
end
end Go.Proofs.YtdffgeoegdkiaaaGreatDoor.F

namespace Go.Proofs.YtdffgeoegdkiaaaGreatDoor.F
open Go.Proofs.YtdffgeoegdkiaaaGreatDoor
open Go.RowKit Go.Proofs.YtdffgeoegdkiaaaGreatDoorW.PrintWords Go.Proofs.YtdffgeoegdkiaaaGreatDoorW.PrintLast Go.Proofs.YtdffgeoegdkiaaaGreatDoorW.PrintMore
attribute [local go_sem] max2_int min2_int max_two min_two max_three min_three max_four min_four
def spec_mcBack.l0 : Nat → List Int → Int → Int → Int → Int → List Int → Option (Int × Int × List Int × Bool)
 | 0, _, _, _, _, _, _ => none
 | k + 1, x13, x14, x15, x109000, x109001, x109002 => if x15 < x14 then (if 0 ≤ x15 then (if x15 < (x13.length : Int) then ((spec_tyBall.f (rd x13 x15)).bind fun t110 => (if x15 < (x109002.length : Int) then ((spec_tyBall.f (rd x109002 x15)).bind fun t112 => (if (t110 != t112) = true then (some (x109000, x109001, x109002, false)) else (spec_mcBack.l0 k x13 x14 (wrap64 (x15 + 1)) x109000 x109001 x109002))) else (none))) else (none)) else (none)) else (some (x109000, x109001, x109002, true))
def spec_mcBack.f (k : Nat) (a0_0 : Int) (a0_1 : Int) (l0_2 : List Int) (a1 : ByteArray) : Option (Int × Int × List Int × Bool) := (spec_tiRun.f k a0_0 a0_1 l0_2 a1).bind fun bt103 => (spec_mcBack.l0 k l0_2 (l0_2.length : Int) 0 bt103.1 bt103.2.1 bt103.2.2)
theorem spec_mcBack.mono_l : ∀ k, (∀ y0 y1 y2 y3 y4 y5, LeO (spec_mcBack.l0 k y0 y1 y2 y3 y4 y5) (spec_mcBack.l0 (k + 1) y0 y1 y2 y3 y4 y5))
 | 0 => fun _ _ _ _ _ _ r h => by simp [spec_mcBack.l0] at h
 | k + 1 => by
  have ih0 := spec_mcBack.mono_l k
  ·intro y0 y1 y2 y3 y4 y5
   unfold spec_mcBack.l0
   have im0 := @spec_tiRun.mono; exact mo
theorem spec_mcBack.mono : ∀ a0 a1 a2 a3 k, LeO (spec_mcBack.f k a0 a1 a2 a3) (spec_mcBack.f (k + 1) a0 a1 a2 a3) := by
 intro a0 a1 a2 a3 k
 have ih0 := spec_mcBack.mono_l k
 unfold spec_mcBack.f
 have im0 := @spec_tiRun.mono; exact mo
def spec_tyBalls.l0 : Nat → List Int → List Int → Int → Int → Option (List Int)
 | 0, _, _, _, _ => none
 | k + 1, x3, x7, x8, x9 => if x9 < x8 then (if 0 ≤ x9 then (if x9 < (x7.length : Int) then ((spec_tyBall.f (rd x7 x9)).bind fun t103 => (if t103 = true then (if x3.length < 17592186044416 then (spec_tyBalls.l0 k (x3 ++ [x9]) x7 x8 (wrap64 (x9 + 1))) else (none)) else (spec_tyBalls.l0 k x3 x7 x8 (wrap64 (x9 + 1))))) else (none)) else (none)) else (some x3)
def spec_tyBalls.f (k : Nat) (a0_0 : Int) (a0_1 : Int) (l0_2 : List Int) : Option (List Int) := spec_tyBalls.l0 k ([] : List Int) l0_2 (l0_2.length : Int) 0
theorem spec_tyBalls.mono_l : ∀ k, (∀ y0 y1 y2 y3, LeO (spec_tyBalls.l0 k y0 y1 y2 y3) (spec_tyBalls.l0 (k + 1) y0 y1 y2 y3))
 | 0 => fun _ _ _ _ r h => by simp [spec_tyBalls.l0] at h
 | k + 1 => by
  have ih0 := spec_tyBalls.mono_l k
  ·intro y0 y1 y2 y3
   unfold spec_tyBalls.l0
   exact mo
theorem spec_tyBalls.mono : ∀ a0 a1 a2 k, LeO (spec_tyBalls.f k a0 a1 a2) (spec_tyBalls.f (k + 1) a0 a1 a2) := by
 intro a0 a1 a2 k
 have ih0 := spec_tyBalls.mono_l k
 unfold spec_tyBalls.f
 exact mo
set_option maxHeartbeats 8000000 in
set_option maxRecDepth 100000 in
theorem spec_tyBalls.calls (k : Nat) (a0_0 : Int) (a0_1 : Int) (A0_2 : Option Addr) (c0_2 : Nat) (l0_2 : List Int) (r : List Int) (w : World) (hr0_2 : Kd.C (Kd.int .u8) w A0_2 l0_2.length l0_2) (hc0_2 : l0_2.length ≤ c0_2) (h : spec_tyBalls.f k a0_0 a0_1 l0_2 = some r) :
  Calls Tryz.prog 153 #[.agg #[.int .i64 a0_0, .int .i64 a0_1, .slice A0_2 l0_2.length c0_2]] w fun e w' => ∃ v0_ : Value, e = .returned (v0_) ∧ Kd.R (Kd.int .i64) 3 w' w.heap.size (fun _ => True) v0_ r ∧ Below w.heap.size w w' := by
 have hu62 := Tryz.underlying62
 have HR0_2 := am hr0_2
 have HC0_2 := am hc0_2
 clear hr0_2 hc0_2
 have HB := am (Below.refl w.heap.size w)
 have H : (spec_tyBalls.l0 k ([] : List Int) l0_2 (l0_2.length : Int) 0) = some r := h
 clear h
 have H' := am H
 clear H
 go_enter Tryz.func153, Tryz.ntmps153
 go_wp2_with (first | ((with_reducible refine gate_dst (N := 1) rfl ?_); refine box_event ?hg (N := 1) ?hd (cs := #[.int .i64 a0_0, .int .i64 a0_1, .slice A0_2 l0_2.length c0_2]) (t := 62) ?hr ?_; (case hd => rfl); (case hg => rfl); (case hr => exact aq19); intro gb101 hg w2 hbox hb; have n0_ := am (below_step aq1 hb); have n1_ := am (hbox); have n2_ := am ((by rw [hg]; exact (below_size aq1) : w.heap.size ≤ gb101)); have n3_ := am ((by rw [hg]; exact (below_size aq1) : w.heap.size ≤ gb101)); clear HB; have HB := n0_; have BK101 := n1_; have GW101 := n2_; have GE101 := n3_; clear n0_ n1_ n2_ n3_; clear hb hbox hg; obtain ⟨hcz3_0, hcz3_1, hcz3_2, hfz3_0, hfz3_1, hfz3_2⟩ := blk3_ BK101.out))
 go_loopg [3, 9] k (fun kq v3 v9 w' => ∃ (x3_1 : List Int) (x9_1 : Int), v9 = .int .i64 x9_1 ∧ Aside0 (spec_tyBalls.l0 kq x3_1 l0_2 (l0_2.length : Int) x9_1 = some r) ∧ Aside0 (kq ≤ k) ∧ Aside0 (Kd.R (Kd.int .i64) 3 w' w.heap.size (fun _ => True) v3 x3_1) ∧ Aside0 (w'.heap[gb101]? = some (.cells #[.int .i64 a0_0, .int .i64 a0_1, (.slice A0_2 l0_2.length c0_2)] 62 (0, 0))) ∧ Aside0 (Below w.heap.size w w'))
 case atStart => exact ⟨(([] : List Int)), (0), aq6, H', ⟨Nat.le_refl _⟩, ⟨aq17⟩, ⟨aq2⟩, ⟨aq0⟩⟩
 case round =>
  clear H'
  try clear c1
  try clear p2
  try clear hcz3_0
  try clear hcz3_1
  try clear hcz3_2
  try clear hfz3_0
  try clear hfz3_1
  try clear hfz3_2
  obtain ⟨x3_1, x9_1, rfl, HA, HK1, HO_3, BK101, HB⟩ := hrel
  cases gk with
  | zero => exact absurd HA.out (by simp [spec_tyBalls.l0])
  | succ k1 =>
   have H := HA.out
   clear HA
   simp only [spec_tyBalls.l0] at H
   by_cases c4 : x9_1 < (l0_2.length : Int)
   ·rw [if_pos c4] at H
    have c4b0 := decide_eq_true c4
    clear c4
    by_cases c5 : 0 ≤ x9_1
    ·rw [if_pos c5] at H
     have c5b0 := decide_eq_true c5
     clear c5
     by_cases c6 : x9_1 < (l0_2.length : Int)
     ·rw [if_pos c6] at H
      have c6b0 := decide_eq_true c6
      clear c6
      obtain ⟨t103, A70, H⟩ := Option.bind_eq_some_iff.mp H
      have A7 := am A70
      clear A70
      by_cases c8 : t103 = true
      ·subst c8
       rw [if_pos rfl] at H
       by_cases c9 : x3_1.length < 17592186044416
       ·rw [if_pos c9] at H
        have LMc9 := am c9
        clear c9
        obtain ⟨y104, hy_⟩ : ∃ y_ : List Int, y_ = (x3_1 ++ [x9_1]) := ⟨_, rfl⟩
        replace H : (spec_tyBalls.l0 k1 y104 l0_2 (l0_2.length : Int) (wrap64 (x9_1 + 1))) = some r := aq3
        have Ny104 := am hy_
        clear hy_
        have H' := am H
        clear H
        have p102 : 0 ≤ (x9_1 : Int) := of_decide_eq_true aq5
        have q102 : x9_1 < (l0_2.length : Int) := of_decide_eq_true aq5
        obtain ⟨ad102, e102, hx102_0⟩ := Kd.at_int HR0_2.out x9_1 p102 q102
        cases e102
        try replace hx102_0 := (HB.out.cell (World.block_lt_of_cell? w _ hx102_0)).trans hx102_0
        replace p102 := eq_true p102
        replace q102 := eq_true q102
        go_wp2_with (first | ((with_reducible refine gate_callee (f := 100) rfl ?_); refine goesL_ (some 15) rfl rfl Tryz.func100 (by kernel_rfl) rfl #[.int .u8 (rd l0_2 x9_1)] rfl aq4 ?_; (with_reducible refine (spec_tyBall.calls (rd l0_2 x9_1) true _ A7.out).mono ?_); rintro e w' ⟨rfl, ⟨nd, rfl⟩⟩; refine ⟨_, rfl, ?_⟩) | ((with_reducible refine gate_builtin (b := .append) (xs := #[.tmp 16, .tmp 18]) rfl ?_); at_builtin; refine Kd.R_append (Kd.int .i64) (w0 := w) w.heap.size rfl (.tmp 16) (.tmp 18) 28 3 (.int .i64 0) 8 rfl Tryz.underlying28 info3 rfl (by decide) (by omega) u3 x3_1 x9_1 [.int .i64 x9_1] (fun _ => True) (fun _ => False) rfl rfl ?aP (fun _ hk => hk.elim) ?aF ?aO ?aB ?aS ?aL ?_; (case aP => exact rfl); (case aB => exact aq0); (case aF => exact aq75); (case aO => exact aq51); (case aS => exact aq74); (case aL => have := LMc9.out; omega); intro v105 w10 ho hb hg hat; rw [← Ny104.out] at ho; have n0_ := am (blk_grown (g := gb101) (o := .cells #[.int .i64 a0_0, .int .i64 a0_1, .slice (some ad102) l0_2.length c0_2] 62 (0, 0)) aq2 hg (Kd.R_ne HO_3.out BK101.out (by decide))); have n1_ := am (hb); have n2_ := am (ho); clear BK101; clear HB; clear HO_3; have BK101 := n0_; have HB := n1_; have HO106 := n2_; clear n0_ n1_ n2_; clear ho hb hg hat))
        go_roundg k1
        case measure => have := HK1.out; omega
        case rel => exact ⟨(y104), (wrap64 (x9_1 + 1)), aq6, H', ⟨aq65⟩, ⟨aq40⟩, ⟨aq2⟩, ⟨aq0⟩⟩
       ·rw [if_neg c9] at H
        exact absurd H (by simp)
      ·replace c8 := Bool.eq_false_iff.mpr c8
       subst c8
       rw [if_neg Bool.false_ne_true] at H
       have H' := am H
       clear H
       have p102 : 0 ≤ (x9_1 : Int) := of_decide_eq_true aq5
       have q102 : x9_1 < (l0_2.length : Int) := of_decide_eq_true aq5
       obtain ⟨ad102, e102, hx102_0⟩ := Kd.at_int HR0_2.out x9_1 p102 q102
       cases e102
       try replace hx102_0 := (HB.out.cell (World.block_lt_of_cell? w _ hx102_0)).trans hx102_0
       replace p102 := eq_true p102
       replace q102 := eq_true q102
       go_wp2_with (first | ((with_reducible refine gate_callee (f := 100) rfl ?_); refine goesL_ (some 15) rfl rfl Tryz.func100 (by kernel_rfl) rfl #[.int .u8 (rd l0_2 x9_1)] rfl aq4 ?_; (with_reducible refine (spec_tyBall.calls (rd l0_2 x9_1) false _ A7.out).mono ?_); rintro e w' ⟨rfl, ⟨nd, rfl⟩⟩; refine ⟨_, rfl, ?_⟩))
       go_roundg k1
       case measure => have := HK1.out; omega
       case rel => exact ⟨(x3_1), (wrap64 (x9_1 + 1)), aq6, H', ⟨aq65⟩, ⟨aq51⟩, ⟨aq2⟩, ⟨aq0⟩⟩
     ·rw [if_neg c6] at H
      exact absurd H (by simp)
    ·rw [if_neg c5] at H
     exact absurd H (by simp)
   ·rw [if_neg c4] at H
    have c4b0 := decide_eq_false c4
    clear c4
    obtain rfl := Option.some.inj H
    go_wp2
    go_ret
    exact ⟨_, aq8, aq51, aq0⟩
mutual
def spec_mcPermutation.l0 : Nat → ByteArray → List Int → List Int → List Int → Int → Int → Int → Int → List Int → Option (List Int × Bool)
 | 0, _, _, _, _, _, _, _, _, _ => none
 | k + 1, x1, x8, x9, x31, x32, x33, x102000, x102001, x102002 => if x33 < x32 then (if 0 ≤ x33 then (if x33 < (x31.length : Int) then ((spec_tyCopy.f x102000 x102001 x102002).bind fun bt116 => (spec_mcPermutation.l1 k x1 x8 x9 x33 (rd x31 x33) x31 x32 x33 x8 (x8.length : Int) 0 x102000 x102001 x102002 bt116.1 bt116.2.1 bt116.2.2)) else (none)) else (none)) else (some (x9, true))
def spec_mcPermutation.l1 : Nat → ByteArray → List Int → List Int → Int → Int → List Int → Int → Int → List Int → Int → Int → Int → Int → List Int → Int → Int → List Int → Option (List Int × Bool)
 | 0, _, _, _, _, _, _, _, _, _, _, _, _, _, _, _, _, _ => none
 | k + 1, x1, x8, x9, x10, x11, x31, x32, x33, x40, x41, x42, x102000, x102001, x102002, x122000, x122001, x122002 => if x42 < x41 then (if 0 ≤ x42 then (if x42 < (x40.length : Int) then (if 0 ≤ (rd x40 x42) then (if (rd x40 x42) < (x122002.length : Int) then (spec_mcPermutation.l1 k x1 x8 x9 x10 x11 x31 x32 x33 x40 x41 (wrap64 (x42 + 1)) x102000 x102001 x102002 x122000 x122001 (x122002.set ((rd x40 x42) : Int).toNat 111)) else (none)) else (none)) else (none)) else (none)) else (if 0 ≤ x11 then (if x11 < (x122002.length : Int) then ((spec_tiRun.f k x122000 x122001 (x122002.set (x11 : Int).toNat 97) x1).bind fun bt125 => ((spec_tiPlace.f k bt125.1 bt125.2.1 bt125.2.2 97).bind fun t130 => (spec_mcPermutation.l2 k x1 x8 x9 x10 t130 x31 x32 x33 x8 (x8.length : Int) 0 x102000 x102001 x102002))) else (none)) else (none))
def spec_mcPermutation.l2 : Nat → ByteArray → List Int → List Int → Int → Int → List Int → Int → Int → List Int → Int → Int → Int → Int → List Int → Option (List Int × Bool)
 | 0, _, _, _, _, _, _, _, _, _, _, _, _, _, _ => none
 | k + 1, x1, x8, x9, x10, x15, x31, x32, x33, x59, x60, x61, x102000, x102001, x102002 => if x61 < x60 then (if 0 ≤ x61 then (if x61 < (x59.length : Int) then (if (rd x59 x61) = x15 then (if 0 ≤ x10 then (if x10 < (x9.length : Int) then (spec_mcPermutation.l2 k x1 x8 (x9.set (x10 : Int).toNat x61) x10 x15 x31 x32 x33 x59 x60 (wrap64 (x61 + 1)) x102000 x102001 x102002) else (none)) else (none)) else (spec_mcPermutation.l2 k x1 x8 x9 x10 x15 x31 x32 x33 x59 x60 (wrap64 (x61 + 1)) x102000 x102001 x102002)) else (none)) else (none)) else (spec_mcPermutation.l0 k x1 x8 x9 x31 x32 (wrap64 (x33 + 1)) x102000 x102001 x102002)
end
theorem spec_mcPermutation.mono_l : ∀ k, (∀ y0 y1 y2 y3 y4 y5 y6 y7 y8, LeO (spec_mcPermutation.l0 k y0 y1 y2 y3 y4 y5 y6 y7 y8) (spec_mcPermutation.l0 (k + 1) y0 y1 y2 y3 y4 y5 y6 y7 y8)) ∧ (∀ y0 y1 y2 y3 y4 y5 y6 y7 y8 y9 y10 y11 y12 y13 y14 y15 y16, LeO (spec_mcPermutation.l1 k y0 y1 y2 y3 y4 y5 y6 y7 y8 y9 y10 y11 y12 y13 y14 y15 y16) (spec_mcPermutation.l1 (k + 1) y0 y1 y2 y3 y4 y5 y6 y7 y8 y9 y10 y11 y12 y13 y14 y15 y16)) ∧ (∀ y0 y1 y2 y3 y4 y5 y6 y7 y8 y9 y10 y11 y12 y13, LeO (spec_mcPermutation.l2 k y0 y1 y2 y3 y4 y5 y6 y7 y8 y9 y10 y11 y12 y13) (spec_mcPermutation.l2 (k + 1) y0 y1 y2 y3 y4 y5 y6 y7 y8 y9 y10 y11 y12 y13))
 | 0 => ⟨fun _ _ _ _ _ _ _ _ _ r h => by simp [spec_mcPermutation.l0] at h, fun _ _ _ _ _ _ _ _ _ _ _ _ _ _ _ _ _ r h => by simp [spec_mcPermutation.l1] at h, fun _ _ _ _ _ _ _ _ _ _ _ _ _ _ r h => by simp [spec_mcPermutation.l2] at h⟩
 | k + 1 => by
  obtain ⟨ih0, ih1, ih2⟩ := spec_mcPermutation.mono_l k
  refine ⟨?_, ?_, ?_⟩
  ·intro y0 y1 y2 y3 y4 y5 y6 y7 y8
   unfold spec_mcPermutation.l0
   have im0 := @spec_mcBack.mono; have im1 := @spec_tiPlace.mono; have im2 := @spec_tiRun.mono; have im3 := @spec_tyBalls.mono; exact mo
  ·intro y0 y1 y2 y3 y4 y5 y6 y7 y8 y9 y10 y11 y12 y13 y14 y15 y16
   unfold spec_mcPermutation.l1
   have im0 := @spec_mcBack.mono; have im1 := @spec_tiPlace.mono; have im2 := @spec_tiRun.mono; have im3 := @spec_tyBalls.mono; exact mo
  ·intro y0 y1 y2 y3 y4 y5 y6 y7 y8 y9 y10 y11 y12 y13
   unfold spec_mcPermutation.l2
   have im0 := @spec_mcBack.mono; have im1 := @spec_tiPlace.mono; have im2 := @spec_tiRun.mono; have im3 := @spec_tyBalls.mono; exact mo



end Go.Proofs.YtdffgeoegdkiaaaGreatDoor.F

namespace Go.Proofs.YtdffgeoegdkiaaaGreatDoor.F
open Go.RowKit Go.Proofs.YtdffgeoegdkiaaaGreatDoor Go.Proofs.YtdffgeoegdkiaaaGreatDoorW.PrintWords Go.Proofs.YtdffgeoegdkiaaaGreatDoorW.PrintMore
theorem tyBallsZ_l0 {cs : List Int} (hl : cs.length ≤ 1000) : ∀ (d i : Nat), i + d = cs.length → Ev (fun k => spec_tyBalls.l0 k (castsI (idxTo isBallC cs i)) cs (cs.length : Int) i) (castsI (idxs isBallC cs))
  | 0, i, hi => by
    obtain rfl : i = cs.length := by omega
    refine Ev.step (f := fun _ => some (castsI (idxs isBallC cs))) (fun k => ?_) (Ev.now _)
    rw [spec_tyBalls.l0, if_neg (by omega), idxTo_all]
  | d + 1, i, hi => by
    have ih := tyBallsZ_l0 hl d (i + 1) (by omega)
    have hlen : (castsI (idxTo isBallC cs i)).length < 17592186044416 := by rw [castsI_length]; have := idxTo_lenZ isBallC cs i; omega
    have HW : Aside0 (wrap64 ((i : Int) + 1) = ((i + 1 : Nat) : Int)) := ⟨by rw [w64 (by omega) (by omega)]; rfl⟩
    refine Ev.step (fun k => ?_) ih
    rw [spec_tyBalls.l0, if_pos (by omega), if_pos (by omega), if_pos (by omega), rdN, spec_tyBall_is, Option.bind_some, if_pos hlen, HW.out, idxTo_succZ]
    exact ite_argZ _ (fun l => spec_tyBalls.l0 k l cs (cs.length : Int) ((i + 1 : Nat) : Int)) _ _
theorem tyBallsZ_ev (a b : Int) {cs : List Int} (hl : cs.length ≤ 1000) : Ev (fun k => spec_tyBalls.f k a b cs) (castsI (idxs isBallC cs)) := tyBallsZ_l0 hl cs.length 0 (by omega)
section
variable {w h : Nat} (hw : 1 ≤ w ∧ w ≤ 7) (hh : 1 ≤ h ∧ h ≤ 7) {cs : List Int} (hl : cs.length = w * h) {wd : ByteArray} (hs : isWordB (bytesOf wd) = true)
include hw hh hl hs
end
end Go.Proofs.YtdffgeoegdkiaaaGreatDoor.F

namespace Go.Proofs.YtdffgeoegdkiaaaGreatDoor.F
open Go.Proofs.YtdffgeoegdkiaaaGreatDoor
open Go.RowKit Go.Proofs.YtdffgeoegdkiaaaGreatDoorW.PrintWords Go.Proofs.YtdffgeoegdkiaaaGreatDoorW.PrintLast Go.Proofs.YtdffgeoegdkiaaaGreatDoorW.PrintMore
attribute [local go_sem] max2_int min2_int max_two min_two max_three min_three max_four min_four
def impl_isEmptied.f (k : Nat) (a0 : ByteArray) : Option (Bool) := (impl_IsTray.f k a0).bind fun t101 => (if t101 = true then ((strings_Trim.f a0 (⟨#[35, 46, 47]⟩ : ByteArray)).bind fun t102 => (some (t102.toList == ([] : List UInt8)))) else (some false))
theorem impl_isEmptied.mono : ∀ a0 k, LeO (impl_isEmptied.f k a0) (impl_isEmptied.f (k + 1) a0) := by
 intro a0 k
 unfold impl_isEmptied.f
 have im0 := @impl_IsTray.mono; exact mo
set_option maxHeartbeats 8000000 in
set_option maxRecDepth 100000 in
theorem impl_isEmptied.calls (k : Nat) (a0 : ByteArray) (r : Bool) (w : World) (h : impl_isEmptied.f k a0 = some r) :
  Calls Tryz.prog 134 #[.string a0] w fun e w' => e = .returned (.bool r) ∧ Below w.heap.size w w' := by
 have HB := am (Below.refl w.heap.size w)
 have H : ((impl_IsTray.f k a0).bind fun t101 => (if t101 = true then ((strings_Trim.f a0 (⟨#[35, 46, 47]⟩ : ByteArray)).bind fun t102 => (some (t102.toList == ([] : List UInt8)))) else (some false))) = some r := h
 clear h
 obtain ⟨t101, A20, H⟩ := Option.bind_eq_some_iff.mp H
 have A2 := am A20
 clear A20
 by_cases c3 : t101 = true
 ·subst c3
  rw [if_pos rfl] at H
  obtain ⟨t102, A40, H⟩ := Option.bind_eq_some_iff.mp H
  have A4 := am A40
  clear A40
  obtain rfl := Option.some.inj H
  go_enter Tryz.func134, Tryz.ntmps134
  go_wp2_with (first | ((with_reducible refine gate_callee (f := 55) rfl ?_); refine goesL_ (some 4) rfl rfl Tryz.func55 (by kernel_rfl) rfl #[.string a0] rfl aq4 ?_; (with_reducible refine (impl_IsTray.calls k a0 true _ A2.out).mono ?_); rintro e w5 ⟨rfl, hb⟩; refine ⟨_, rfl, ?_⟩; have n0_ := am (below_step aq1 hb); clear HB; have HB := n0_; clear n0_; (try clear hb); (try clear hb2); (try clear hk); (try clear hi)) | (go_at_call 103; (with_reducible refine (strings_Trim.calls a0 (⟨#[35, 46, 47]⟩ : ByteArray) t102 _ A4.out).mono ?_); rintro e w6 ⟨rfl, hb⟩; have n0_ := am (below_step aq1 hb); clear HB; have HB := n0_; clear n0_; (try clear hb); (try clear hb2); (try clear hk); (try clear hi)))
  go_ret
  exact ⟨aq8, aq1⟩
 ·replace c3 := Bool.eq_false_iff.mpr c3
  subst c3
  rw [if_neg Bool.false_ne_true] at H
  obtain rfl := Option.some.inj H
  go_enter Tryz.func134, Tryz.ntmps134
  go_wp2_with (first | ((with_reducible refine gate_callee (f := 55) rfl ?_); refine goesL_ (some 4) rfl rfl Tryz.func55 (by kernel_rfl) rfl #[.string a0] rfl aq4 ?_; (with_reducible refine (impl_IsTray.calls k a0 false _ A2.out).mono ?_); rintro e w7 ⟨rfl, hb⟩; refine ⟨_, rfl, ?_⟩; have n0_ := am (below_step aq1 hb); clear HB; have HB := n0_; clear n0_; (try clear hb); (try clear hb2); (try clear hk); (try clear hi)))
  go_ret
  exact ⟨aq8, aq1⟩
def impl_isLooked.f (k : Nat) (a0 : ByteArray) : Option (Bool) := (impl_isEmptied.f k a0).bind fun t101 => (if t101 = true then ((impl_read.f a0).bind fun bt102 => ((impl_tray_indices__impl_isOpen.f k bt102.1 bt102.2.1 bt102.2.2).bind fun t107 => (some (decide ((t107.length : Int) ≤ 16))))) else (some false))
theorem impl_isLooked.mono : ∀ a0 k, LeO (impl_isLooked.f k a0) (impl_isLooked.f (k + 1) a0) := by
 intro a0 k
 unfold impl_isLooked.f
 have im0 := @impl_isEmptied.mono; have im1 := @impl_tray_indices__impl_isOpen.mono; exact mo
set_option maxHeartbeats 8000000 in
set_option maxRecDepth 100000 in
theorem impl_isLooked.calls (k : Nat) (a0 : ByteArray) (r : Bool) (w : World) (h : impl_isLooked.f k a0 = some r) :
  Calls Tryz.prog 94 #[.string a0] w fun e w' => e = .returned (.bool r) ∧ Below w.heap.size w w' := by
 have HB := am (Below.refl w.heap.size w)
 have H : ((impl_isEmptied.f k a0).bind fun t101 => (if t101 = true then ((impl_read.f a0).bind fun bt102 => ((impl_tray_indices__impl_isOpen.f k bt102.1 bt102.2.1 bt102.2.2).bind fun t107 => (some (decide ((t107.length : Int) ≤ 16))))) else (some false))) = some r := h
 clear h
 obtain ⟨t101, A20, H⟩ := Option.bind_eq_some_iff.mp H
 have A2 := am A20
 clear A20
 by_cases c3 : t101 = true
 ·subst c3
  rw [if_pos rfl] at H
  replace H := Option.bind_eq_some_iff.mp H
  obtain ⟨⟨t102, t103, t104⟩, A40, H⟩ := H
  replace H : ((impl_tray_indices__impl_isOpen.f k t102 t103 t104).bind fun t107 => (some (decide ((t107.length : Int) ≤ 16)))) = some r := H
  have A4 := am A40
  clear A40
  obtain ⟨t107, A50, H⟩ := Option.bind_eq_some_iff.mp H
  have A5 := am A50
  clear A50
  obtain rfl := Option.some.inj H
  go_enter Tryz.func94, Tryz.ntmps94
  go_wp2_with (first | ((with_reducible refine gate_callee (f := 134) rfl ?_); refine goesL_ (some 4) rfl rfl Tryz.func134 (by kernel_rfl) rfl #[.string a0] rfl aq4 ?_; (with_reducible refine (impl_isEmptied.calls k a0 true _ A2.out).mono ?_); rintro e w6 ⟨rfl, hb⟩; refine ⟨_, rfl, ?_⟩; have n0_ := am (below_step aq1 hb); clear HB; have HB := n0_; clear n0_; (try clear hb); (try clear hb2); (try clear hk); (try clear hi)) | (go_at_call 89; (with_reducible refine (impl_read.calls a0 t102 t103 t104 _ A4.out).mono ?_); rintro e w7 ⟨v105, rfl, ho0, hb⟩; have n0_ := am (Kd.V_lower (Kd.V_mono (ok' := fun k_ => True) ho0 (fun k_ hk_ => trivial)) (below_size aq1)); have n1_ := am (below_step aq1 hb); clear HB; have HO106 := n0_; have HB := n1_; clear n0_ n1_; (try clear hb); (try clear hb2); (try clear hk); (try clear hi); (try clear ho0); obtain ⟨Ao8, co8, eo8⟩ := Kd.V_slice HO106.out; subst eo8) | (go_at_call 106; (with_reducible refine (impl_tray_indices__impl_isOpen.calls k t102 t103 _ _ t104  t107 _ ?side1 ?side2 A5.out).mono ?_); (case side1 => repeat (first | exact (Kd.V_reads' HO106.out).2.2 | (with_reducible refine Kd.C_alloc ?_ _) | (with_reducible refine Kd.C_drewN ?_ _) | (with_reducible refine Kd.C_drew ?_))); (case side2 => exact (Kd.V_reads' HO106.out).2.1); rintro e w9 ⟨v108, rfl, ho0, hb⟩; have n0_ := am (Kd.V_elder' (by (with_reducible repeat (first | apply Kd.V_alloc | apply Kd.V_drewN | apply Kd.V_drew)); exact HO106.out) (Kd.R_base ho0) hb); have n1_ := am (Kd.R_lower ho0 (below_size aq1)); have n2_ := am (below_step aq1 hb); clear HO106; clear HB; have HO106 := n0_; have HO109 := n1_; have HB := n2_; clear n0_ n1_ n2_; (try clear hb); (try clear hb2); (try clear hk); (try clear hi); (try clear ho0); obtain ⟨Ao10, co10, eo10⟩ := Kd.R_slice HO109.out; subst eo10))
  go_ret
  exact ⟨aq8, aq1⟩
 ·replace c3 := Bool.eq_false_iff.mpr c3
  subst c3
  rw [if_neg Bool.false_ne_true] at H
  obtain rfl := Option.some.inj H
  go_enter Tryz.func94, Tryz.ntmps94
  go_wp2_with (first | ((with_reducible refine gate_callee (f := 134) rfl ?_); refine goesL_ (some 4) rfl rfl Tryz.func134 (by kernel_rfl) rfl #[.string a0] rfl aq4 ?_; (with_reducible refine (impl_isEmptied.calls k a0 false _ A2.out).mono ?_); rintro e w11 ⟨rfl, hb⟩; refine ⟨_, rfl, ?_⟩; have n0_ := am (below_step aq1 hb); clear HB; have HB := n0_; clear n0_; (try clear hb); (try clear hb2); (try clear hk); (try clear hi)))
  go_ret
  exact ⟨aq8, aq1⟩
def impl_areDirs.l0 : Nat → ByteArray → Int → Int → Option (Bool)
 | 0, _, _, _ => none
 | k + 1, x0, x5, x6 => if x6 < x5 then (if 0 ≤ x6 then (if x6 ≤ (wrap64 (x6 + 1)) then (if (wrap64 (x6 + 1)) ≤ (x0.size : Int) then ((strings_Count.f x0 (x0.extract (x6 : Int).toNat ((wrap64 (x6 + 1)) : Int).toNat)).bind fun t101 => (if t101 > 1 then (some false) else (impl_areDirs.l0 k x0 x5 (wrap64 (x6 + 1))))) else (none)) else (none)) else (none)) else ((impl_IsWord.f x0).bind fun t102 => (some t102))
def impl_areDirs.f (k : Nat) (a0 : ByteArray) : Option (Bool) := impl_areDirs.l0 k a0 (a0.size : Int) 0
theorem impl_areDirs.mono_l : ∀ k, (∀ y0 y1 y2, LeO (impl_areDirs.l0 k y0 y1 y2) (impl_areDirs.l0 (k + 1) y0 y1 y2))
 | 0 => fun _ _ _ r h => by simp [impl_areDirs.l0] at h
 | k + 1 => by
  have ih0 := impl_areDirs.mono_l k
  ·intro y0 y1 y2
   unfold impl_areDirs.l0
   exact mo
theorem impl_areDirs.mono : ∀ a0 k, LeO (impl_areDirs.f k a0) (impl_areDirs.f (k + 1) a0) := by
 intro a0 k
 have ih0 := impl_areDirs.mono_l k
 unfold impl_areDirs.f
 exact mo
set_option maxHeartbeats 8000000 in
set_option maxRecDepth 100000 in
theorem impl_areDirs.calls (k : Nat) (a0 : ByteArray) (r : Bool) (w : World) (h : impl_areDirs.f k a0 = some r) :
  Calls Tryz.prog 95 #[.string a0] w fun e w' => e = .returned (.bool r) ∧ Below w.heap.size w w' := by
 have HB := am (Below.refl w.heap.size w)
 have H : (impl_areDirs.l0 k a0 (a0.size : Int) 0) = some r := h
 clear h
 have H' := am H
 clear H
 go_enter Tryz.func95, Tryz.ntmps95
 go_wp2
 go_loopg [6] k (fun kq v6 w' => ∃ (x6_1 : Int), v6 = .int .i64 x6_1 ∧ Aside0 (impl_areDirs.l0 kq a0 (a0.size : Int) x6_1 = some r) ∧ Aside0 (kq ≤ k) ∧ Aside0 (Below w.heap.size w w'))
 case atStart => exact ⟨(0), aq6, H', ⟨Nat.le_refl _⟩, ⟨aq1⟩⟩
 case round =>
  clear H'
  obtain ⟨x6_1, rfl, HA, HK1, HB⟩ := hrel
  cases gk with
  | zero => exact absurd HA.out (by simp [impl_areDirs.l0])
  | succ k1 =>
   have H := HA.out
   clear HA
   simp only [impl_areDirs.l0] at H
   by_cases c2 : x6_1 < (a0.size : Int)
   ·rw [if_pos c2] at H
    have c2b0 := decide_eq_true c2
    clear c2
    by_cases c3 : 0 ≤ x6_1
    ·rw [if_pos c3] at H
     have c3b0 := eq_true c3
     have c3b1 := decide_eq_true c3
     clear c3
     by_cases c4 : x6_1 ≤ (wrap64 (x6_1 + 1))
     ·rw [if_pos c4] at H
      have c4b0 := eq_true c4
      have c4b1 := decide_eq_true c4
      by_cases c5 : (wrap64 (x6_1 + 1)) ≤ (a0.size : Int)
      ·rw [if_pos c5] at H
       have c5b0 := eq_true c5
       have c5b1 := decide_eq_true c5
       obtain ⟨t101, A60, H⟩ := Option.bind_eq_some_iff.mp H
       have A6 := am A60
       clear A60
       by_cases c7 : t101 > 1
       ·rw [if_pos c7] at H
        have c7b0 := decide_eq_true c7
        clear c7
        obtain rfl := Option.some.inj H
        go_wp2_with (first | ((with_reducible refine gate_callee (f := 104) rfl ?_); refine goesL_ (some 15) rfl rfl Tryz.func104 (by kernel_rfl) rfl #[.string a0, .string (a0.extract (x6_1 : Int).toNat ((wrap64 (x6_1 + 1)) : Int).toNat)] rfl aq4 ?_; (with_reducible refine (strings_Count.calls a0 (a0.extract (x6_1 : Int).toNat ((wrap64 (x6_1 + 1)) : Int).toNat) t101 _ A6.out).mono ?_); rintro e w' ⟨rfl, ⟨nd, rfl⟩⟩; refine ⟨_, rfl, ?_⟩))
        go_ret
        exact ⟨aq8, aq1⟩
       ·rw [if_neg c7] at H
        have c7b0 := decide_eq_false c7
        clear c7
        have H' := am H
        clear H
        go_wp2_with (first | ((with_reducible refine gate_callee (f := 104) rfl ?_); refine goesL_ (some 15) rfl rfl Tryz.func104 (by kernel_rfl) rfl #[.string a0, .string (a0.extract (x6_1 : Int).toNat ((wrap64 (x6_1 + 1)) : Int).toNat)] rfl aq4 ?_; (with_reducible refine (strings_Count.calls a0 (a0.extract (x6_1 : Int).toNat ((wrap64 (x6_1 + 1)) : Int).toNat) t101 _ A6.out).mono ?_); rintro e w' ⟨rfl, ⟨nd, rfl⟩⟩; refine ⟨_, rfl, ?_⟩))
        go_roundg k1
        case measure => have := HK1.out; omega
        case rel => exact ⟨(wrap64 (x6_1 + 1)), aq6, H', ⟨aq65⟩, ⟨aq1⟩⟩
      ·rw [if_neg c5] at H
       exact absurd H (by simp)
     ·rw [if_neg c4] at H
      exact absurd H (by simp)
    ·rw [if_neg c3] at H
     exact absurd H (by simp)
   ·rw [if_neg c2] at H
    have c2b0 := decide_eq_false c2
    clear c2
    obtain ⟨t102, A80, H⟩ := Option.bind_eq_some_iff.mp H
    have A8 := am A80
    clear A80
    obtain rfl := Option.some.inj H
    go_wp2_with (first | ((with_reducible refine gate_callee (f := 65) rfl ?_); refine goesL_ (some 19) rfl rfl Tryz.func65 (by kernel_rfl) rfl #[.string a0] rfl aq4 ?_; (with_reducible refine (impl_IsWord.calls a0 t102 _ A8.out).mono ?_); rintro e w9 ⟨rfl, hb⟩; refine ⟨_, rfl, ?_⟩; have n0_ := am (below_step aq1 hb); clear HB; have HB := n0_; clear n0_; (try clear hb); (try clear hb2); (try clear hk); (try clear hi)))
    go_ret
    exact ⟨aq8, aq1⟩
def impl_CountCorner.f (k : Nat) (a0 : ByteArray) (a1 : ByteArray) : Option (Int × Bool) := (impl_isLooked.f k a0).bind fun t101 => (if t101 = true then ((impl_areDirs.f k a1).bind fun t102 => (if t102 = true then ((impl_stills.f k a0 a1).bind fun t103 => (some ((t103.length : Int), true))) else (some (0, false)))) else (some (0, false)))
theorem impl_CountCorner.mono : ∀ a0 a1 k, LeO (impl_CountCorner.f k a0 a1) (impl_CountCorner.f (k + 1) a0 a1) := by
 intro a0 a1 k
 unfold impl_CountCorner.f
 have im0 := @impl_areDirs.mono; have im1 := @impl_isLooked.mono; have im2 := @impl_stills.mono; exact mo
set_option maxHeartbeats 8000000 in
set_option maxRecDepth 100000 in
theorem impl_CountCorner.calls (k : Nat) (a0 : ByteArray) (a1 : ByteArray) (r1 : Int) (r2 : Bool) (w : World) (h : impl_CountCorner.f k a0 a1 = some (r1, r2)) :
  Calls Tryz.prog 48 #[.string a0, .string a1] w fun e w' => e = .returned (.tuple #[.int .i64 r1, .bool r2]) ∧ Below w.heap.size w w' := by
 have HB := am (Below.refl w.heap.size w)
 have H : ((impl_isLooked.f k a0).bind fun t101 => (if t101 = true then ((impl_areDirs.f k a1).bind fun t102 => (if t102 = true then ((impl_stills.f k a0 a1).bind fun t103 => (some ((t103.length : Int), true))) else (some (0, false)))) else (some (0, false)))) = some (r1, r2) := h
 clear h
 obtain ⟨t101, A30, H⟩ := Option.bind_eq_some_iff.mp H
 have A3 := am A30
 clear A30
 by_cases c4 : t101 = true
 ·subst c4
  rw [if_pos rfl] at H
  obtain ⟨t102, A50, H⟩ := Option.bind_eq_some_iff.mp H
  have A5 := am A50
  clear A50
  by_cases c6 : t102 = true
  ·subst c6
   rw [if_pos rfl] at H
   obtain ⟨t103, A70, H⟩ := Option.bind_eq_some_iff.mp H
   have A7 := am A70
   clear A70
   simp only [Option.some.injEq, Prod.mk.injEq] at H
   obtain ⟨rfl, rfl⟩ := H
   go_enter Tryz.func48, Tryz.ntmps48
   go_wp2_with (first | ((with_reducible refine gate_callee (f := 94) rfl ?_); refine goesL_ (some 7) rfl rfl Tryz.func94 (by kernel_rfl) rfl #[.string a0] rfl aq4 ?_; (with_reducible refine (impl_isLooked.calls k a0 true _ A3.out).mono ?_); rintro e w8 ⟨rfl, hb⟩; refine ⟨_, rfl, ?_⟩; have n0_ := am (below_step aq1 hb); clear HB; have HB := n0_; clear n0_; (try clear hb); (try clear hb2); (try clear hk); (try clear hi)) | (go_at_call 95; (with_reducible refine (impl_areDirs.calls k a1 true _ A5.out).mono ?_); rintro e w9 ⟨rfl, hb⟩; have n0_ := am (below_step aq1 hb); clear HB; have HB := n0_; clear n0_; (try clear hb); (try clear hb2); (try clear hk); (try clear hi)) | ((with_reducible refine gate_callee (f := 96) rfl ?_); refine goesL_ (some 16) rfl rfl Tryz.func96 (by kernel_rfl) rfl #[.string a0, .string a1] rfl aq4 ?_; (with_reducible refine (impl_stills.calls k a0 a1 t103 _ A7.out).mono ?_); rintro e w10 ⟨v104, rfl, ho0, hb⟩; refine ⟨_, rfl, ?_⟩; have n0_ := am (Kd.R_lower ho0 (below_size aq1)); have n1_ := am (below_step aq1 hb); clear HB; have HO105 := n0_; have HB := n1_; clear n0_ n1_; (try clear hb); (try clear hb2); (try clear hk); (try clear hi); (try clear ho0); obtain ⟨Ao11, co11, eo11⟩ := Kd.R_slice HO105.out; subst eo11))
   go_ret2
   exact ⟨aq8, aq1⟩
  ·replace c6 := Bool.eq_false_iff.mpr c6
   subst c6
   rw [if_neg Bool.false_ne_true] at H
   simp only [Option.some.injEq, Prod.mk.injEq] at H
   obtain ⟨rfl, rfl⟩ := H
   go_enter Tryz.func48, Tryz.ntmps48
   go_wp2_with (first | ((with_reducible refine gate_callee (f := 94) rfl ?_); refine goesL_ (some 7) rfl rfl Tryz.func94 (by kernel_rfl) rfl #[.string a0] rfl aq4 ?_; (with_reducible refine (impl_isLooked.calls k a0 true _ A3.out).mono ?_); rintro e w12 ⟨rfl, hb⟩; refine ⟨_, rfl, ?_⟩; have n0_ := am (below_step aq1 hb); clear HB; have HB := n0_; clear n0_; (try clear hb); (try clear hb2); (try clear hk); (try clear hi)) | (go_at_call 95; (with_reducible refine (impl_areDirs.calls k a1 false _ A5.out).mono ?_); rintro e w13 ⟨rfl, hb⟩; have n0_ := am (below_step aq1 hb); clear HB; have HB := n0_; clear n0_; (try clear hb); (try clear hb2); (try clear hk); (try clear hi)))
   go_ret2
   exact ⟨aq8, aq1⟩
 ·replace c4 := Bool.eq_false_iff.mpr c4
  subst c4
  rw [if_neg Bool.false_ne_true] at H
  simp only [Option.some.injEq, Prod.mk.injEq] at H
  obtain ⟨rfl, rfl⟩ := H
  go_enter Tryz.func48, Tryz.ntmps48
  go_wp2_with (first | ((with_reducible refine gate_callee (f := 94) rfl ?_); refine goesL_ (some 7) rfl rfl Tryz.func94 (by kernel_rfl) rfl #[.string a0] rfl aq4 ?_; (with_reducible refine (impl_isLooked.calls k a0 false _ A3.out).mono ?_); rintro e w14 ⟨rfl, hb⟩; refine ⟨_, rfl, ?_⟩; have n0_ := am (below_step aq1 hb); clear HB; have HB := n0_; clear n0_; (try clear hb); (try clear hb2); (try clear hk); (try clear hi)))
  go_ret2
  exact ⟨aq8, aq1⟩
mutual
def spec_cnBare.j0 : Nat → Bool → Int → Int → List Int → Option (Int × Int × List Int × Int × Bool)
 | 0, _, _, _, _ => none
 | k + 1, x22, x109000, x109001, x109002 => if x22 = true then (some (x109000, x109001, x109002, 0, false)) else (spec_cnBare.l0 k 0 x109002 (x109002.length : Int) 0 x109000 x109001 x109002)
def spec_cnBare.l0 : Nat → Int → List Int → Int → Int → Int → Int → List Int → Option (Int × Int × List Int × Int × Bool)
 | 0, _, _, _, _, _, _, _ => none
 | k + 1, x7, x25, x26, x27, x109000, x109001, x109002 => if x27 < x26 then (if 0 ≤ x27 then (if x27 < (x25.length : Int) then (if (rd x25 x27) = 46 then (spec_cnBare.l0 k (wrap64 (x7 + 1)) x25 x26 (wrap64 (x27 + 1)) x109000 x109001 x109002) else (spec_cnBare.l0 k x7 x25 x26 (wrap64 (x27 + 1)) x109000 x109001 x109002)) else (none)) else (none)) else (some (x109000, x109001, x109002, x7, true))
end
def spec_cnBare.f (k : Nat) (a0 : ByteArray) : Option (Int × Int × List Int × Int × Bool) := (spec_tyRead.f k a0).bind fun bt102 => (if bt102.2.2.2 = true then ((spec_tyBalls.f k bt102.1 bt102.2.1 bt102.2.2.1).bind fun t109 => (spec_cnBare.j0 k (decide ((t109.length : Int) > 0)) bt102.1 bt102.2.1 bt102.2.2.1)) else (spec_cnBare.j0 k true bt102.1 bt102.2.1 bt102.2.2.1))
theorem spec_cnBare.mono_l : ∀ k, (∀ y0 y1 y2 y3, LeO (spec_cnBare.j0 k y0 y1 y2 y3) (spec_cnBare.j0 (k + 1) y0 y1 y2 y3)) ∧ (∀ y0 y1 y2 y3 y4 y5 y6, LeO (spec_cnBare.l0 k y0 y1 y2 y3 y4 y5 y6) (spec_cnBare.l0 (k + 1) y0 y1 y2 y3 y4 y5 y6))
 | 0 => ⟨fun _ _ _ _ r h => by simp [spec_cnBare.j0] at h, fun _ _ _ _ _ _ _ r h => by simp [spec_cnBare.l0] at h⟩
 | k + 1 => by
  obtain ⟨ih0, ih1⟩ := spec_cnBare.mono_l k
  refine ⟨?_, ?_⟩
  ·intro y0 y1 y2 y3
   unfold spec_cnBare.j0
   have im0 := @spec_tyBalls.mono; have im1 := @spec_tyRead.mono; exact mo
  ·intro y0 y1 y2 y3 y4 y5 y6
   unfold spec_cnBare.l0
   have im0 := @spec_tyBalls.mono; have im1 := @spec_tyRead.mono; exact mo
theorem spec_cnBare.mono : ∀ a0 k, LeO (spec_cnBare.f k a0) (spec_cnBare.f (k + 1) a0) := by
 intro a0 k
 obtain ⟨ih0, ih1⟩ := spec_cnBare.mono_l k
 unfold spec_cnBare.f
 have im0 := @spec_tyBalls.mono; have im1 := @spec_tyRead.mono; exact mo
set_option maxHeartbeats 8000000 in
set_option maxRecDepth 100000 in
theorem spec_cnBare.calls (k : Nat) (a0 : ByteArray) (r1 : Int) (r2 : Int) (r3 : List Int) (r4 : Int) (r5 : Bool) (w : World) (h : spec_cnBare.f k a0 = some (r1, r2, r3, r4, r5)) :
  Calls Tryz.prog 130 #[.string a0] w fun e w' => ∃ v2_ : Value, e = .returned (.tuple #[.agg #[.int .i64 r1, .int .i64 r2, v2_], .int .i64 r4, .bool r5]) ∧ Kd.R (Kd.int .u8) 5 w' w.heap.size (fun _ => True) v2_ r3 ∧ Below w.heap.size w w' := by
 have hu62 := Tryz.underlying62
 have HB := am (Below.refl w.heap.size w)
 have H : ((spec_tyRead.f k a0).bind fun bt102 => (if bt102.2.2.2 = true then ((spec_tyBalls.f k bt102.1 bt102.2.1 bt102.2.2.1).bind fun t109 => (spec_cnBare.j0 k (decide ((t109.length : Int) > 0)) bt102.1 bt102.2.1 bt102.2.2.1)) else (spec_cnBare.j0 k true bt102.1 bt102.2.1 bt102.2.2.1))) = some (r1, r2, r3, r4, r5) := h
 clear h
 replace H := Option.bind_eq_some_iff.mp H
 obtain ⟨⟨t102, t103, t104, t107⟩, A20, H⟩ := H
 replace H : (if t107 = true then ((spec_tyBalls.f k t102 t103 t104).bind fun t109 => (spec_cnBare.j0 k (decide ((t109.length : Int) > 0)) t102 t103 t104)) else (spec_cnBare.j0 k true t102 t103 t104)) = some (r1, r2, r3, r4, r5) := H
 have A2 := am A20
 clear A20
 have HC3 := am H
 clear H
 go_enter Tryz.func130, Tryz.ntmps130
 go_upto_region 2 with (first | ((with_reducible refine gate_dst (N := 2) rfl ?_); (try (refine gate_guard (by rfl) ?_; dsimp only)); refine box_event ?hg (N := 2) ?hd (cs := #[.int .i64 0, .int .i64 0, .slice none 0 0]) (t := 62) ?hr ?_; (case hd => rfl); (case hg => rfl); (case hr => exact aq19); intro gb101 hg w4 hbox hb; have n0_ := am (below_step aq1 hb); have n1_ := am (hbox); have n2_ := am ((by rw [hg]; exact (below_size aq1) : w.heap.size ≤ gb101)); have n3_ := am ((by rw [hg]; exact (below_size aq1) : w.heap.size ≤ gb101)); clear HB; have HB := n0_; have BK101 := n1_; have GW101 := n2_; have GE101 := n3_; clear n0_ n1_ n2_ n3_; clear hb hbox hg) | ((with_reducible refine gate_callee (f := 51) rfl ?_); refine goesL_ (some 12) rfl rfl Tryz.func51 (by kernel_rfl) rfl #[.string a0] rfl aq4 ?_; (with_reducible refine (spec_tyRead.calls k a0 t102 t103 t104 t107 _ A2.out).mono ?_); rintro e w5 ⟨v105, rfl, ho0, hb⟩; refine ⟨_, rfl, ?_⟩; have n0_ := am (Kd.R_lower ho0 (below_size aq0)); have n1_ := am (blk_below (g := gb101) (o := .cells #[.int .i64 0, .int .i64 0, .slice none 0 0] 62 (0, 0)) aq2 hb); have n2_ := am (below_step aq0 hb); clear BK101; clear HB; have HO106 := n0_; have BK101 := n1_; have HB := n2_; clear n0_ n1_ n2_; (try clear hb); (try clear hb2); (try clear hk); (try clear hi); (try clear ho0)) | ((with_reducible refine gate_dst (N := 5) rfl ?_); (try (refine gate_guard (by rfl) ?_; dsimp only)); refine box_event ?hg (N := 5) ?hd (cs := #[.int .i64 0, .int .i64 0, .slice none 0 0]) (t := 62) ?hr ?_; (case hd => rfl); (case hg => rfl); (case hr => exact aq19); intro gb108 hg w6 hbox hb; have n0_ := am (Kd.R_below aq40 hb); have n1_ := am (blk_below (g := gb101) (o := .cells #[.int .i64 0, .int .i64 0, .slice none 0 0] 62 (0, 0)) aq2 hb); have n2_ := am (below_step aq0 hb); have n3_ := am (hbox); have n4_ := am ((by rw [hg]; exact (below_size aq0) : w.heap.size ≤ gb108)); have n5_ := am ((by rw [hg]; exact (below_size aq0) : w.heap.size ≤ gb108)); have n6_ := am ((by rw [hg]; exact Nat.ne_of_lt (blk_lt (g := gb101) (o := .cells #[.int .i64 0, .int .i64 0, .slice none 0 0] 62 (0, 0)) aq2) : gb101 ≠ gb108)); have n7_ := am ((by rw [hg]; exact Nat.ne_of_gt (blk_lt (g := gb101) (o := .cells #[.int .i64 0, .int .i64 0, .slice none 0 0] 62 (0, 0)) aq2) : gb108 ≠ gb101)); clear HO106; clear BK101; clear HB; have HO106 := n0_; have BK101 := n1_; have HB := n2_; have BK108 := n3_; have GW108 := n4_; have GE108 := n5_; have NB101_108 := n6_; have NB108_101 := n7_; clear n0_ n1_ n2_ n3_ n4_ n5_ n6_ n7_; clear hb hbox hg; have hnb7 := NB108_101.out; have hnc7 := NB101_108.out; obtain ⟨hcz8_0, hcz8_1, hcz8_2, hfz8_0, hfz8_1, hfz8_2⟩ := blk3_ BK108.out; obtain ⟨Ao9, co9, eo9⟩ := Kd.R_slice HO106.out; subst eo9))
 (try simp only [Act.put, List.setIfInBounds_toArray, List.set_cons_zero, List.set_cons_succ])
 go_cut [22] (fun v22 wc => ∃ (kq : Nat) (x22_2 : Bool), v22 = .bool x22_2 ∧ Aside0 (spec_cnBare.j0 kq x22_2 t102 t103 t104 = some (r1, r2, r3, r4, r5)) ∧ Aside0 (kq ≤ k) ∧ Aside0 (Kd.R (Kd.int .u8) 5 wc w.heap.size (fun _ => True) (.slice Ao9 t104.length co9) t104) ∧ Aside0 (wc.heap[gb101]? = some (.cells #[.int .i64 0, .int .i64 0, (.slice none 0 0)] 62 (0, 0))) ∧ Aside0 (wc.heap[gb108]? = some (.cells #[.int .i64 t102, .int .i64 t103, (.slice Ao9 t104.length co9)] 62 (0, 0))) ∧ Aside0 (Below w.heap.size w wc))
 case first =>
  have H := HC3.out
  clear HC3
  by_cases c10 : t107 = true
  ·subst c10
   rw [if_pos rfl] at H
   obtain ⟨t109, A110, H⟩ := Option.bind_eq_some_iff.mp H
   have A11 := am A110
   clear A110
   have H' := am H
   clear H
   have hnb12 := NB108_101.out
   have hnc12 := NB101_108.out
   obtain ⟨hcz13_0, hcz13_1, hcz13_2, hfz13_0, hfz13_1, hfz13_2⟩ := blk3_ BK108.out
   go_wp2_with (first | (go_at_call 153; (with_reducible refine (spec_tyBalls.calls k t102 t103 _ _ t104 t109 _ ?side1 ?side2 A11.out).mono ?_); (case side1 => refine (Kd.R_reads' (e := 5) (base := w.heap.size) (ok := fun k_ => True) (n := t104.length) (c := co9) ?_).2.2; exact aq63); (case side2 => exact (Kd.R_reads' HO106.out).2.1); rintro e w14 ⟨v110, rfl, ho0, hb⟩; have n0_ := am (Kd.R_below aq63 hb); have n1_ := am (Kd.R_lower ho0 (below_size aq22)); have n2_ := am (blk_below (g := gb101) (o := .cells #[.int .i64 0, .int .i64 0, .slice none 0 0] 62 (0, 0)) aq34 hb); have n3_ := am (blk_below (g := gb108) (o := .cells #[.int .i64 t102, .int .i64 t103, .slice Ao9 t104.length co9] 62 (0, 0)) aq44 hb); have n4_ := am (below_step aq22 hb); clear HO106; clear BK101; clear BK108; clear HB; have HO106 := n0_; have HO111 := n1_; have BK101 := n2_; have BK108 := n3_; have HB := n4_; clear n0_ n1_ n2_ n3_ n4_; (try clear hb); (try clear hb2); (try clear hk); (try clear hi); (try clear ho0); obtain ⟨Ao15, co15, eo15⟩ := Kd.R_slice HO111.out; subst eo15))
   go_meet
   case rel => exact ⟨_, (decide ((t109.length : Int) > 0)), aq6, H', ⟨aq103⟩, ⟨aq40⟩, ⟨aq2⟩, ⟨aq15⟩, ⟨aq22⟩⟩
  ·replace c10 := Bool.eq_false_iff.mpr c10
   subst c10
   rw [if_neg Bool.false_ne_true] at H
   have H' := am H
   clear H
   go_wp2
   go_meet
   case rel => exact ⟨_, (true), aq6, H', ⟨aq103⟩, ⟨by (with_reducible repeat (first | apply Kd.R_alloc | apply Kd.R_drewN | apply Kd.R_drew)); exact Kd.R_mono (Kd.R_far (p := ⟨gb108, 2, none⟩) (Kd.R_far (p := ⟨gb108, 1, none⟩) (Kd.R_far (p := ⟨gb108, 0, none⟩) (Kd.R_types HO106.out BK108.out (by decide)) (fun _ hk => hk.2) (.int .i64 t102)) (fun _ hk => hk.2) (.int .i64 t103)) (fun _ hk => hk.2) (.slice Ao9 t104.length co9)) (fun _ hk => trivial)⟩, ⟨aq34⟩, ⟨aq44⟩, ⟨aq22⟩⟩
 case rest =>
  clear HC3
  try clear c1
  try clear p2
  try clear c5
  try clear c7
  try clear c10
  try clear c12
  try clear c13
  try clear hcz13_0
  try clear hcz13_1
  try clear hcz13_2
  try clear hcz8_0
  try clear hcz8_1
  try clear hcz8_2
  try clear hfz13_0
  try clear hfz13_1
  try clear hfz13_2
  try clear hfz8_0
  try clear hfz8_1
  try clear hfz8_2
  obtain ⟨kq, x22_2, rfl, HA, HJ2, HO_109002, BK101, BK108, HB⟩ := hcut
  cases kq with
  | zero => exact absurd HA.out (by simp [spec_cnBare.j0])
  | succ kj2 =>
   have H := HA.out
   clear HA
   simp only [spec_cnBare.j0] at H
   by_cases c16 : x22_2 = true
   ·subst c16
    rw [if_pos rfl] at H
    simp only [Option.some.injEq, Prod.mk.injEq] at H
    obtain ⟨rfl, rfl, rfl, rfl, rfl⟩ := H
    have hnb17 := NB108_101.out
    have hnc17 := NB101_108.out
    obtain ⟨hcz18_0, hcz18_1, hcz18_2, hfz18_0, hfz18_1, hfz18_2⟩ := blk3_ BK108.out
    obtain ⟨hcz19_0, hcz19_1, hcz19_2, hfz19_0, hfz19_1, hfz19_2⟩ := blk3_ BK101.out
    go_wp2
    refine bodyPost_ret (results_ctt rfl _ _ gb101 62 #[.int .i64 t102, .int .i64 t103, .slice Ao9 t104.length co9] (0, 0) _ rfl aq33 Tryz.underlying62 rfl (by kernel_rfl)) rfl ?_
    exact ⟨_, aq8, aq62, aq22⟩
   ·replace c16 := Bool.eq_false_iff.mpr c16
    subst c16
    rw [if_neg Bool.false_ne_true] at H
    have H' := am H
    clear H
    have hnb20 := NB108_101.out
    have hnc20 := NB101_108.out
    obtain ⟨hcz21_0, hcz21_1, hcz21_2, hfz21_0, hfz21_1, hfz21_2⟩ := blk3_ BK108.out
    go_wp2
    go_loopg [7, 27] kj2 (fun kq v7 v27 w' => ∃ (x7_2 : Int) (x27_2 : Int), v7 = .int .i64 x7_2 ∧ v27 = .int .i64 x27_2 ∧ Aside0 (spec_cnBare.l0 kq x7_2 t104 (t104.length : Int) x27_2 t102 t103 t104 = some (r1, r2, r3, r4, r5)) ∧ Aside0 (kq ≤ kj2) ∧ Aside0 (Kd.R (Kd.int .u8) 5 w' w.heap.size (fun _ => True) (.slice Ao9 t104.length co9) t104) ∧ Aside0 (Kd.R (Kd.int .u8) 5 w' w.heap.size (fun _ => True) (.slice Ao9 t104.length co9) t104) ∧ Aside0 (w'.heap[gb101]? = some (.cells #[.int .i64 0, .int .i64 0, (.slice none 0 0)] 62 (0, 0))) ∧ Aside0 (w'.heap[gb108]? = some (.cells #[.int .i64 t102, .int .i64 t103, (.slice Ao9 t104.length co9)] 62 (0, 0))) ∧ Aside0 (Below w.heap.size w w'))
    case atStart => exact ⟨(0), (0), aq6, aq6, H', ⟨Nat.le_refl _⟩, ⟨aq18⟩, ⟨aq18⟩, ⟨aq2⟩, ⟨aq15⟩, ⟨aq22⟩⟩
    case round =>
     clear H'
     try clear c1
     try clear c2
     try clear p2
     try clear c5
     try clear c7
     try clear c10
     try clear c12
     try clear c13
     try clear c16
     try clear c17
     try clear c20
     try clear hcz13_0
     try clear hcz13_1
     try clear hcz13_2
     try clear hcz18_0
     try clear hcz18_1
     try clear hcz18_2
     try clear hcz19_0
     try clear hcz19_1
     try clear hcz19_2
     try clear hcz21_0
     try clear hcz21_1
     try clear hcz21_2
     try clear hcz8_0
     try clear hcz8_1
     try clear hcz8_2
     try clear hfz13_0
     try clear hfz13_1
     try clear hfz13_2
     try clear hfz18_0
     try clear hfz18_1
     try clear hfz18_2
     try clear hfz19_0
     try clear hfz19_1
     try clear hfz19_2
     try clear hfz21_0
     try clear hfz21_1
     try clear hfz21_2
     try clear hfz8_0
     try clear hfz8_1
     try clear hfz8_2
     try clear p2
     obtain ⟨x7_2, x27_2, rfl, rfl, HA, HK2, HO_25, HO_109002, BK101, BK108, HB⟩ := hrel
     cases gk with
     | zero => exact absurd HA.out (by simp [spec_cnBare.l0])
     | succ k2 =>
      have H := HA.out
      clear HA
      simp only [spec_cnBare.l0] at H
      by_cases c22 : x27_2 < (t104.length : Int)
      ·rw [if_pos c22] at H
       have c22b0 := decide_eq_true c22
       clear c22
       by_cases c23 : 0 ≤ x27_2
       ·rw [if_pos c23] at H
        have c23b0 := decide_eq_true c23
        clear c23
        by_cases c24 : x27_2 < (t104.length : Int)
        ·rw [if_pos c24] at H
         have c24b0 := decide_eq_true c24
         clear c24
         by_cases c25 : (rd t104 x27_2) = 46
         ·rw [if_pos c25] at H
          have c25b0 := beq_iff_eq.mpr c25
          have c25b1 := bne_eq_false_iff_eq.mpr c25
          clear c25
          have H' := am H
          clear H
          have p112 : 0 ≤ (x27_2 : Int) := of_decide_eq_true aq5
          have q112 : x27_2 < (t104.length : Int) := of_decide_eq_true aq5
          obtain ⟨ad112, e112, hx112_0⟩ := Kd.at_int (Kd.R_reads' HO_25.out).2.2 x27_2 p112 q112
          cases e112
          replace p112 := eq_true p112
          replace q112 := eq_true q112
          go_wp2
          go_roundg k2
          case measure => have := HJ2.out; have := HK2.out; omega
          case rel => exact ⟨(wrap64 (x7_2 + 1)), (wrap64 (x27_2 + 1)), aq6, aq6, H', ⟨by have := HJ2.out; have := HK2.out; omega⟩, ⟨by (with_reducible repeat (first | apply Kd.R_alloc | apply Kd.R_drewN | apply Kd.R_drew)); exact HO_25.out⟩, ⟨aq18⟩, ⟨aq2⟩, ⟨aq15⟩, ⟨aq22⟩⟩
         ·rw [if_neg c25] at H
          have c25b0 := beq_eq_false_iff_ne.mpr c25
          have c25b1 := bne_iff_ne.mpr c25
          have H' := am H
          clear H
          have p112 : 0 ≤ (x27_2 : Int) := of_decide_eq_true aq5
          have q112 : x27_2 < (t104.length : Int) := of_decide_eq_true aq5
          obtain ⟨ad112, e112, hx112_0⟩ := Kd.at_int (Kd.R_reads' HO_25.out).2.2 x27_2 p112 q112
          cases e112
          replace p112 := eq_true p112
          replace q112 := eq_true q112
          go_wp2
          go_roundg k2
          case measure => have := HJ2.out; have := HK2.out; omega
          case rel => exact ⟨(x7_2), (wrap64 (x27_2 + 1)), aq6, aq6, H', ⟨by have := HJ2.out; have := HK2.out; omega⟩, ⟨by (with_reducible repeat (first | apply Kd.R_alloc | apply Kd.R_drewN | apply Kd.R_drew)); exact HO_25.out⟩, ⟨aq18⟩, ⟨aq2⟩, ⟨aq15⟩, ⟨aq22⟩⟩
        ·rw [if_neg c24] at H
         exact absurd H (by simp)
       ·rw [if_neg c23] at H
        exact absurd H (by simp)
      ·rw [if_neg c22] at H
       have c22b0 := decide_eq_false c22
       clear c22
       simp only [Option.some.injEq, Prod.mk.injEq] at H
       obtain ⟨rfl, rfl, rfl, rfl, rfl⟩ := H
       have hnb26 := NB108_101.out
       have hnc26 := NB101_108.out
       obtain ⟨hcz27_0, hcz27_1, hcz27_2, hfz27_0, hfz27_1, hfz27_2⟩ := blk3_ BK108.out
       obtain ⟨hcz28_0, hcz28_1, hcz28_2, hfz28_0, hfz28_1, hfz28_2⟩ := blk3_ BK101.out
       go_wp2
       refine bodyPost_ret (results_ctt rfl _ _ gb101 62 #[.int .i64 t102, .int .i64 t103, .slice Ao9 t104.length co9] (0, 0) _ rfl aq33 Tryz.underlying62 rfl (by kernel_rfl)) rfl ?_
       exact ⟨_, aq8, aq62, aq22⟩
mutual
def spec_cnDirs.l0 : Nat → ByteArray → Int → Option (Bool)
 | 0, _, _ => none
 | k + 1, x0, x3 => if x3 < (x0.size : Int) then (if 0 ≤ x3 then (if x3 ≤ (wrap64 (x3 + 1)) then (if (wrap64 (x3 + 1)) ≤ (x0.size : Int) then ((spec_tiDir.f k (x0.extract (x3 : Int).toNat ((wrap64 (x3 + 1)) : Int).toNat)).bind fun t101 => (if t101 < 0 then (some false) else (spec_cnDirs.l1 k x0 x3 0))) else (none)) else (none)) else (none)) else (some true)
def spec_cnDirs.l1 : Nat → ByteArray → Int → Int → Option (Bool)
 | 0, _, _, _ => none
 | k + 1, x0, x3, x4 => if x4 < x3 then (if 0 ≤ x3 then (if x3 < (x0.size : Int) then (if 0 ≤ x4 then (if x4 < (x0.size : Int) then (if (bt x0 x3) = (bt x0 x4) then (some false) else (spec_cnDirs.l1 k x0 x3 (wrap64 (x4 + 1)))) else (none)) else (none)) else (none)) else (none)) else (spec_cnDirs.l0 k x0 (wrap64 (x3 + 1)))
end
def spec_cnDirs.f (k : Nat) (a0 : ByteArray) : Option (Bool) := spec_cnDirs.l0 k a0 0
theorem spec_cnDirs.mono_l : ∀ k, (∀ y0 y1, LeO (spec_cnDirs.l0 k y0 y1) (spec_cnDirs.l0 (k + 1) y0 y1)) ∧ (∀ y0 y1 y2, LeO (spec_cnDirs.l1 k y0 y1 y2) (spec_cnDirs.l1 (k + 1) y0 y1 y2))
 | 0 => ⟨fun _ _ r h => by simp [spec_cnDirs.l0] at h, fun _ _ _ r h => by simp [spec_cnDirs.l1] at h⟩
 | k + 1 => by
  obtain ⟨ih0, ih1⟩ := spec_cnDirs.mono_l k
  refine ⟨?_, ?_⟩
  ·intro y0 y1
   unfold spec_cnDirs.l0
   have im0 := @spec_tiDir.mono; exact mo
  ·intro y0 y1 y2
   unfold spec_cnDirs.l1
   have im0 := @spec_tiDir.mono; exact mo
theorem spec_cnDirs.mono : ∀ a0 k, LeO (spec_cnDirs.f k a0) (spec_cnDirs.f (k + 1) a0) := by
 intro a0 k
 obtain ⟨ih0, ih1⟩ := spec_cnDirs.mono_l k
 unfold spec_cnDirs.f
 have im0 := @spec_tiDir.mono; exact mo
set_option maxHeartbeats 8000000 in
set_option maxRecDepth 100000 in
theorem spec_cnDirs.calls (k : Nat) (a0 : ByteArray) (r : Bool) (w : World) (h : spec_cnDirs.f k a0 = some r) :
  Calls Tryz.prog 131 #[.string a0] w fun e w' => e = .returned (.bool r) ∧ Drawn0 w w' := by
 have H : (spec_cnDirs.l0 k a0 0) = some r := h
 clear h
 have H' := am H
 clear H
 go_enter Tryz.func131, Tryz.ntmps131
 go_wp2
 repeat (go_quiet (fail); try go_wp2)
 go_loopg [3] k (fun kq v3 w' => ∃ (x3_1 : Int), v3 = .int .i64 x3_1 ∧ Aside0 (spec_cnDirs.l0 kq a0 x3_1 = some r) ∧ Aside0 (kq ≤ k) ∧ Drawn0 w w')
 case atStart => exact ⟨(0), aq6, H', ⟨Nat.le_refl _⟩, aq14⟩
 case round =>
  clear H'
  try clear c1
  obtain ⟨x3_1, rfl, HA, HK1, ⟨m1, rfl⟩⟩ := hrel
  cases gk with
  | zero => exact absurd HA.out (by simp [spec_cnDirs.l0])
  | succ k1 =>
   have H := HA.out
   clear HA
   simp only [spec_cnDirs.l0] at H
   by_cases c2 : x3_1 < (a0.size : Int)
   ·rw [if_pos c2] at H
    have c2b0 := decide_eq_true c2
    clear c2
    by_cases c3 : 0 ≤ x3_1
    ·rw [if_pos c3] at H
     have c3b0 := eq_true c3
     have c3b1 := decide_eq_true c3
     clear c3
     by_cases c4 : x3_1 ≤ (wrap64 (x3_1 + 1))
     ·rw [if_pos c4] at H
      have c4b0 := eq_true c4
      have c4b1 := decide_eq_true c4
      by_cases c5 : (wrap64 (x3_1 + 1)) ≤ (a0.size : Int)
      ·rw [if_pos c5] at H
       have c5b0 := eq_true c5
       have c5b1 := decide_eq_true c5
       obtain ⟨t101, A60, H⟩ := Option.bind_eq_some_iff.mp H
       have A6 := am A60
       clear A60
       by_cases c7 : t101 < 0
       ·rw [if_pos c7] at H
        have c7b0 := decide_eq_true c7
        clear c7
        obtain rfl := Option.some.inj H
        go_wp2_with (first | (go_at_call 86; (with_reducible refine (spec_tiDir.calls k1 (a0.extract (x3_1 : Int).toNat ((wrap64 (x3_1 + 1)) : Int).toNat) t101 _ A6.out).mono ?_); rintro e w' ⟨rfl, ⟨nd, rfl⟩⟩; (try first | exact ⟨rfl, _, World.drewN_drewN _ _ _⟩ | exact ⟨rfl, _, Eq.trans (World.drewN_drewN _ _ _) (congrArg (World.drewN _) (Nat.add_assoc _ _ _))⟩)))
        repeat (go_quiet (first | (go_at_call 86; (with_reducible refine (spec_tiDir.calls k1 (a0.extract (x3_1 : Int).toNat ((wrap64 (x3_1 + 1)) : Int).toNat) t101 _ A6.out).mono ?_); rintro e w' ⟨rfl, ⟨nd, rfl⟩⟩; (try first | exact ⟨rfl, _, World.drewN_drewN _ _ _⟩ | exact ⟨rfl, _, Eq.trans (World.drewN_drewN _ _ _) (congrArg (World.drewN _) (Nat.add_assoc _ _ _))⟩))); try go_wp2_with (first | (go_at_call 86; (with_reducible refine (spec_tiDir.calls k1 (a0.extract (x3_1 : Int).toNat ((wrap64 (x3_1 + 1)) : Int).toNat) t101 _ A6.out).mono ?_); rintro e w' ⟨rfl, ⟨nd, rfl⟩⟩; (try first | exact ⟨rfl, _, World.drewN_drewN _ _ _⟩ | exact ⟨rfl, _, Eq.trans (World.drewN_drewN _ _ _) (congrArg (World.drewN _) (Nat.add_assoc _ _ _))⟩))))
        go_ret
        exact ⟨aq6, aq14⟩
       ·rw [if_neg c7] at H
        have c7b0 := decide_eq_false c7
        clear c7
        have H' := am H
        clear H
        go_wp2_with (first | (go_at_call 86; (with_reducible refine (spec_tiDir.calls k1 (a0.extract (x3_1 : Int).toNat ((wrap64 (x3_1 + 1)) : Int).toNat) t101 _ A6.out).mono ?_); rintro e w' ⟨rfl, ⟨nd, rfl⟩⟩; (try first | exact ⟨rfl, _, World.drewN_drewN _ _ _⟩ | exact ⟨rfl, _, Eq.trans (World.drewN_drewN _ _ _) (congrArg (World.drewN _) (Nat.add_assoc _ _ _))⟩)))
        repeat (go_quiet (first | (go_at_call 86; (with_reducible refine (spec_tiDir.calls k1 (a0.extract (x3_1 : Int).toNat ((wrap64 (x3_1 + 1)) : Int).toNat) t101 _ A6.out).mono ?_); rintro e w' ⟨rfl, ⟨nd, rfl⟩⟩; (try first | exact ⟨rfl, _, World.drewN_drewN _ _ _⟩ | exact ⟨rfl, _, Eq.trans (World.drewN_drewN _ _ _) (congrArg (World.drewN _) (Nat.add_assoc _ _ _))⟩))); try go_wp2_with (first | (go_at_call 86; (with_reducible refine (spec_tiDir.calls k1 (a0.extract (x3_1 : Int).toNat ((wrap64 (x3_1 + 1)) : Int).toNat) t101 _ A6.out).mono ?_); rintro e w' ⟨rfl, ⟨nd, rfl⟩⟩; (try first | exact ⟨rfl, _, World.drewN_drewN _ _ _⟩ | exact ⟨rfl, _, Eq.trans (World.drewN_drewN _ _ _) (congrArg (World.drewN _) (Nat.add_assoc _ _ _))⟩))))
        go_loopg [4] k1 (fun kq v4 w' => ∃ (x4_2 : Int), v4 = .int .i64 x4_2 ∧ Aside0 (spec_cnDirs.l1 kq a0 x3_1 x4_2 = some r) ∧ Aside0 (kq ≤ k1) ∧ Drawn0 w w')
        case atStart => exact ⟨(0), aq6, H', ⟨Nat.le_refl _⟩, aq14⟩
        case round =>
         clear H'
         try clear c1
         try clear c2
         try clear c2b0
         try clear p2
         try clear c3
         try clear c3b0
         try clear c3b1
         try clear c4
         try clear c4b0
         try clear c4b1
         try clear c5
         try clear c5b0
         try clear c5b1
         try clear p6
         try clear c7
         try clear c7b0
         obtain ⟨x4_2, rfl, HA, HK2, ⟨m2, rfl⟩⟩ := hrel
         cases gk with
         | zero => exact absurd HA.out (by simp [spec_cnDirs.l1])
         | succ k2 =>
          have H := HA.out
          clear HA
          simp only [spec_cnDirs.l1] at H
          by_cases c8 : x4_2 < x3_1
          ·rw [if_pos c8] at H
           have c8b0 := decide_eq_true c8
           clear c8
           by_cases c9 : 0 ≤ x3_1
           ·rw [if_pos c9] at H
            have c9b0 := decide_eq_true c9
            clear c9
            by_cases c10 : x3_1 < (a0.size : Int)
            ·rw [if_pos c10] at H
             have c10b0 := decide_eq_true c10
             clear c10
             by_cases c12 : 0 ≤ x4_2
             ·rw [if_pos c12] at H
              have c12b0 := decide_eq_true c12
              clear c12
              by_cases c13 : x4_2 < (a0.size : Int)
              ·rw [if_pos c13] at H
               have c13b0 := decide_eq_true c13
               clear c13
               by_cases c15 : (bt a0 x3_1) = (bt a0 x4_2)
               ·rw [if_pos c15] at H
                have c15b0 := beq_iff_eq.mpr c15
                have c15b1 := bne_eq_false_iff_eq.mpr c15
                clear c15
                obtain rfl := Option.some.inj H
                have p11 : 0 ≤ (x3_1 : Int) := of_decide_eq_true aq5
                have q11 : x3_1 < (a0.size : Int) := of_decide_eq_true aq5
                have hx11 := bt_at a0 x3_1
                replace p11 := eq_true p11
                replace q11 := eq_true q11
                have p14 : 0 ≤ (x4_2 : Int) := of_decide_eq_true aq5
                have q14 : x4_2 < (a0.size : Int) := of_decide_eq_true aq5
                have hx14 := bt_at a0 x4_2
                replace p14 := eq_true p14
                replace q14 := eq_true q14
                go_wp2
                repeat (go_quiet (fail); try go_wp2)
                go_ret
                exact ⟨aq6, aq14⟩
               ·rw [if_neg c15] at H
                have c15b0 := beq_eq_false_iff_ne.mpr c15
                have c15b1 := bne_iff_ne.mpr c15
                have H' := am H
                clear H
                have p11 : 0 ≤ (x3_1 : Int) := of_decide_eq_true aq5
                have q11 : x3_1 < (a0.size : Int) := of_decide_eq_true aq5
                have hx11 := bt_at a0 x3_1
                replace p11 := eq_true p11
                replace q11 := eq_true q11
                have p14 : 0 ≤ (x4_2 : Int) := of_decide_eq_true aq5
                have q14 : x4_2 < (a0.size : Int) := of_decide_eq_true aq5
                have hx14 := bt_at a0 x4_2
                replace p14 := eq_true p14
                replace q14 := eq_true q14
                go_wp2
                repeat (go_quiet (fail); try go_wp2)
                go_roundg k2
                case measure => have := HK1.out; have := HK2.out; omega
                case rel => exact ⟨(wrap64 (x4_2 + 1)), aq6, H', ⟨aq64⟩, aq14⟩
              ·rw [if_neg c13] at H
               exact absurd H (by simp)
             ·rw [if_neg c12] at H
              exact absurd H (by simp)
            ·rw [if_neg c10] at H
             exact absurd H (by simp)
           ·rw [if_neg c9] at H
            exact absurd H (by simp)
          ·rw [if_neg c8] at H
           have c8b0 := decide_eq_false c8
           clear c8
           have H' := am H
           clear H
           go_wp2
           repeat (go_quiet (fail); try go_wp2)
           go_roundg k2
           case measure => have := HK1.out; have := HK2.out; omega
           case rel => exact ⟨(wrap64 (x3_1 + 1)), aq6, H', ⟨aq64⟩, aq14⟩
      ·rw [if_neg c5] at H
       exact absurd H (by simp)
     ·rw [if_neg c4] at H
      exact absurd H (by simp)
    ·rw [if_neg c3] at H
     exact absurd H (by simp)
   ·rw [if_neg c2] at H
    have c2b0 := decide_eq_false c2
    clear c2
    obtain rfl := Option.some.inj H
    go_wp2
    repeat (go_quiet (fail); try go_wp2)
    go_ret
    exact ⟨aq6, aq14⟩
def spec_cnLooked.f (k : Nat) (a0 : ByteArray) (a1 : ByteArray) : Option (Int × Int × List Int × Int × Bool) := (spec_cnBare.f k a0).bind fun bt102 => (if bt102.2.2.2.2 = true then (if bt102.2.2.2.1 ≤ 16 then ((spec_cnDirs.f k a1).bind fun t110 => (some (bt102.1, bt102.2.1, bt102.2.2.1, bt102.2.2.2.1, t110))) else (some (bt102.1, bt102.2.1, bt102.2.2.1, bt102.2.2.2.1, false))) else (some (bt102.1, bt102.2.1, bt102.2.2.1, bt102.2.2.2.1, false)))
theorem spec_cnLooked.mono : ∀ a0 a1 k, LeO (spec_cnLooked.f k a0 a1) (spec_cnLooked.f (k + 1) a0 a1) := by
 intro a0 a1 k
 unfold spec_cnLooked.f
 have im0 := @spec_cnBare.mono; have im1 := @spec_cnDirs.mono; exact mo
def spec_cnLooked.T2 : Bool × List (List Nat × List Nat) := (true, [([], []), ([], []), ([], []), ([2], [2]), ([3], [3]), ([4, 3], [3, 4]), ([3, 5], [3, 5]), ([6, 3], [6]), ([7], [7]), ([8, 7, 7], [7, 8]), ([7, 9], [7, 9]), ([0, 9, 0], [0]), ([1, 11, 0, 1, 11], [1]), ([10, 12, 0, 1, 2, 3, 4, 5, 6, 7, 8, 9, 10, 11, 12], [10])])
def spec_cnLooked.B2 : List Nat := [0, 0, 0, 4, 12, 28, 60, 124, 252, 508, 1020, 1021, 3071, 8191]
theorem spec_cnLooked.tab2 : rtab .any (opsOf Tryz.f92 2) = spec_cnLooked.T2 := by kernel_rfl
theorem spec_cnLooked.bits2 : waitsOk spec_cnLooked.T2.2 spec_cnLooked.B2 = true := by kernel_rfl
set_option maxHeartbeats 8000000 in
set_option maxRecDepth 100000 in
theorem spec_cnLooked.calls (k : Nat) (a0 : ByteArray) (a1 : ByteArray) (r1 : Int) (r2 : Int) (r3 : List Int) (r4 : Int) (r5 : Bool) (w : World) (h : spec_cnLooked.f k a0 a1 = some (r1, r2, r3, r4, r5)) :
  Calls Tryz.prog 92 #[.string a0, .string a1] w fun e w' => ∃ v2_ : Value, e = .returned (.tuple #[.agg #[.int .i64 r1, .int .i64 r2, v2_], .int .i64 r4, .bool r5]) ∧ Kd.R (Kd.int .u8) 5 w' w.heap.size (fun _ => True) v2_ r3 ∧ Below w.heap.size w w' := by
 have hu62 := Tryz.underlying62
 have HB := am (Below.refl w.heap.size w)
 have H : ((spec_cnBare.f k a0).bind fun bt102 => (if bt102.2.2.2.2 = true then (if bt102.2.2.2.1 ≤ 16 then ((spec_cnDirs.f k a1).bind fun t110 => (some (bt102.1, bt102.2.1, bt102.2.2.1, bt102.2.2.2.1, t110))) else (some (bt102.1, bt102.2.1, bt102.2.2.1, bt102.2.2.2.1, false))) else (some (bt102.1, bt102.2.1, bt102.2.2.1, bt102.2.2.2.1, false)))) = some (r1, r2, r3, r4, r5) := h
 clear h
 replace H := Option.bind_eq_some_iff.mp H
 obtain ⟨⟨t102, t103, t104, t107, t108⟩, A30, H⟩ := H
 replace H : (if t108 = true then (if t107 ≤ 16 then ((spec_cnDirs.f k a1).bind fun t110 => (some (t102, t103, t104, t107, t110))) else (some (t102, t103, t104, t107, false))) else (some (t102, t103, t104, t107, false))) = some (r1, r2, r3, r4, r5) := H
 have A3 := am A30
 clear A30
 by_cases c4 : t108 = true
 ·subst c4
  rw [if_pos rfl] at H
  by_cases c5 : t107 ≤ 16
  ·rw [if_pos c5] at H
   have c5b0 := decide_eq_true c5
   clear c5
   obtain ⟨t110, A60, H⟩ := Option.bind_eq_some_iff.mp H
   have A6 := am A60
   clear A60
   simp only [Option.some.injEq, Prod.mk.injEq] at H
   obtain ⟨rfl, rfl, rfl, rfl, rfl⟩ := H
   go_enter Tryz.func92, Tryz.ntmps92
   try go_wp2_with (first | ((with_reducible refine gate_dst (N := 4) rfl ?_); refine box_event ?hg (N := 4) ?hd (cs := #[.int .i64 0, .int .i64 0, .slice none 0 0]) (t := 62) ?hr ?_; (case hd => rfl); (case hg => rfl); (case hr => exact aq19); intro gb101 hg w7 hbox hb; have n0_ := am (below_step aq1 hb); have n1_ := am (hbox); have n2_ := am ((by rw [hg]; exact (below_size aq1) : w.heap.size ≤ gb101)); have n3_ := am ((by rw [hg]; exact (below_size aq1) : w.heap.size ≤ gb101)); clear HB; have HB := n0_; have BK101 := n1_; have GW101 := n2_; have GE101 := n3_; clear n0_ n1_ n2_ n3_; clear hb hbox hg) | ((with_reducible refine gate_callee (f := 130) rfl ?_); refine goesL_ (some 12) rfl rfl Tryz.func130 (by kernel_rfl) rfl #[.string a0] rfl aq4 ?_; (with_reducible refine (spec_cnBare.calls k a0 t102 t103 t104 t107 true _ A3.out).mono ?_); rintro e w8 ⟨v105, rfl, ho0, hb⟩; refine ⟨_, rfl, ?_⟩; have n0_ := am (Kd.R_lower ho0 (below_size aq0)); have n1_ := am (blk_below (g := gb101) (o := .cells #[.int .i64 0, .int .i64 0, .slice none 0 0] 62 (0, 0)) aq2 hb); have n2_ := am (below_step aq0 hb); clear BK101; clear HB; have HO106 := n0_; have BK101 := n1_; have HB := n2_; clear n0_ n1_ n2_; (try clear hb); (try clear hb2); (try clear hk); (try clear hi); (try clear ho0)) | ((with_reducible refine gate_dst (N := 7) rfl ?_); refine box_event ?hg (N := 7) ?hd (cs := #[.int .i64 0, .int .i64 0, .slice none 0 0]) (t := 62) ?hr ?_; (case hd => rfl); (case hg => rfl); (case hr => exact aq19); intro gb109 hg w9 hbox hb; have n0_ := am (Kd.R_below aq40 hb); have n1_ := am (blk_below (g := gb101) (o := .cells #[.int .i64 0, .int .i64 0, .slice none 0 0] 62 (0, 0)) aq2 hb); have n2_ := am (below_step aq0 hb); have n3_ := am (hbox); have n4_ := am ((by rw [hg]; exact (below_size aq0) : w.heap.size ≤ gb109)); have n5_ := am ((by rw [hg]; exact (below_size aq0) : w.heap.size ≤ gb109)); have n6_ := am ((by rw [hg]; exact Nat.ne_of_lt (blk_lt (g := gb101) (o := .cells #[.int .i64 0, .int .i64 0, .slice none 0 0] 62 (0, 0)) aq2) : gb101 ≠ gb109)); have n7_ := am ((by rw [hg]; exact Nat.ne_of_gt (blk_lt (g := gb101) (o := .cells #[.int .i64 0, .int .i64 0, .slice none 0 0] 62 (0, 0)) aq2) : gb109 ≠ gb101)); clear HO106; clear BK101; clear HB; have HO106 := n0_; have BK101 := n1_; have HB := n2_; have BK109 := n3_; have GW109 := n4_; have GE109 := n5_; have NB101_109 := n6_; have NB109_101 := n7_; clear n0_ n1_ n2_ n3_ n4_ n5_ n6_ n7_; clear hb hbox hg; have hnb10 := NB109_101.out; have hnc10 := NB101_109.out; obtain ⟨hcz11_0, hcz11_1, hcz11_2, hfz11_0, hfz11_1, hfz11_2⟩ := blk3_ BK109.out; obtain ⟨Ao12, co12, eo12⟩ := Kd.R_slice HO106.out; subst eo12))
   have n0_ : Aside0 (Kd.R (Kd.int .u8) 5 (((w9.setCell ⟨gb109, 0, none⟩ (.int .i64 t102)).setCell ⟨gb109, 1, none⟩ (.int .i64 t103)).setCell ⟨gb109, 2, none⟩ (.slice Ao12 t104.length co12)) w.heap.size (fun _ => True) (.slice Ao12 t104.length co12) t104) := ⟨by (with_reducible repeat (first | apply Kd.R_alloc | apply Kd.R_drewN | apply Kd.R_drew)); exact Kd.R_mono (Kd.R_far (p := ⟨gb109, 2, none⟩) (Kd.R_far (p := ⟨gb109, 1, none⟩) (Kd.R_far (p := ⟨gb109, 0, none⟩) (Kd.R_types HO106.out BK109.out (by decide)) (fun _ hk => hk.2) (.int .i64 t102)) (fun _ hk => hk.2) (.int .i64 t103)) (fun _ hk => hk.2) (.slice Ao12 t104.length co12)) (fun _ hk => trivial)⟩
   have n1_ : Aside0 ((((w9.setCell ⟨gb109, 0, none⟩ (.int .i64 t102)).setCell ⟨gb109, 1, none⟩ (.int .i64 t103)).setCell ⟨gb109, 2, none⟩ (.slice Ao12 t104.length co12)).heap[gb101]? = some (.cells #[.int .i64 0, .int .i64 0, .slice none 0 0] 62 (0, 0))) := ⟨aq35⟩
   have n2_ : Aside0 ((((w9.setCell ⟨gb109, 0, none⟩ (.int .i64 t102)).setCell ⟨gb109, 1, none⟩ (.int .i64 t103)).setCell ⟨gb109, 2, none⟩ (.slice Ao12 t104.length co12)).heap[gb109]? = some (.cells #[.int .i64 t102, .int .i64 t103, .slice Ao12 t104.length co12] 62 (0, 0))) := ⟨aq24⟩
   have n3_ : Aside0 (Below w.heap.size w (((w9.setCell ⟨gb109, 0, none⟩ (.int .i64 t102)).setCell ⟨gb109, 1, none⟩ (.int .i64 t103)).setCell ⟨gb109, 2, none⟩ (.slice Ao12 t104.length co12))) := ⟨aq28⟩
   (try clear HO106)
   (try clear BK101)
   (try clear BK109)
   (try clear HB)
   generalize (((w9.setCell ⟨gb109, 0, none⟩ (.int .i64 t102)).setCell ⟨gb109, 1, none⟩ (.int .i64 t103)).setCell ⟨gb109, 2, none⟩ (.slice Ao12 t104.length co12)) = w13 at n0_ n1_ n2_ n3_ ⊢
   have HO106 := n0_
   have BK101 := n1_
   have BK109 := n2_
   have HB := n3_
   clear n0_ n1_ n2_ n3_
   have n0_ := am (Kd.R_drew HO106.out)
   have n1_ := am (blk_drew BK101.out)
   have n2_ := am (blk_drew BK109.out)
   have n3_ := am (below_drew1 HB.out)
   clear HO106
   clear BK101
   clear BK109
   clear HB
   have HO106 := n0_
   have BK101 := n1_
   have BK109 := n2_
   have HB := n3_
   clear n0_ n1_ n2_ n3_
   refine start_ (n := 14) (S := fun w' => w'.cell? ⟨gb109, 0, none⟩ = some (.int .i64 t102) ∧ w'.cell? ⟨gb109, 1, none⟩ = some (.int .i64 t103) ∧ w'.cell? ⟨gb109, 2, none⟩ = some (.slice Ao12 t104.length co12)) (ds := []) #[false, false, false, false, false, false, false, false, false, false, false, false, false, false] (by kernel_rfl) rfl rfl ⟨(blk_cell BK109.out 0).trans rfl, (blk_cell BK109.out 1).trans rfl, (blk_cell BK109.out 2).trans rfl⟩ (fun hHeld => ?_); refine with_tabW spec_cnLooked.tab2 spec_cnLooked.bits2 (fun HT_ HW_ => ?_)
   generalize w13.drew = w14 at HO106 BK101 BK109 HB hHeld ⊢
   refine pure_ (i := 1) (N := some 17) (v := ?_) (a' := ?_) (bm 14 2) rfl rfl (any_of HT_.out (by kernel_rfl)) (fun _ _ _ h => h) (Or.inl ⟨by rfl, ?_⟩) ?_ ?_
   rotate_left
   ·intro w'
    go_simp
    with_reducible rfl
   rotate_left
   ·simp only [Act.put, ac_]
    rfl
   refine pure_ (i := 2) (N := some 18) (v := ?_) (a' := ?_) (bm 14 6) rfl rfl (any_of HT_.out (by kernel_rfl)) (fun _ _ _ h => h) (Or.inl ⟨by rfl, ?_⟩) ?_ ?_
   rotate_left
   ·intro w'
    go_simp
    with_reducible rfl
   rotate_left
   ·simp only [Act.put, ac_]
    rfl
   refine pure_ (i := 3) (N := some 19) (v := ?_) (a' := ?_) (bm 14 14) rfl rfl (any_of HT_.out (by kernel_rfl)) (fun _ _ _ h => h) (Or.inl ⟨by rfl, ?_⟩) ?_ ?_
   rotate_left
   ·intro w'
    go_simp
    with_reducible rfl
   rotate_left
   ·simp only [Act.put, ac_]
    rfl
   refine pure_ (i := 4) (N := some 20) (v := ?_) (a' := ?_) (bm 14 30) rfl rfl (any_of HT_.out (by kernel_rfl)) (fun _ _ _ h => h) (Or.inl ⟨by rfl, ?_⟩) ?_ ?_
   rotate_left
   ·intro w'
    go_simp
    with_reducible rfl
   rotate_left
   ·simp only [Act.put, ac_]
    rfl
   refine pure_ (i := 5) (N := some 21) (v := ?_) (a' := ?_) (bm 14 62) rfl rfl (any_of HT_.out (by kernel_rfl)) (fun _ _ _ h => h) (Or.inl ⟨by rfl, ?_⟩) ?_ ?_
   rotate_left
   ·intro w'
    go_simp
    with_reducible rfl
   rotate_left
   ·simp only [Act.put, ac_]
    rfl
   refine pure_ (i := 6) (N := some 22) (v := ?_) (a' := ?_) (bm 14 126) rfl rfl (any_of HT_.out (by kernel_rfl)) (fun _ _ _ h => h) (Or.inl ⟨by rfl, ?_⟩) ?_ ?_
   rotate_left
   ·intro w'
    go_simp
    with_reducible rfl
   rotate_left
   ·simp only [Act.put, ac_]
    rfl
   refine pure_ (i := 7) (N := some 23) (v := ?_) (a' := ?_) (bm 14 254) rfl rfl (any_of HT_.out (by kernel_rfl)) (fun _ _ _ h => h) (Or.inl ⟨by rfl, ?_⟩) ?_ ?_
   rotate_left
   ·intro w'
    go_simp
    with_reducible rfl
   rotate_left
   ·simp only [Act.put, ac_]
    rfl
   refine pure_ (i := 8) (N := some 24) (v := ?_) (a' := ?_) (bm 14 510) rfl rfl (any_of HT_.out (by kernel_rfl)) (fun _ _ _ h => h) (Or.inl ⟨by rfl, ?_⟩) ?_ ?_
   rotate_left
   ·intro w'
    go_simp
    with_reducible rfl
   rotate_left
   ·simp only [Act.put, ac_]
    rfl
   refine take_ (i := 0) (N := some 16) (v := ?_) (a' := ?_) (bm 14 511) rfl rfl (take_ofW HT_.out HW_.out (by kernel_rfl)) (fun _ _ _ h => h) (Or.inl ⟨by rfl, ?_⟩) hHeld ?_ ?_
   rotate_left
   ·rintro w' ⟨s0, s1, s2⟩
    go_simp
    with_reducible rfl
   rotate_left
   ·simp only [Act.put, ac_]
    rfl
   refine one_ (i := 9) (N := some 25) (bm 14 1023) rfl rfl (one_of HT_.out (by kernel_rfl)) (by decide) (fun K hK => ?_)
   refine goes_ Tryz.func131 (by kernel_rfl) rfl #[.string a1] (by rfl) rfl rfl aq4 ?_
   with_reducible refine (spec_cnDirs.calls k a1 t110 _ A6.out).mono ?_
   rintro e w' ⟨rfl, ⟨nd, rfl⟩⟩
   refine ⟨_, rfl, ?_⟩
   refine hK.out _ _ ⟨(blk_cell BK109.out 0).trans rfl, (blk_cell BK109.out 1).trans rfl, (blk_cell BK109.out 2).trans rfl⟩ (fun hHeld => ?_)
   clear hK K
   refine norm_ (a' := ?_) ?_ ?_
   rotate_left
   ·show Act.put _ (some 25) _ = _
    simp only [Act.put, ac_]
    rfl
   refine pure_ (i := 10) (N := some 26) (v := ?_) (a' := ?_) (bm 14 2047) rfl rfl (any_of HT_.out (by kernel_rfl)) (fun _ _ _ h => h) (Or.inl ⟨by rfl, ?_⟩) ?_ ?_
   rotate_left
   ·intro w'
    go_simp
    with_reducible rfl
   rotate_left
   ·simp only [Act.put, ac_]
    rfl
   refine one_ (i := 11) (N := none) (bm 14 4095) rfl rfl (one_of HT_.out (by kernel_rfl)) (by decide) (fun K hK => ?_)
   have hs15 : w14.cell? ⟨gb101, 0, none⟩ = some (.int .i64 0) := (blk_cell BK101.out 0).trans rfl
   have hfs15 := blk_frozen BK101.out 0
   have hns15_1 := NB109_101.out
   have hms15_1 := NB101_109.out
   have hs16 : w14.cell? ⟨gb101, 1, none⟩ = some (.int .i64 0) := (blk_cell BK101.out 1).trans rfl
   have hfs16 := blk_frozen BK101.out 1
   have hns16_1 := NB109_101.out
   have hms16_1 := NB101_109.out
   have hs17 : w14.cell? ⟨gb101, 2, none⟩ = some (.slice none 0 0) := (blk_cell BK101.out 2).trans rfl
   have hfs17 := blk_frozen BK101.out 2
   have hns17_1 := NB109_101.out
   have hms17_1 := NB101_109.out
   refine skip_ (w1 := ?_) (by rfl) rfl ?_ ?_
   rotate_left
   ·go_simp
    rfl
   refine hK.out _ _ ⟨((cell_far (p := ⟨gb101, _, none⟩) NB109_101.out _).trans (((cell_far (p := ⟨gb101, _, none⟩) NB109_101.out _).trans (((cell_far (p := ⟨gb101, _, none⟩) NB109_101.out _).trans (hHeld.1)))))), ((cell_far (p := ⟨gb101, _, none⟩) NB109_101.out _).trans (((cell_far (p := ⟨gb101, _, none⟩) NB109_101.out _).trans (((cell_far (p := ⟨gb101, _, none⟩) NB109_101.out _).trans (hHeld.2.1)))))), ((cell_far (p := ⟨gb101, _, none⟩) NB109_101.out _).trans (((cell_far (p := ⟨gb101, _, none⟩) NB109_101.out _).trans (((cell_far (p := ⟨gb101, _, none⟩) NB109_101.out _).trans (hHeld.2.2))))))⟩ (fun hHeld => ?_)
   clear hK K
   refine pure_ (i := 12) (N := some 5) (v := ?_) (a' := ?_) (bm 14 8191) rfl rfl (any_of HT_.out (by kernel_rfl)) (fun _ _ _ h => h) (Or.inl ⟨by rfl, ?_⟩) ?_ ?_
   rotate_left
   ·intro w'
    go_simp
    with_reducible rfl
   rotate_left
   ·simp only [Act.put, ac_]
    rfl
   refine pure_ (i := 13) (N := some 6) (v := ?_) (a' := ?_) (bm 14 16383) rfl rfl (any_of HT_.out (by kernel_rfl)) (fun _ _ _ h => h) (Or.inl ⟨by rfl, ?_⟩) ?_ ?_
   rotate_left
   ·intro w'
    go_simp
    with_reducible rfl
   rotate_left
   ·simp only [Act.put, ac_]
    rfl
   refine done_ (done_of HT_.out (by kernel_rfl)) ?_
   try go_wp2
   refine bodyPost_ret (results_ctt rfl _ _ gb101 62 #[.int .i64 t102, .int .i64 t103, .slice Ao12 t104.length co12] (0, 0) _ rfl aq33 Tryz.underlying62 rfl (by kernel_rfl)) rfl ?_
   exact ⟨_, aq8, by (with_reducible repeat (first | apply Kd.R_alloc | apply Kd.R_drewN | apply Kd.R_drew)); exact Kd.R_mono (Kd.R_far (p := ⟨gb101, 2, none⟩) (Kd.R_far (p := ⟨gb101, 1, none⟩) (Kd.R_far (p := ⟨gb101, 0, none⟩) (Kd.R_types HO106.out BK101.out (by decide)) (fun _ hk => hk.2) (.int .i64 t102)) (fun _ hk => hk.2) (.int .i64 t103)) (fun _ hk => hk.2) (.slice Ao12 t104.length co12)) (fun _ hk => trivial), aq28⟩
  ·rw [if_neg c5] at H
   have c5b0 := decide_eq_false c5
   clear c5
   simp only [Option.some.injEq, Prod.mk.injEq] at H
   obtain ⟨rfl, rfl, rfl, rfl, rfl⟩ := H
   go_enter Tryz.func92, Tryz.ntmps92
   try go_wp2_with (first | ((with_reducible refine gate_dst (N := 4) rfl ?_); refine box_event ?hg (N := 4) ?hd (cs := #[.int .i64 0, .int .i64 0, .slice none 0 0]) (t := 62) ?hr ?_; (case hd => rfl); (case hg => rfl); (case hr => exact aq19); intro gb101 hg w18 hbox hb; have n0_ := am (below_step aq1 hb); have n1_ := am (hbox); have n2_ := am ((by rw [hg]; exact (below_size aq1) : w.heap.size ≤ gb101)); have n3_ := am ((by rw [hg]; exact (below_size aq1) : w.heap.size ≤ gb101)); clear HB; have HB := n0_; have BK101 := n1_; have GW101 := n2_; have GE101 := n3_; clear n0_ n1_ n2_ n3_; clear hb hbox hg) | ((with_reducible refine gate_callee (f := 130) rfl ?_); refine goesL_ (some 12) rfl rfl Tryz.func130 (by kernel_rfl) rfl #[.string a0] rfl aq4 ?_; (with_reducible refine (spec_cnBare.calls k a0 t102 t103 t104 t107 true _ A3.out).mono ?_); rintro e w19 ⟨v105, rfl, ho0, hb⟩; refine ⟨_, rfl, ?_⟩; have n0_ := am (Kd.R_lower ho0 (below_size aq0)); have n1_ := am (blk_below (g := gb101) (o := .cells #[.int .i64 0, .int .i64 0, .slice none 0 0] 62 (0, 0)) aq2 hb); have n2_ := am (below_step aq0 hb); clear BK101; clear HB; have HO106 := n0_; have BK101 := n1_; have HB := n2_; clear n0_ n1_ n2_; (try clear hb); (try clear hb2); (try clear hk); (try clear hi); (try clear ho0)) | ((with_reducible refine gate_dst (N := 7) rfl ?_); refine box_event ?hg (N := 7) ?hd (cs := #[.int .i64 0, .int .i64 0, .slice none 0 0]) (t := 62) ?hr ?_; (case hd => rfl); (case hg => rfl); (case hr => exact aq19); intro gb109 hg w20 hbox hb; have n0_ := am (Kd.R_below aq40 hb); have n1_ := am (blk_below (g := gb101) (o := .cells #[.int .i64 0, .int .i64 0, .slice none 0 0] 62 (0, 0)) aq2 hb); have n2_ := am (below_step aq0 hb); have n3_ := am (hbox); have n4_ := am ((by rw [hg]; exact (below_size aq0) : w.heap.size ≤ gb109)); have n5_ := am ((by rw [hg]; exact (below_size aq0) : w.heap.size ≤ gb109)); have n6_ := am ((by rw [hg]; exact Nat.ne_of_lt (blk_lt (g := gb101) (o := .cells #[.int .i64 0, .int .i64 0, .slice none 0 0] 62 (0, 0)) aq2) : gb101 ≠ gb109)); have n7_ := am ((by rw [hg]; exact Nat.ne_of_gt (blk_lt (g := gb101) (o := .cells #[.int .i64 0, .int .i64 0, .slice none 0 0] 62 (0, 0)) aq2) : gb109 ≠ gb101)); clear HO106; clear BK101; clear HB; have HO106 := n0_; have BK101 := n1_; have HB := n2_; have BK109 := n3_; have GW109 := n4_; have GE109 := n5_; have NB101_109 := n6_; have NB109_101 := n7_; clear n0_ n1_ n2_ n3_ n4_ n5_ n6_ n7_; clear hb hbox hg; have hnb21 := NB109_101.out; have hnc21 := NB101_109.out; obtain ⟨hcz22_0, hcz22_1, hcz22_2, hfz22_0, hfz22_1, hfz22_2⟩ := blk3_ BK109.out; obtain ⟨Ao23, co23, eo23⟩ := Kd.R_slice HO106.out; subst eo23))
   have n0_ : Aside0 (Kd.R (Kd.int .u8) 5 (((w20.setCell ⟨gb109, 0, none⟩ (.int .i64 t102)).setCell ⟨gb109, 1, none⟩ (.int .i64 t103)).setCell ⟨gb109, 2, none⟩ (.slice Ao23 t104.length co23)) w.heap.size (fun _ => True) (.slice Ao23 t104.length co23) t104) := ⟨by (with_reducible repeat (first | apply Kd.R_alloc | apply Kd.R_drewN | apply Kd.R_drew)); exact Kd.R_mono (Kd.R_far (p := ⟨gb109, 2, none⟩) (Kd.R_far (p := ⟨gb109, 1, none⟩) (Kd.R_far (p := ⟨gb109, 0, none⟩) (Kd.R_types HO106.out BK109.out (by decide)) (fun _ hk => hk.2) (.int .i64 t102)) (fun _ hk => hk.2) (.int .i64 t103)) (fun _ hk => hk.2) (.slice Ao23 t104.length co23)) (fun _ hk => trivial)⟩
   have n1_ : Aside0 ((((w20.setCell ⟨gb109, 0, none⟩ (.int .i64 t102)).setCell ⟨gb109, 1, none⟩ (.int .i64 t103)).setCell ⟨gb109, 2, none⟩ (.slice Ao23 t104.length co23)).heap[gb101]? = some (.cells #[.int .i64 0, .int .i64 0, .slice none 0 0] 62 (0, 0))) := ⟨aq35⟩
   have n2_ : Aside0 ((((w20.setCell ⟨gb109, 0, none⟩ (.int .i64 t102)).setCell ⟨gb109, 1, none⟩ (.int .i64 t103)).setCell ⟨gb109, 2, none⟩ (.slice Ao23 t104.length co23)).heap[gb109]? = some (.cells #[.int .i64 t102, .int .i64 t103, .slice Ao23 t104.length co23] 62 (0, 0))) := ⟨aq24⟩
   have n3_ : Aside0 (Below w.heap.size w (((w20.setCell ⟨gb109, 0, none⟩ (.int .i64 t102)).setCell ⟨gb109, 1, none⟩ (.int .i64 t103)).setCell ⟨gb109, 2, none⟩ (.slice Ao23 t104.length co23))) := ⟨aq28⟩
   (try clear HO106)
   (try clear BK101)
   (try clear BK109)
   (try clear HB)
   generalize (((w20.setCell ⟨gb109, 0, none⟩ (.int .i64 t102)).setCell ⟨gb109, 1, none⟩ (.int .i64 t103)).setCell ⟨gb109, 2, none⟩ (.slice Ao23 t104.length co23)) = w24 at n0_ n1_ n2_ n3_ ⊢
   have HO106 := n0_
   have BK101 := n1_
   have BK109 := n2_
   have HB := n3_
   clear n0_ n1_ n2_ n3_
   have n0_ := am (Kd.R_drew HO106.out)
   have n1_ := am (blk_drew BK101.out)
   have n2_ := am (blk_drew BK109.out)
   have n3_ := am (below_drew1 HB.out)
   clear HO106
   clear BK101
   clear BK109
   clear HB
   have HO106 := n0_
   have BK101 := n1_
   have BK109 := n2_
   have HB := n3_
   clear n0_ n1_ n2_ n3_
   refine start_ (n := 14) (S := fun w' => w'.cell? ⟨gb109, 0, none⟩ = some (.int .i64 t102) ∧ w'.cell? ⟨gb109, 1, none⟩ = some (.int .i64 t103) ∧ w'.cell? ⟨gb109, 2, none⟩ = some (.slice Ao23 t104.length co23)) (ds := []) #[false, false, false, false, false, false, false, false, false, false, false, false, false, false] (by kernel_rfl) rfl rfl ⟨(blk_cell BK109.out 0).trans rfl, (blk_cell BK109.out 1).trans rfl, (blk_cell BK109.out 2).trans rfl⟩ (fun hHeld => ?_); refine with_tabW spec_cnLooked.tab2 spec_cnLooked.bits2 (fun HT_ HW_ => ?_)
   generalize w24.drew = w25 at HO106 BK101 BK109 HB hHeld ⊢
   refine pure_ (i := 1) (N := some 17) (v := ?_) (a' := ?_) (bm 14 2) rfl rfl (any_of HT_.out (by kernel_rfl)) (fun _ _ _ h => h) (Or.inl ⟨by rfl, ?_⟩) ?_ ?_
   rotate_left
   ·intro w'
    go_simp
    with_reducible rfl
   rotate_left
   ·simp only [Act.put, ac_]
    rfl
   refine pure_ (i := 2) (N := some 18) (v := ?_) (a' := ?_) (bm 14 6) rfl rfl (any_of HT_.out (by kernel_rfl)) (fun _ _ _ h => h) (Or.inl ⟨by rfl, ?_⟩) ?_ ?_
   rotate_left
   ·intro w'
    go_simp
    with_reducible rfl
   rotate_left
   ·simp only [Act.put, ac_]
    rfl
   refine pure_ (i := 3) (N := some 19) (v := ?_) (a' := ?_) (bm 14 14) rfl rfl (any_of HT_.out (by kernel_rfl)) (fun _ _ _ h => h) (Or.inl ⟨by rfl, ?_⟩) ?_ ?_
   rotate_left
   ·intro w'
    go_simp
    with_reducible rfl
   rotate_left
   ·simp only [Act.put, ac_]
    rfl
   refine pure_ (i := 4) (N := some 20) (v := ?_) (a' := ?_) (bm 14 30) rfl rfl (any_of HT_.out (by kernel_rfl)) (fun _ _ _ h => h) (Or.inl ⟨by rfl, ?_⟩) ?_ ?_
   rotate_left
   ·intro w'
    go_simp
    with_reducible rfl
   rotate_left
   ·simp only [Act.put, ac_]
    rfl
   refine pure_ (i := 5) (N := some 21) (v := ?_) (a' := ?_) (bm 14 62) rfl rfl (any_of HT_.out (by kernel_rfl)) (fun _ _ _ h => h) (Or.inl ⟨by rfl, ?_⟩) ?_ ?_
   rotate_left
   ·intro w'
    go_simp
    with_reducible rfl
   rotate_left
   ·simp only [Act.put, ac_]
    rfl
   refine pure_ (i := 6) (N := some 22) (v := ?_) (a' := ?_) (bm 14 126) rfl rfl (any_of HT_.out (by kernel_rfl)) (fun _ _ _ h => h) (Or.inl ⟨by rfl, ?_⟩) ?_ ?_
   rotate_left
   ·intro w'
    go_simp
    with_reducible rfl
   rotate_left
   ·simp only [Act.put, ac_]
    rfl
   refine pure_ (i := 7) (N := some 23) (v := ?_) (a' := ?_) (bm 14 254) rfl rfl (any_of HT_.out (by kernel_rfl)) (fun _ _ _ h => h) (Or.inl ⟨by rfl, ?_⟩) ?_ ?_
   rotate_left
   ·intro w'
    go_simp
    with_reducible rfl
   rotate_left
   ·simp only [Act.put, ac_]
    rfl
   refine pure_ (i := 8) (N := some 24) (v := undef) (a' := ?_) (bm 14 510) rfl rfl (any_of HT_.out (by kernel_rfl)) (fun _ _ _ h => h) (Or.inr ⟨by rfl, rfl⟩) ?_ ?_
   rotate_left
   ·simp only [Act.put, ac_]
    rfl
   refine pure_ (i := 9) (N := some 25) (v := undef) (a' := ?_) (bm 14 1022) rfl rfl (any_of HT_.out (by kernel_rfl)) (fun _ _ _ h => h) (Or.inr ⟨by rfl, rfl⟩) ?_ ?_
   rotate_left
   ·simp only [Act.put, ac_]
    rfl
   refine pure_ (i := 10) (N := some 26) (v := ?_) (a' := ?_) (bm 14 2046) rfl rfl (any_of HT_.out (by kernel_rfl)) (fun _ _ _ h => h) (Or.inl ⟨by rfl, ?_⟩) ?_ ?_
   rotate_left
   ·intro w'
    go_simp
    with_reducible rfl
   rotate_left
   ·simp only [Act.put, ac_]
    rfl
   refine take_ (i := 0) (N := some 16) (v := ?_) (a' := ?_) (bm 14 2047) rfl rfl (take_ofW HT_.out HW_.out (by kernel_rfl)) (fun _ _ _ h => h) (Or.inl ⟨by rfl, ?_⟩) hHeld ?_ ?_
   rotate_left
   ·rintro w' ⟨s0, s1, s2⟩
    go_simp
    with_reducible rfl
   rotate_left
   ·simp only [Act.put, ac_]
    rfl
   refine one_ (i := 11) (N := none) (bm 14 4095) rfl rfl (one_of HT_.out (by kernel_rfl)) (by decide) (fun K hK => ?_)
   have hs26 : w25.cell? ⟨gb101, 0, none⟩ = some (.int .i64 0) := (blk_cell BK101.out 0).trans rfl
   have hfs26 := blk_frozen BK101.out 0
   have hns26_1 := NB109_101.out
   have hms26_1 := NB101_109.out
   have hs27 : w25.cell? ⟨gb101, 1, none⟩ = some (.int .i64 0) := (blk_cell BK101.out 1).trans rfl
   have hfs27 := blk_frozen BK101.out 1
   have hns27_1 := NB109_101.out
   have hms27_1 := NB101_109.out
   have hs28 : w25.cell? ⟨gb101, 2, none⟩ = some (.slice none 0 0) := (blk_cell BK101.out 2).trans rfl
   have hfs28 := blk_frozen BK101.out 2
   have hns28_1 := NB109_101.out
   have hms28_1 := NB101_109.out
   refine skip_ (w1 := ?_) (by rfl) rfl ?_ ?_
   rotate_left
   ·go_simp
    rfl
   refine hK.out _ _ ⟨((cell_far (p := ⟨gb101, _, none⟩) NB109_101.out _).trans (((cell_far (p := ⟨gb101, _, none⟩) NB109_101.out _).trans (((cell_far (p := ⟨gb101, _, none⟩) NB109_101.out _).trans (hHeld.1)))))), ((cell_far (p := ⟨gb101, _, none⟩) NB109_101.out _).trans (((cell_far (p := ⟨gb101, _, none⟩) NB109_101.out _).trans (((cell_far (p := ⟨gb101, _, none⟩) NB109_101.out _).trans (hHeld.2.1)))))), ((cell_far (p := ⟨gb101, _, none⟩) NB109_101.out _).trans (((cell_far (p := ⟨gb101, _, none⟩) NB109_101.out _).trans (((cell_far (p := ⟨gb101, _, none⟩) NB109_101.out _).trans (hHeld.2.2))))))⟩ (fun hHeld => ?_)
   clear hK K
   refine pure_ (i := 12) (N := some 5) (v := ?_) (a' := ?_) (bm 14 8191) rfl rfl (any_of HT_.out (by kernel_rfl)) (fun _ _ _ h => h) (Or.inl ⟨by rfl, ?_⟩) ?_ ?_
   rotate_left
   ·intro w'
    go_simp
    with_reducible rfl
   rotate_left
   ·simp only [Act.put, ac_]
    rfl
   refine pure_ (i := 13) (N := some 6) (v := ?_) (a' := ?_) (bm 14 16383) rfl rfl (any_of HT_.out (by kernel_rfl)) (fun _ _ _ h => h) (Or.inl ⟨by rfl, ?_⟩) ?_ ?_
   rotate_left
   ·intro w'
    go_simp
    with_reducible rfl
   rotate_left
   ·simp only [Act.put, ac_]
    rfl
   refine done_ (done_of HT_.out (by kernel_rfl)) ?_
   try go_wp2
   refine bodyPost_ret (results_ctt rfl _ _ gb101 62 #[.int .i64 t102, .int .i64 t103, .slice Ao23 t104.length co23] (0, 0) _ rfl aq33 Tryz.underlying62 rfl (by kernel_rfl)) rfl ?_
   exact ⟨_, aq8, by (with_reducible repeat (first | apply Kd.R_alloc | apply Kd.R_drewN | apply Kd.R_drew)); exact Kd.R_mono (Kd.R_far (p := ⟨gb101, 2, none⟩) (Kd.R_far (p := ⟨gb101, 1, none⟩) (Kd.R_far (p := ⟨gb101, 0, none⟩) (Kd.R_types HO106.out BK101.out (by decide)) (fun _ hk => hk.2) (.int .i64 t102)) (fun _ hk => hk.2) (.int .i64 t103)) (fun _ hk => hk.2) (.slice Ao23 t104.length co23)) (fun _ hk => trivial), aq28⟩
 ·replace c4 := Bool.eq_false_iff.mpr c4
  subst c4
  rw [if_neg Bool.false_ne_true] at H
  simp only [Option.some.injEq, Prod.mk.injEq] at H
  obtain ⟨rfl, rfl, rfl, rfl, rfl⟩ := H
  go_enter Tryz.func92, Tryz.ntmps92
  try go_wp2_with (first | ((with_reducible refine gate_dst (N := 4) rfl ?_); refine box_event ?hg (N := 4) ?hd (cs := #[.int .i64 0, .int .i64 0, .slice none 0 0]) (t := 62) ?hr ?_; (case hd => rfl); (case hg => rfl); (case hr => exact aq19); intro gb101 hg w29 hbox hb; have n0_ := am (below_step aq1 hb); have n1_ := am (hbox); have n2_ := am ((by rw [hg]; exact (below_size aq1) : w.heap.size ≤ gb101)); have n3_ := am ((by rw [hg]; exact (below_size aq1) : w.heap.size ≤ gb101)); clear HB; have HB := n0_; have BK101 := n1_; have GW101 := n2_; have GE101 := n3_; clear n0_ n1_ n2_ n3_; clear hb hbox hg) | ((with_reducible refine gate_callee (f := 130) rfl ?_); refine goesL_ (some 12) rfl rfl Tryz.func130 (by kernel_rfl) rfl #[.string a0] rfl aq4 ?_; (with_reducible refine (spec_cnBare.calls k a0 t102 t103 t104 t107 false _ A3.out).mono ?_); rintro e w30 ⟨v105, rfl, ho0, hb⟩; refine ⟨_, rfl, ?_⟩; have n0_ := am (Kd.R_lower ho0 (below_size aq0)); have n1_ := am (blk_below (g := gb101) (o := .cells #[.int .i64 0, .int .i64 0, .slice none 0 0] 62 (0, 0)) aq2 hb); have n2_ := am (below_step aq0 hb); clear BK101; clear HB; have HO106 := n0_; have BK101 := n1_; have HB := n2_; clear n0_ n1_ n2_; (try clear hb); (try clear hb2); (try clear hk); (try clear hi); (try clear ho0)) | ((with_reducible refine gate_dst (N := 7) rfl ?_); refine box_event ?hg (N := 7) ?hd (cs := #[.int .i64 0, .int .i64 0, .slice none 0 0]) (t := 62) ?hr ?_; (case hd => rfl); (case hg => rfl); (case hr => exact aq19); intro gb109 hg w31 hbox hb; have n0_ := am (Kd.R_below aq40 hb); have n1_ := am (blk_below (g := gb101) (o := .cells #[.int .i64 0, .int .i64 0, .slice none 0 0] 62 (0, 0)) aq2 hb); have n2_ := am (below_step aq0 hb); have n3_ := am (hbox); have n4_ := am ((by rw [hg]; exact (below_size aq0) : w.heap.size ≤ gb109)); have n5_ := am ((by rw [hg]; exact (below_size aq0) : w.heap.size ≤ gb109)); have n6_ := am ((by rw [hg]; exact Nat.ne_of_lt (blk_lt (g := gb101) (o := .cells #[.int .i64 0, .int .i64 0, .slice none 0 0] 62 (0, 0)) aq2) : gb101 ≠ gb109)); have n7_ := am ((by rw [hg]; exact Nat.ne_of_gt (blk_lt (g := gb101) (o := .cells #[.int .i64 0, .int .i64 0, .slice none 0 0] 62 (0, 0)) aq2) : gb109 ≠ gb101)); clear HO106; clear BK101; clear HB; have HO106 := n0_; have BK101 := n1_; have HB := n2_; have BK109 := n3_; have GW109 := n4_; have GE109 := n5_; have NB101_109 := n6_; have NB109_101 := n7_; clear n0_ n1_ n2_ n3_ n4_ n5_ n6_ n7_; clear hb hbox hg; have hnb32 := NB109_101.out; have hnc32 := NB101_109.out; obtain ⟨hcz33_0, hcz33_1, hcz33_2, hfz33_0, hfz33_1, hfz33_2⟩ := blk3_ BK109.out; obtain ⟨Ao34, co34, eo34⟩ := Kd.R_slice HO106.out; subst eo34))
  have n0_ : Aside0 (Kd.R (Kd.int .u8) 5 (((w31.setCell ⟨gb109, 0, none⟩ (.int .i64 t102)).setCell ⟨gb109, 1, none⟩ (.int .i64 t103)).setCell ⟨gb109, 2, none⟩ (.slice Ao34 t104.length co34)) w.heap.size (fun _ => True) (.slice Ao34 t104.length co34) t104) := ⟨by (with_reducible repeat (first | apply Kd.R_alloc | apply Kd.R_drewN | apply Kd.R_drew)); exact Kd.R_mono (Kd.R_far (p := ⟨gb109, 2, none⟩) (Kd.R_far (p := ⟨gb109, 1, none⟩) (Kd.R_far (p := ⟨gb109, 0, none⟩) (Kd.R_types HO106.out BK109.out (by decide)) (fun _ hk => hk.2) (.int .i64 t102)) (fun _ hk => hk.2) (.int .i64 t103)) (fun _ hk => hk.2) (.slice Ao34 t104.length co34)) (fun _ hk => trivial)⟩
  have n1_ : Aside0 ((((w31.setCell ⟨gb109, 0, none⟩ (.int .i64 t102)).setCell ⟨gb109, 1, none⟩ (.int .i64 t103)).setCell ⟨gb109, 2, none⟩ (.slice Ao34 t104.length co34)).heap[gb101]? = some (.cells #[.int .i64 0, .int .i64 0, .slice none 0 0] 62 (0, 0))) := ⟨aq35⟩
  have n2_ : Aside0 ((((w31.setCell ⟨gb109, 0, none⟩ (.int .i64 t102)).setCell ⟨gb109, 1, none⟩ (.int .i64 t103)).setCell ⟨gb109, 2, none⟩ (.slice Ao34 t104.length co34)).heap[gb109]? = some (.cells #[.int .i64 t102, .int .i64 t103, .slice Ao34 t104.length co34] 62 (0, 0))) := ⟨aq24⟩
  have n3_ : Aside0 (Below w.heap.size w (((w31.setCell ⟨gb109, 0, none⟩ (.int .i64 t102)).setCell ⟨gb109, 1, none⟩ (.int .i64 t103)).setCell ⟨gb109, 2, none⟩ (.slice Ao34 t104.length co34))) := ⟨aq28⟩
  (try clear HO106)
  (try clear BK101)
  (try clear BK109)
  (try clear HB)
  generalize (((w31.setCell ⟨gb109, 0, none⟩ (.int .i64 t102)).setCell ⟨gb109, 1, none⟩ (.int .i64 t103)).setCell ⟨gb109, 2, none⟩ (.slice Ao34 t104.length co34)) = w35 at n0_ n1_ n2_ n3_ ⊢
  have HO106 := n0_
  have BK101 := n1_
  have BK109 := n2_
  have HB := n3_
  clear n0_ n1_ n2_ n3_
  have n0_ := am (Kd.R_drew HO106.out)
  have n1_ := am (blk_drew BK101.out)
  have n2_ := am (blk_drew BK109.out)
  have n3_ := am (below_drew1 HB.out)
  clear HO106
  clear BK101
  clear BK109
  clear HB
  have HO106 := n0_
  have BK101 := n1_
  have BK109 := n2_
  have HB := n3_
  clear n0_ n1_ n2_ n3_
  refine start_ (n := 14) (S := fun w' => w'.cell? ⟨gb109, 0, none⟩ = some (.int .i64 t102) ∧ w'.cell? ⟨gb109, 1, none⟩ = some (.int .i64 t103) ∧ w'.cell? ⟨gb109, 2, none⟩ = some (.slice Ao34 t104.length co34)) (ds := []) #[false, false, false, false, false, false, false, false, false, false, false, false, false, false] (by kernel_rfl) rfl rfl ⟨(blk_cell BK109.out 0).trans rfl, (blk_cell BK109.out 1).trans rfl, (blk_cell BK109.out 2).trans rfl⟩ (fun hHeld => ?_); refine with_tabW spec_cnLooked.tab2 spec_cnLooked.bits2 (fun HT_ HW_ => ?_)
  generalize w35.drew = w36 at HO106 BK101 BK109 HB hHeld ⊢
  refine pure_ (i := 1) (N := some 17) (v := ?_) (a' := ?_) (bm 14 2) rfl rfl (any_of HT_.out (by kernel_rfl)) (fun _ _ _ h => h) (Or.inl ⟨by rfl, ?_⟩) ?_ ?_
  rotate_left
  ·intro w'
   go_simp
   with_reducible rfl
  rotate_left
  ·simp only [Act.put, ac_]
   rfl
  refine pure_ (i := 2) (N := some 18) (v := ?_) (a' := ?_) (bm 14 6) rfl rfl (any_of HT_.out (by kernel_rfl)) (fun _ _ _ h => h) (Or.inl ⟨by rfl, ?_⟩) ?_ ?_
  rotate_left
  ·intro w'
   go_simp
   with_reducible rfl
  rotate_left
  ·simp only [Act.put, ac_]
   rfl
  refine pure_ (i := 3) (N := some 19) (v := ?_) (a' := ?_) (bm 14 14) rfl rfl (any_of HT_.out (by kernel_rfl)) (fun _ _ _ h => h) (Or.inl ⟨by rfl, ?_⟩) ?_ ?_
  rotate_left
  ·intro w'
   go_simp
   with_reducible rfl
  rotate_left
  ·simp only [Act.put, ac_]
   rfl
  refine pure_ (i := 4) (N := some 20) (v := undef) (a' := ?_) (bm 14 30) rfl rfl (any_of HT_.out (by kernel_rfl)) (fun _ _ _ h => h) (Or.inr ⟨by rfl, rfl⟩) ?_ ?_
  rotate_left
  ·simp only [Act.put, ac_]
   rfl
  refine pure_ (i := 5) (N := some 21) (v := undef) (a' := ?_) (bm 14 62) rfl rfl (any_of HT_.out (by kernel_rfl)) (fun _ _ _ h => h) (Or.inr ⟨by rfl, rfl⟩) ?_ ?_
  rotate_left
  ·simp only [Act.put, ac_]
   rfl
  refine pure_ (i := 6) (N := some 22) (v := ?_) (a' := ?_) (bm 14 126) rfl rfl (any_of HT_.out (by kernel_rfl)) (fun _ _ _ h => h) (Or.inl ⟨by rfl, ?_⟩) ?_ ?_
  rotate_left
  ·intro w'
   go_simp
   with_reducible rfl
  rotate_left
  ·simp only [Act.put, ac_]
   rfl
  refine pure_ (i := 7) (N := some 23) (v := ?_) (a' := ?_) (bm 14 254) rfl rfl (any_of HT_.out (by kernel_rfl)) (fun _ _ _ h => h) (Or.inl ⟨by rfl, ?_⟩) ?_ ?_
  rotate_left
  ·intro w'
   go_simp
   with_reducible rfl
  rotate_left
  ·simp only [Act.put, ac_]
   rfl
  refine pure_ (i := 8) (N := some 24) (v := undef) (a' := ?_) (bm 14 510) rfl rfl (any_of HT_.out (by kernel_rfl)) (fun _ _ _ h => h) (Or.inr ⟨by rfl, rfl⟩) ?_ ?_
  rotate_left
  ·simp only [Act.put, ac_]
   rfl
  refine pure_ (i := 9) (N := some 25) (v := undef) (a' := ?_) (bm 14 1022) rfl rfl (any_of HT_.out (by kernel_rfl)) (fun _ _ _ h => h) (Or.inr ⟨by rfl, rfl⟩) ?_ ?_
  rotate_left
  ·simp only [Act.put, ac_]
   rfl
  refine pure_ (i := 10) (N := some 26) (v := ?_) (a' := ?_) (bm 14 2046) rfl rfl (any_of HT_.out (by kernel_rfl)) (fun _ _ _ h => h) (Or.inl ⟨by rfl, ?_⟩) ?_ ?_
  rotate_left
  ·intro w'
   go_simp
   with_reducible rfl
  rotate_left
  ·simp only [Act.put, ac_]
   rfl
  refine take_ (i := 0) (N := some 16) (v := ?_) (a' := ?_) (bm 14 2047) rfl rfl (take_ofW HT_.out HW_.out (by kernel_rfl)) (fun _ _ _ h => h) (Or.inl ⟨by rfl, ?_⟩) hHeld ?_ ?_
  rotate_left
  ·rintro w' ⟨s0, s1, s2⟩
   go_simp
   with_reducible rfl
  rotate_left
  ·simp only [Act.put, ac_]
   rfl
  refine one_ (i := 11) (N := none) (bm 14 4095) rfl rfl (one_of HT_.out (by kernel_rfl)) (by decide) (fun K hK => ?_)
  have hs37 : w36.cell? ⟨gb101, 0, none⟩ = some (.int .i64 0) := (blk_cell BK101.out 0).trans rfl
  have hfs37 := blk_frozen BK101.out 0
  have hns37_1 := NB109_101.out
  have hms37_1 := NB101_109.out
  have hs38 : w36.cell? ⟨gb101, 1, none⟩ = some (.int .i64 0) := (blk_cell BK101.out 1).trans rfl
  have hfs38 := blk_frozen BK101.out 1
  have hns38_1 := NB109_101.out
  have hms38_1 := NB101_109.out
  have hs39 : w36.cell? ⟨gb101, 2, none⟩ = some (.slice none 0 0) := (blk_cell BK101.out 2).trans rfl
  have hfs39 := blk_frozen BK101.out 2
  have hns39_1 := NB109_101.out
  have hms39_1 := NB101_109.out
  refine skip_ (w1 := ?_) (by rfl) rfl ?_ ?_
  rotate_left
  ·go_simp
   rfl
  refine hK.out _ _ ⟨((cell_far (p := ⟨gb101, _, none⟩) NB109_101.out _).trans (((cell_far (p := ⟨gb101, _, none⟩) NB109_101.out _).trans (((cell_far (p := ⟨gb101, _, none⟩) NB109_101.out _).trans (hHeld.1)))))), ((cell_far (p := ⟨gb101, _, none⟩) NB109_101.out _).trans (((cell_far (p := ⟨gb101, _, none⟩) NB109_101.out _).trans (((cell_far (p := ⟨gb101, _, none⟩) NB109_101.out _).trans (hHeld.2.1)))))), ((cell_far (p := ⟨gb101, _, none⟩) NB109_101.out _).trans (((cell_far (p := ⟨gb101, _, none⟩) NB109_101.out _).trans (((cell_far (p := ⟨gb101, _, none⟩) NB109_101.out _).trans (hHeld.2.2))))))⟩ (fun hHeld => ?_)
  clear hK K
  refine pure_ (i := 12) (N := some 5) (v := ?_) (a' := ?_) (bm 14 8191) rfl rfl (any_of HT_.out (by kernel_rfl)) (fun _ _ _ h => h) (Or.inl ⟨by rfl, ?_⟩) ?_ ?_
  rotate_left
  ·intro w'
   go_simp
   with_reducible rfl
  rotate_left
  ·simp only [Act.put, ac_]
   rfl
  refine pure_ (i := 13) (N := some 6) (v := ?_) (a' := ?_) (bm 14 16383) rfl rfl (any_of HT_.out (by kernel_rfl)) (fun _ _ _ h => h) (Or.inl ⟨by rfl, ?_⟩) ?_ ?_
  rotate_left
  ·intro w'
   go_simp
   with_reducible rfl
  rotate_left
  ·simp only [Act.put, ac_]
   rfl
  refine done_ (done_of HT_.out (by kernel_rfl)) ?_
  try go_wp2
  refine bodyPost_ret (results_ctt rfl _ _ gb101 62 #[.int .i64 t102, .int .i64 t103, .slice Ao34 t104.length co34] (0, 0) _ rfl aq33 Tryz.underlying62 rfl (by kernel_rfl)) rfl ?_
  exact ⟨_, aq8, by (with_reducible repeat (first | apply Kd.R_alloc | apply Kd.R_drewN | apply Kd.R_drew)); exact Kd.R_mono (Kd.R_far (p := ⟨gb101, 2, none⟩) (Kd.R_far (p := ⟨gb101, 1, none⟩) (Kd.R_far (p := ⟨gb101, 0, none⟩) (Kd.R_types HO106.out BK101.out (by decide)) (fun _ hk => hk.2) (.int .i64 t102)) (fun _ hk => hk.2) (.int .i64 t103)) (fun _ hk => hk.2) (.slice Ao34 t104.length co34)) (fun _ hk => trivial), aq28⟩

end Go.Proofs.YtdffgeoegdkiaaaGreatDoor.F

namespace Go.Proofs.YtdffgeoegdkiaaaGreatDoor.F
open Go.RowKit Go.Proofs.YtdffgeoegdkiaaaGreatDoor Go.Proofs.YtdffgeoegdkiaaaGreatDoorW.PrintWords Go.Proofs.YtdffgeoegdkiaaaGreatDoorW.PrintMore
theorem shl_pow {N : Nat} (h : N ≤ 16) : shl .i64 1 (N : Int) = ((2 ^ N : Nat) : Int) := by
  have hp : 2 ^ N ≤ 65536 := Nat.le_trans (Nat.pow_le_pow_right (by decide) h) (by decide)
  unfold shl
  rw [Int.toNat_natCast, Nat.min_eq_left (by show N ≤ 64; omega), Int.one_mul, Go.Proofs.YtdffgeoegdkiaaaGreatDoorW.PrintLast.i64_w]
  obtain ⟨P, hP⟩ : ∃ P : Nat, 2 ^ N = P := ⟨_, rfl⟩
  have e : ((2 : Int) ^ N) = (P : Int) := by rw [← hP]; exact (Int.natCast_pow 2 N).symm
  rw [e, hP]
  exact w64 (by omega) (by omega)
section
variable {w h N : Nat} {cs : List Int} {txt : ByteArray} (v : VG w h cs) (hb : bareC cs) (hN : N ≤ 16) (hd : ∀ c ∈ bytesOf txt, isDirC c = true) (hsz : txt.size ≤ 1000)
theorem moves_l2 {n i : Int} {o : List ByteArray} {a b a' b' : Int} {c c' : List Int} (m : List Int) (hm : m.length ≤ 100000) (r : List ByteArray) : ∀ (dd p : Nat) (fl : Bool), p + dd = m.length →
    Ev (fun k => spec_cnAllStill.l1 k N txt o n (fl && (m.drop p).all (· == 0)) (wrap64 (i + 1)) a b c a' b' c') r →
    Ev (fun k => spec_cnAllStill.l2 k N txt o n fl i m (m.length : Int) (p : Int) a b c a' b' c') r
  | 0, p, fl, hp, hr => by
    rw [List.drop_of_length_le (by omega), List.all_nil, Bool.and_true] at hr
    exact Ev.step (fun k => by rw [spec_cnAllStill.l2, if_neg (by omega)]) hr
  | dd + 1, p, fl, hp, hr => by
    have hpl : p < m.length := by omega
    have hW : wrap64 ((p : Int) + 1) = ((p + 1 : Nat) : Int) := by rw [w64 (by omega) (by omega)]; rfl
    have hrd : rd m (p : Int) = m[p] := by unfold rd; rw [Int.toNat_natCast, List.getD_eq_getElem?_getD, List.getElem?_eq_getElem hpl]; rfl
    rw [List.drop_eq_getElem_cons hpl, List.all_cons, ← Bool.and_assoc] at hr
    have ih := moves_l2 m hm r dd (p + 1) _ (by omega) hr
    refine Ev.step (fun k => ?_) ih
    rw [spec_cnAllStill.l2, if_pos (by omega), if_pos (by omega), if_pos (by omega), hrd, hW]
    cases fl with
    | true => rw [if_pos rfl, Bool.true_and]
    | false => rw [if_neg Bool.false_ne_true, Bool.false_and]
include hsz hd in
theorem dirs_l1 {n : Int} {o : List ByteArray} {cs' : List Int} (v' : VG w h cs') (r : List ByteArray) : ∀ (dd i : Nat) (fl : Bool), i + dd = txt.size →
    Ev (fun k => if (fl && allStill w h cs' ((bytesOf txt).drop i)) = true then (spec_tyText.f k w h cs').bind fun t => (if o.length < 8796093022208 then spec_cnAllStill.l0 k N txt (o ++ [t]) (wrap64 (n + 1)) w h cs else none) else spec_cnAllStill.l0 k N txt o (wrap64 (n + 1)) w h cs) r →
    Ev (fun k => spec_cnAllStill.l1 k N txt o n fl (i : Int) w h cs w h cs') r := by
  have hend : ∀ (i : Int) (fl : Bool), Ev (fun k => if fl = true then (spec_tyText.f k w h cs').bind fun t => (if o.length < 8796093022208 then spec_cnAllStill.l0 k N txt (o ++ [t]) (wrap64 (n + 1)) w h cs else none) else spec_cnAllStill.l0 k N txt o (wrap64 (n + 1)) w h cs) r →
      Ev (fun k => spec_cnAllStill.j2 k N txt o n fl i false w h cs w h cs') r := fun i fl hr =>
    Ev.step (fun k => by rw [spec_cnAllStill.j2, if_neg Bool.false_ne_true]) hr
  have hfalse : ∀ (i : Int), Ev (fun k => spec_cnAllStill.l0 k N txt o (wrap64 (n + 1)) w h cs) r → Ev (fun k => spec_cnAllStill.l1 k N txt o n false i w h cs w h cs') r := fun i hr => by
    have h2 := hend i false (Ev.congr (fun k => by rw [if_neg Bool.false_ne_true]) hr)
    exact Ev.step (fun k => by rw [spec_cnAllStill.l1]; split <;> rfl) h2
  intro dd
  induction dd with
  | zero =>
    intro i fl hi hr
    rw [List.drop_of_length_le (by rw [bytesOf_length]; omega), show allStill w h cs' [] = true from rfl, Bool.and_true] at hr
    exact Ev.step (fun k => by rw [spec_cnAllStill.l1, if_neg (by omega)]) (hend i fl hr)
  | succ dd ih =>
    intro i fl hi hr
    cases fl with
    | false =>
      rw [Bool.false_and] at hr
      exact hfalse i (Ev.congr (fun k => by rw [if_neg Bool.false_ne_true]) hr)
    | true =>
      have hil : i < txt.size := by omega
      have hW : wrap64 ((i : Int) + 1) = ((i + 1 : Nat) : Int) := by rw [w64 (by omega) (by omega)]; rfl
      have hbd := bytesOf_drop txt i hil
      have hdir : isDirC (bt txt i) = true := hd _ (List.mem_of_mem_drop (by rw [hbd]; exact List.mem_cons_self))
      obtain ⟨q1, q2, q3⟩ := dirB_ix hdir
      have hm := tiMoves_ev (d := (dirIx (bt txt i)).toNat) ⟨v'.w1, v'.w7⟩ ⟨v'.h1, v'.h7⟩ v'.len q2
      rw [show (((dirIx (bt txt i)).toNat : Nat) : Int) = dirIx (bt txt i) by omega] at hm
      have hml : (movL w h (dirIx (bt txt i)).toNat cs').length ≤ 100000 := by
        unfold movL
        rw [List.length_flatMap]
        have hcl : cs'.length ≤ 36 := by rw [v'.len]; exact v'.small
        have hfl : (strD w h (dirIx (bt txt i)).toNat cs').flatten.length ≤ 36 := by
          rw [(strD_cells q2 cs').length_eq]
          exact Nat.le_trans (List.length_filter_le _ _) (by rw [List.length_range, ← v'.len]; exact hcl)
        rw [List.length_flatten] at hfl
        refine Nat.le_trans ?_ (Nat.le_trans hfl (by omega))
        generalize strD w h (dirIx (bt txt i)).toNat cs' = S
        induction S with
        | nil => exact Nat.le_refl _
        | cons st S ihS =>
          simp only [List.map_cons, List.sum_cons]
          have := movSt_len (ballAt cs') st 0 0
          omega
      have hz : (movL w h (dirIx (bt txt i)).toNat cs').all (· == 0) = stillB w h cs' (dirIx (bt txt i)).toNat := by
        unfold stillB
        rw [Bool.eq_iff_iff, decide_eq_true_iff, still_iff q2 v'.len, List.all_eq_true]
        simp
      have hr2 : Ev (fun k => spec_cnAllStill.l1 k N txt o n (true && ((movL w h (dirIx (bt txt i)).toNat cs').drop 0).all (· == 0)) (wrap64 ((i : Int) + 1)) w h cs w h cs') r := by
        rw [List.drop_zero, hz, Bool.true_and, hW]
        rw [hbd, Bool.true_and] at hr
        unfold allStill at hr
        rw [List.all_cons] at hr
        exact ih (i + 1) _ (by omega) hr
      have h2 := moves_l2 (N := N) (txt := txt) (movL w h (dirIx (bt txt i)).toNat cs') hml r _ 0 true (Nat.zero_add _) hr2
      refine Ev.step (f := fun k => spec_cnAllStill.j2 k N txt o n true (i : Int) true w h cs w h cs') (fun k => by rw [spec_cnAllStill.l1, if_pos (by omega)]) ?_
      refine Ev.step (f := fun k => (spec_tiDir.f k (txt.extract i (i + 1))).bind fun t112 => (spec_tiMoves.f k w h cs' t112).bind fun t113 => spec_cnAllStill.l2 k N txt o n true (i : Int) t113 (t113.length : Int) 0 w h cs w h cs') (fun k => by
        rw [spec_cnAllStill.j2, if_pos rfl, if_pos (by omega), hW, if_pos (by omega), if_pos (by omega), Int.toNat_natCast, Int.toNat_natCast]) ?_
      exact Ev.bind (tiDir_ev _ _ (bytes_extract txt i hil)) (Ev.bind hm h2)
include v hb hN hd hsz in
theorem allst_l0 : ∀ (m n : Nat) (o : List ByteArray), n + m = 2 ^ N → o.length + m ≤ 1000000 → Ev (fun k => spec_cnAllStill.l0 k (N : Int) txt o (n : Int) w h cs) (stL w h cs (bytesOf txt) m n o)
  | 0, n, o, hn, ho => by
    have hs := shl_pow hN
    exact Ev.step (fun k => by rw [spec_cnAllStill.l0, if_pos (by omega), hs, if_neg (by omega)]; rfl) (Ev.now _)
  | m + 1, n, o, hn, ho => by
    have hs := shl_pow hN
    have hp : 2 ^ N ≤ 65536 := Nat.le_trans (Nat.pow_le_pow_right (by decide) hN) (by decide)
    have hW : wrap64 ((n : Int) + 1) = ((n + 1 : Nat) : Int) := by rw [w64 (by omega) (by omega)]; rfl
    have vF := fillC_V v hb n
    have hcl : cs.length ≤ 36 := by rw [v.len]; exact v.small
    refine Ev.step (f := fun k => (spec_cnFill.f k w h cs n).bind fun bt102 => spec_cnAllStill.l1 k N txt o n true 0 w h cs bt102.1 bt102.2.1 bt102.2.2) (fun k => by
      rw [spec_cnAllStill.l0, if_pos (by omega), hs, if_pos (by omega)]) ?_
    refine Ev.bind (fill_ev (by omega) hb n (by omega)) ?_
    refine dirs_l1 hd hsz vF _ txt.size 0 true (by omega) ?_
    rw [List.drop_zero, Bool.true_and, hW]
    unfold stL
    by_cases ha : allStill w h (fillC cs n) (bytesOf txt) = true
    · rw [if_pos ha]
      refine Ev.congr (f := fun k => (spec_tyText.f k w h (fillC cs n)).bind fun t => if o.length < 8796093022208 then spec_cnAllStill.l0 k N txt (o ++ [t]) ((n + 1 : Nat) : Int) w h cs else none) (fun k => if_pos ha) ?_
      refine Ev.bind (spec_text_ev (by have := v.w7; omega) (by have := v.h7; omega) (by rw [fillC_len]; exact v.len)) ?_
      exact Ev.congr (fun k => if_pos (by omega)) (allst_l0 m (n + 1) _ (by omega) (by rw [List.length_append, List.length_singleton]; omega))
    · rw [if_neg ha]
      exact Ev.congr (fun k => if_neg ha) (allst_l0 m (n + 1) o (by omega) (by omega))
include v hb hN hd hsz in
theorem allst_ev : Ev (fun k => spec_cnAllStill.f k w h cs N txt) (stL w h cs (bytesOf txt) (2 ^ N) 0 []) := by
  have hp : 2 ^ N ≤ 65536 := Nat.le_trans (Nat.pow_le_pow_right (by decide) hN) (by decide)
  exact allst_l0 v hb hN hd hsz (2 ^ N) 0 [] (Nat.zero_add _) (by simp; omega)
end
instance (cs : List Int) : Decidable (bareC cs) := by unfold bareC; exact inferInstance
def lookG (t : ByteArray) : Bool := match tyGrid (bytesOf t) with
  | none => false
  | some g => decide (bareC g.2.2 ∧ (openL g.2.2).length ≤ 16)
theorem mem_grid {l : List Int} {w h : Nat} {cs : List Int} (hg : tyGrid l = some (w, h, cs)) {c : Int} (hc : c ≠ 47) : c ∈ l ↔ c ∈ cs := by
  rw [← List.count_pos_iff, ← List.count_pos_iff, rowsI_count 47 c hc l, (tyGrid_parts hg).1]
theorem isEmptied_ev (s : ByteArray) (hs : s.size < 4294967281) : Ev (fun k => impl_isEmptied.f k s) (match tyGrid (bytesOf s) with | none => false | some g => decide (bareC g.2.2)) := by
  have hI := impl_IsTray_ev s hs
  unfold impl_isEmptied.f
  cases hg : tyGrid (bytesOf s) with
  | none =>
    rw [hg] at hI
    exact Ev.bind hI (Ev.congr (fun k => if_neg Bool.false_ne_true) (Ev.now _))
  | some g =>
    obtain ⟨w, h, cs⟩ := g
    rw [hg] at hI
    obtain ⟨t, ht, hiff⟩ := trim_nil s (⟨#[35, 46, 47]⟩ : ByteArray) ByteArray.empty (by omega) (by decide) (by decide)
    have hcut : bytesOf (⟨#[35, 46, 47]⟩ : ByteArray) = [35, 46, 47] := by decide
    rw [hcut] at hiff
    have hv := (tyGrid_VG hg).1
    have key : t.toList = [] ↔ bareC cs := by
      rw [hiff]
      constructor
      · intro h2 c hc
        have h47 := cell_no47 (hv.cell c hc)
        have := h2 c ((mem_grid hg h47).2 hc)
        simp only [List.mem_cons, List.not_mem_nil, or_false] at this
        omega
      · intro h2 c hc
        by_cases h47 : c = 47
        · rw [h47]; simp
        · rcases h2 c ((mem_grid hg h47).1 hc) with e | e <;> rw [e] <;> simp
    refine Ev.bind hI (Ev.congr (fun k => by
      rw [show (some (w, h, cs) : Option (Nat × Nat × List Int)).isSome = true from rfl, if_pos rfl, ht, Option.bind_some]) ?_)
    rw [show (t.toList == ([] : List UInt8)) = decide (bareC cs) from by rw [Bool.eq_iff_iff, beq_iff_eq, decide_eq_true_iff, key]]
    exact Ev.now _
theorem isLooked_ev (t : ByteArray) (ht : t.size < 4294967281) : Ev (fun k => impl_isLooked.f k t) (lookG t) := by
  have hE := isEmptied_ev t ht
  unfold impl_isLooked.f lookG
  cases hg : tyGrid (bytesOf t) with
  | none =>
    rw [hg] at hE
    exact Ev.bind hE (Ev.congr (fun k => if_neg Bool.false_ne_true) (Ev.now _))
  | some g =>
    obtain ⟨w, h, cs⟩ := g
    rw [hg] at hE
    simp only at hE
    have hv := (tyGrid_VG hg).1
    have hcl : cs.length ≤ 36 := by rw [hv.len]; exact hv.small
    show Ev _ (decide (bareC cs ∧ (openL cs).length ≤ 16))
    refine Ev.bind hE ?_
    by_cases hb : bareC cs
    · rw [decide_eq_true hb]
      refine Ev.congr (f := fun k => (impl_tray_indices__impl_isOpen.f k w h cs).bind fun t107 => some (decide ((t107.length : Int) ≤ 16))) (fun k => by rw [if_pos rfl, impl_read_eq t hg, Option.bind_some]) ?_
      refine Ev.bind (open_ev _ _ (by omega)) ?_
      rw [castsI_length, show decide (bareC cs ∧ (openL cs).length ≤ 16) = decide (((openL cs).length : Int) ≤ 16) from decide_eq_decide.2 ⟨fun q => by have := q.2; exact Int.ofNat_le.2 this, fun q => ⟨hb, Int.ofNat_le.1 q⟩⟩]
      exact Ev.now _
    · rw [decide_eq_false hb]
      refine Ev.congr (fun k => if_neg Bool.false_ne_true) ?_
      rw [decide_eq_false (fun q => hb q.1)]
      exact Ev.now _
theorem bare_ball {w h : Nat} {cs : List Int} (v : VG w h cs) : bareC cs ↔ idxs isBallC cs = [] := by
  unfold idxs
  rw [List.filter_eq_nil_iff]
  constructor
  · intro hb i hi
    have hil := List.mem_range.1 hi
    rw [List.getD_eq_getElem?_getD, List.getElem?_eq_getElem hil]
    rcases hb _ (List.getElem_mem hil) with e | e <;> (show ¬ isBallC cs[i] = true; rw [e]; decide)
  · intro hn c hc
    obtain ⟨i, hi, rfl⟩ := List.getElem_of_mem hc
    have h1 := hn i (List.mem_range.2 hi)
    rw [List.getD_eq_getElem?_getD, List.getElem?_eq_getElem hi] at h1
    have h2 := v.cell _ hc
    unfold isCellC at h2
    simp only [Bool.or_eq_true, beq_iff_eq] at h2
    rcases h2 with (h2 | h2) | h2
    · exact .inr h2
    · exact .inl h2
    · exact absurd h2 h1
theorem bare_l0 {cs : List Int} (hl : cs.length ≤ 1000) (hb : bareC cs) (a b : Int) : ∀ (d i x : Nat), i + d = cs.length → x ≤ i → Ev (fun k => spec_cnBare.l0 k (x : Int) cs (cs.length : Int) (i : Int) a b cs) (a, b, cs, ((x + ((List.range' i d).filter (openAt cs)).length : Nat) : Int), true)
  | 0, i, x, hi, hx => Ev.step (fun k => by rw [spec_cnBare.l0, if_neg (by omega)]; rfl) (Ev.now _)
  | d + 1, i, x, hi, hx => by
    have hil : i < cs.length := by omega
    have hW : wrap64 ((i : Int) + 1) = ((i + 1 : Nat) : Int) := by rw [w64 (by omega) (by omega)]; rfl
    have hX : wrap64 ((x : Int) + 1) = ((x + 1 : Nat) : Int) := by rw [w64 (by omega) (by omega)]; rfl
    have hrd : rd cs (i : Int) = cs.getD i 0 := by unfold rd; rw [Int.toNat_natCast]
    have hc := hb (cs.getD i 0) (by rw [List.getD_eq_getElem?_getD, List.getElem?_eq_getElem hil]; exact List.getElem_mem hil)
    rw [List.range'_succ, List.filter_cons]
    by_cases hop : openAt cs i = true
    · have h46 : cs.getD i 0 = 46 := by
        rcases hc with hc | hc
        · exact hc
        · unfold openAt at hop; rw [hc] at hop; cases hop
      rw [if_pos hop, List.length_cons]
      have ih := bare_l0 hl hb a b d (i + 1) (x + 1) (by omega) (by omega)
      rw [show x + 1 + ((List.range' (i + 1) d).filter (openAt cs)).length = x + (((List.range' (i + 1) d).filter (openAt cs)).length + 1) by omega] at ih
      refine Ev.step (fun k => ?_) ih
      rw [spec_cnBare.l0, if_pos (by omega), if_pos (by omega), if_pos (by omega), hrd, if_pos h46, hX, hW]
    · have h46 : ¬ cs.getD i 0 = 46 := fun e => hop (by unfold openAt; rw [e]; rfl)
      rw [if_neg hop]
      refine Ev.step (fun k => ?_) (bare_l0 hl hb a b d (i + 1) x (by omega) (by omega))
      rw [spec_cnBare.l0, if_pos (by omega), if_pos (by omega), if_pos (by omega), hrd, if_neg h46, hW]
def dirsB (l : List Int) : Bool := l.all isDirC && decide l.Nodup
theorem dirs_len : ∀ l : List Int, (∀ c ∈ l, isDirC c = true) → l.length = l.count 117 + l.count 114 + l.count 100 + l.count 108
  | [], _ => rfl
  | c :: l, h => by
    have ih := dirs_len l (fun x hx => h x (List.mem_cons_of_mem _ hx))
    have hc := h c List.mem_cons_self
    unfold isDirC at hc
    simp only [Bool.or_eq_true, beq_iff_eq] at hc
    rcases hc with ((rfl | rfl) | rfl) | rfl <;> simp [List.count_cons] <;> omega
theorem dirsB_len {l : List Int} (h : dirsB l = true) : l.length ≤ 4 ∧ ∀ c ∈ l, isDirC c = true := by
  unfold dirsB at h
  rw [Bool.and_eq_true, List.all_eq_true, decide_eq_true_iff, List.nodup_iff_count] at h
  have h1 := dirs_len l h.1
  have := h.2 117; have := h.2 114; have := h.2 100; have := h.2 108
  exact ⟨by omega, h.1⟩
theorem areDirs_l0 (x : ByteArray) (hx : x.size ≤ 2000000) : ∀ (d i : Nat), i + d = x.size → Ev (fun k => impl_areDirs.l0 k x (x.size : Int) (i : Int)) (((bytesOf x).drop i).all (fun c => decide ((bytesOf x).count c ≤ 1)) && isWordB (bytesOf x))
  | 0, i, hi => by
    rw [List.drop_of_length_le (by rw [bytesOf_length]; omega), List.all_nil, Bool.true_and]
    exact Ev.step (fun k => by rw [impl_areDirs.l0, if_neg (by omega), impl_IsWord_eq]; rfl) (Ev.now _)
  | d + 1, i, hi => by
    have hil : i < x.size := by omega
    have hW : wrap64 ((i : Int) + 1) = ((i + 1 : Nat) : Int) := by rw [w64 (by omega) (by omega)]; rfl
    have hbx := bytes_extract x i hil
    have hsz : (x.extract i (i + 1)).size = 1 := by rw [← bytesOf_length, hbx]; rfl
    have hct : strings_Count.f x (x.extract i (i + 1)) = some (((bytesOf x).count (bt x i) : Nat) : Int) := by
      have e := one_byte_of hsz
      generalize (x.extract i (i + 1)).data[0]'(by have : (x.extract i (i + 1)).data.size = 1 := hsz; omega) = b at e
      rw [e] at hbx ⊢
      have hbb : (b.toNat : Int) = bt x i := (List.cons.inj (show [(b.toNat : Int)] = [bt x i] from hbx)).1
      rw [count_byte, hbb]
    have hstep : ∀ k, impl_areDirs.l0 (k + 1) x (x.size : Int) (i : Int) = if (((bytesOf x).count (bt x i) : Nat) : Int) > 1 then some false else impl_areDirs.l0 k x (x.size : Int) ((i + 1 : Nat) : Int) := fun k => by
      rw [impl_areDirs.l0, if_pos (by omega), if_pos (by omega), hW, if_pos (by omega), if_pos (by omega), Int.toNat_natCast, Int.toNat_natCast, hct]; rfl
    rw [bytesOf_drop x i hil, List.all_cons]
    by_cases hc : (bytesOf x).count (bt x i) ≤ 1
    · rw [decide_eq_true hc, Bool.true_and]
      exact Ev.step (fun k => by rw [hstep, if_neg (by omega)]) (areDirs_l0 x hx d (i + 1) (by omega))
    · rw [decide_eq_false hc, Bool.false_and, Bool.false_and]
      exact Ev.step (f := fun _ => some false) (fun k => by rw [hstep, if_pos (by omega)]) (Ev.now _)
theorem areDirs_ev (x : ByteArray) (hx : x.size ≤ 2000000) : Ev (fun k => impl_areDirs.f k x) (dirsB (bytesOf x)) := by
  have h0 := areDirs_l0 x hx x.size 0 (by omega)
  rw [List.drop_zero] at h0
  have e : ((bytesOf x).all (fun c => decide ((bytesOf x).count c ≤ 1)) && isWordB (bytesOf x)) = dirsB (bytesOf x) := by
    rw [Bool.eq_iff_iff, Bool.and_eq_true, List.all_eq_true, isWordB_iff]
    simp only [decide_eq_true_iff]
    constructor
    · rintro ⟨h1, h2, h3⟩
      unfold dirsB
      rw [Bool.and_eq_true, List.all_eq_true, decide_eq_true_iff, List.nodup_iff_count]
      refine ⟨h3, fun c => ?_⟩
      by_cases hc : c ∈ bytesOf x
      · exact h1 c hc
      · rw [List.count_eq_zero_of_not_mem hc]; omega
    · intro hB
      obtain ⟨q1, q2⟩ := dirsB_len hB
      unfold dirsB at hB
      rw [Bool.and_eq_true, decide_eq_true_iff, List.nodup_iff_count] at hB
      exact ⟨fun c _ => hB.2 c, by omega, q2⟩
  rw [e] at h0
  exact h0
def dirsTo (x : ByteArray) (i : Nat) : Prop := ∀ j, i ≤ j → j < x.size → isDirC (bt x j) = true ∧ ∀ m, m < j → bt x j ≠ bt x m
theorem cnDirs_l0 (x : ByteArray) (hx : x.size ≤ 2000000) : ∀ (d i : Nat), i + d = x.size → ∃ b, Ev (fun k => spec_cnDirs.l0 k x (i : Int)) b ∧ (b = true ↔ dirsTo x i)
  | 0, i, hi => ⟨true, Ev.step (fun k => by rw [spec_cnDirs.l0, if_neg (by omega)]) (Ev.now _), ⟨fun _ j h1 h2 => by omega, fun _ => rfl⟩⟩
  | d + 1, i, hi => by
    have hil : i < x.size := by omega
    have hW : wrap64 ((i : Int) + 1) = ((i + 1 : Nat) : Int) := by rw [w64 (by omega) (by omega)]; rfl
    obtain ⟨b, hb, hiff⟩ := cnDirs_l0 x hx d (i + 1) (by omega)
    have hstep : ∀ k, spec_cnDirs.l0 (k + 1) x (i : Int) = (spec_tiDir.f k (x.extract i (i + 1))).bind fun t101 => if t101 < 0 then some false else spec_cnDirs.l1 k x (i : Int) 0 := fun k => by
      rw [spec_cnDirs.l0, if_pos (by omega), if_pos (by omega), hW, if_pos (by omega), if_pos (by omega), Int.toNat_natCast, Int.toNat_natCast]
    by_cases hd : isDirC (bt x i) = true
    · have hn : ¬ dirIx (bt x i) < 0 := fun e => by rw [dirIx_neg, hd] at e; cases e
      have hl1 : ∀ (d' j : Nat), j + d' = i → ∃ b', Ev (fun k => spec_cnDirs.l1 k x (i : Int) (j : Int)) b' ∧ (b' = true ↔ (∀ m, j ≤ m → m < i → bt x i ≠ bt x m) ∧ dirsTo x (i + 1)) := by
        intro d'
        induction d' with
        | zero =>
          intro j hj
          refine ⟨b, Ev.step (fun k => by rw [spec_cnDirs.l1, if_neg (by omega), hW]) hb, ?_⟩
          rw [hiff]
          exact ⟨fun q => ⟨fun m h1 h2 => by omega, q⟩, fun q => q.2⟩
        | succ d' ih =>
          intro j hj
          have hJ : wrap64 ((j : Int) + 1) = ((j + 1 : Nat) : Int) := by rw [w64 (by omega) (by omega)]; rfl
          obtain ⟨b', hb', hiff'⟩ := ih (j + 1) (by omega)
          have hs : ∀ k, spec_cnDirs.l1 (k + 1) x (i : Int) (j : Int) = if bt x i = bt x j then some false else spec_cnDirs.l1 k x (i : Int) ((j + 1 : Nat) : Int) := fun k => by
            rw [spec_cnDirs.l1, if_pos (by omega), if_pos (by omega), if_pos (by omega), if_pos (by omega), if_pos (by omega), hJ]
          by_cases he : bt x i = bt x j
          · refine ⟨false, Ev.step (f := fun _ => some false) (fun k => by rw [hs, if_pos he]) (Ev.now _), ?_⟩
            exact ⟨fun q => absurd q Bool.false_ne_true, fun q => absurd he (q.1 j (Nat.le_refl _) (by omega))⟩
          · refine ⟨b', Ev.step (fun k => by rw [hs, if_neg he]) hb', ?_⟩
            rw [hiff']
            refine ⟨fun q => ⟨fun m h1 h2 => ?_, q.2⟩, fun q => ⟨fun m h1 h2 => q.1 m (by omega) h2, q.2⟩⟩
            by_cases e : m = j
            · rw [e]; exact he
            · exact q.1 m (by omega) h2
      obtain ⟨b', hb', hiff'⟩ := hl1 i 0 (by omega)
      refine ⟨b', Ev.step hstep (Ev.bind (tiDir_ev _ _ (bytes_extract x i hil)) (Ev.congr (fun k => if_neg hn) hb')), ?_⟩
      rw [hiff']
      constructor
      · rintro ⟨q1, q2⟩ j h1 h2
        by_cases e : j = i
        · rw [e]; exact ⟨hd, fun m hm => q1 m (Nat.zero_le _) hm⟩
        · exact q2 j (by omega) h2
      · intro q
        exact ⟨fun m _ hm => (q i (Nat.le_refl _) hil).2 m hm, fun j h1 h2 => q j (by omega) h2⟩
    · have hn : dirIx (bt x i) < 0 := (dirIx_neg _).2 (by simpa using hd)
      refine ⟨false, Ev.step hstep (Ev.bind (tiDir_ev _ _ (bytes_extract x i hil)) (Ev.congr (f := fun _ => some false) (fun k => if_pos hn) (Ev.now _))), ?_⟩
      exact ⟨fun q => absurd q Bool.false_ne_true, fun q => absurd (q i (Nat.le_refl _) hil).1 hd⟩
theorem cnDirs_ev (x : ByteArray) (hx : x.size ≤ 2000000) : Ev (fun k => spec_cnDirs.f k x) (dirsB (bytesOf x)) := by
  obtain ⟨b, hb, hiff⟩ := cnDirs_l0 x hx x.size 0 (by omega)
  have e : b = dirsB (bytesOf x) := by
    rw [Bool.eq_iff_iff, hiff]
    unfold dirsB dirsTo
    have hget : ∀ i (hi : i < (bytesOf x).length), (bytesOf x)[i] = bt x i := fun i hi => by
      have := bytesOf_get x i (by rw [← bytesOf_length]; exact hi)
      rw [List.getElem?_eq_getElem hi] at this
      exact Option.some.inj this
    rw [Bool.and_eq_true, List.all_eq_true, decide_eq_true_iff]
    unfold List.Nodup
    rw [List.pairwise_iff_getElem]
    constructor
    · intro q
      refine ⟨fun c hc => ?_, fun i j hi hj hij => ?_⟩
      · obtain ⟨i, hi, rfl⟩ := List.getElem_of_mem hc
        rw [hget i hi]
        exact (q i (Nat.zero_le _) (by rw [← bytesOf_length]; exact hi)).1
      · rw [hget i hi, hget j hj]
        exact fun e => (q j (Nat.zero_le _) (by rw [← bytesOf_length]; exact hj)).2 i hij e.symm
    · rintro ⟨q1, q2⟩ j _ hj
      have hj' : j < (bytesOf x).length := by rw [bytesOf_length]; exact hj
      refine ⟨by rw [← hget j hj']; exact q1 _ (List.getElem_mem hj'), fun m hm e => ?_⟩
      have hm' : m < (bytesOf x).length := by omega
      have := q2 m j hm' hj' hm
      rw [hget m hm', hget j hj'] at this
      exact this e.symm
  rw [← e]
  exact hb
theorem cnLooked_ev (t x : ByteArray) (hx : x.size ≤ 2000000) : ∃ A B C n, Ev (fun k => spec_cnLooked.f k t x) (A, B, C, n, lookG t && dirsB (bytesOf x)) ∧ (lookG t = true → ∃ w h cs, tyGrid (bytesOf t) = some (w, h, cs) ∧ VG w h cs ∧ bareC cs ∧ (openL cs).length ≤ 16 ∧ A = (w : Int) ∧ B = (h : Int) ∧ C = cs ∧ n = ((openL cs).length : Int)) := by
  have hT := spec_tyRead_ev t
  have hD := cnDirs_ev x hx
  unfold spec_cnLooked.f spec_cnBare.f
  cases hg : tyGrid (bytesOf t) with
  | none =>
    rw [hg] at hT
    rw [show lookG t = false from by unfold lookG; rw [hg]]
    refine ⟨0, 0, [], 0, ?_, fun q => absurd q Bool.false_ne_true⟩
    refine Ev.bind (a := ((0 : Int), (0 : Int), ([] : List Int), (0 : Int), false)) (Ev.bind hT (Ev.congr (f := fun k => spec_cnBare.j0 k true 0 0 []) (fun k => if_neg Bool.false_ne_true) (Ev.step (f := fun _ => some ((0 : Int), (0 : Int), ([] : List Int), (0 : Int), false)) (fun k => by rw [spec_cnBare.j0, if_pos rfl]) (Ev.now _)))) ?_
    exact Ev.congr (fun k => if_neg Bool.false_ne_true) (Ev.now _)
  | some g =>
    obtain ⟨w, h, cs⟩ := g
    rw [hg] at hT
    rw [show lookG t = decide (bareC cs ∧ (openL cs).length ≤ 16) from by unfold lookG; rw [hg]]
    have hv := (tyGrid_VG hg).1
    have hcl : cs.length ≤ 36 := by rw [hv.len]; exact hv.small
    have hB := tyBallsZ_ev (w : Int) (h : Int) (cs := cs) (by omega)
    by_cases hb : bareC cs
    · have hz : castsI (idxs isBallC cs) = [] := by rw [(bare_ball hv).1 hb]; rfl
      rw [hz] at hB
      have h0 := bare_l0 (by omega) hb (w : Int) (h : Int) cs.length 0 0 (by omega) (Nat.le_refl _)
      rw [← List.range_eq_range', Nat.zero_add] at h0
      refine ⟨w, h, cs, ((openL cs).length : Int), ?_, fun q => ⟨w, h, cs, rfl, hv, hb, (of_decide_eq_true q).2, rfl, rfl, rfl, rfl⟩⟩
      refine Ev.bind (a := ((w : Int), (h : Int), cs, ((openL cs).length : Int), true)) (Ev.bind hT (Ev.congr (f := fun k => (spec_tyBalls.f k w h cs).bind fun t109 => spec_cnBare.j0 k (decide ((t109.length : Int) > 0)) w h cs) (fun k => if_pos rfl) (Ev.bind hB (Ev.step (f := fun k => spec_cnBare.l0 k 0 cs (cs.length : Int) 0 w h cs) (fun k => by rw [spec_cnBare.j0, decide_eq_false (by simp), if_neg Bool.false_ne_true]) h0)))) ?_
      by_cases h16 : (openL cs).length ≤ 16
      · rw [decide_eq_true (show bareC cs ∧ (openL cs).length ≤ 16 from ⟨hb, h16⟩), Bool.true_and]
        refine Ev.congr (f := fun k => (spec_cnDirs.f k x).bind fun t110 => some ((w : Int), (h : Int), cs, ((openL cs).length : Int), t110)) (fun k => (if_pos rfl).trans (if_pos (show ((openL cs).length : Int) ≤ 16 by omega))) ?_
        exact Ev.bind hD (Ev.now _)
      · rw [decide_eq_false (fun q => h16 q.2), Bool.false_and]
        exact Ev.congr (fun k => (if_pos rfl).trans (if_neg (show ¬ ((openL cs).length : Int) ≤ 16 by omega))) (Ev.now _)
    · have hz : ¬ idxs isBallC cs = [] := fun e => hb ((bare_ball hv).2 e)
      have hpos : 0 < (castsI (idxs isBallC cs)).length := by rw [castsI_length]; exact List.length_pos_iff.2 hz
      refine ⟨w, h, cs, 0, ?_, fun q => absurd (of_decide_eq_true q).1 hb⟩
      refine Ev.bind (a := ((w : Int), (h : Int), cs, (0 : Int), false)) (Ev.bind hT (Ev.congr (f := fun k => (spec_tyBalls.f k w h cs).bind fun t109 => spec_cnBare.j0 k (decide ((t109.length : Int) > 0)) w h cs) (fun k => if_pos rfl) (Ev.bind hB (Ev.step (f := fun _ => some ((w : Int), (h : Int), cs, (0 : Int), false)) (fun k => by rw [spec_cnBare.j0, decide_eq_true (by omega), if_pos rfl]) (Ev.now _))))) ?_
      rw [decide_eq_false (fun q => hb q.1), Bool.false_and]
      exact Ev.congr (fun k => if_neg Bool.false_ne_true) (Ev.now _)
def cornA (t x : ByteArray) : List ByteArray := match tyGrid (bytesOf t) with
  | none => []
  | some (w, h, cs) => stL w h cs (bytesOf x) (2 ^ (openL cs).length) 0 []
theorem impl_corner_ev (t x : ByteArray) (ht : t.size < 4294967281) (hx : x.size ≤ 2000000) : Ev (fun k => impl_CountCorner.f k t x) (if lookG t && dirsB (bytesOf x) then (((cornA t x).length : Int), true) else (0, false)) := by
  unfold impl_CountCorner.f
  refine Ev.bind (isLooked_ev t ht) ?_
  cases hk : lookG t with
  | false => exact Ev.congr (fun k => if_neg Bool.false_ne_true) (Ev.now _)
  | true =>
    refine Ev.congr (fun k => if_pos rfl) (Ev.bind (areDirs_ev x hx) ?_)
    cases hd : dirsB (bytesOf x) with
    | false => exact Ev.congr (fun k => if_neg Bool.false_ne_true) (Ev.now _)
    | true =>
      obtain ⟨A, B, C, n, _, hl⟩ := cnLooked_ev t x hx
      obtain ⟨w, h, cs, hg, v, hb, h16, _⟩ := hl hk
      obtain ⟨q1, q2⟩ := dirsB_len hd
      rw [bytesOf_length] at q1
      refine Ev.congr (fun k => if_pos rfl) (Ev.bind (stills_ev hg v hb h16 q2 (by omega)) ?_)
      rw [sortB_len, show cornA t x = stL w h cs (bytesOf x) (2 ^ (openL cs).length) 0 [] from by unfold cornA; rw [hg]]
      exact Ev.now _
end Go.Proofs.YtdffgeoegdkiaaaGreatDoor.F

namespace Go.Proofs.YtdffgeoegdkiaaaGreatDoor.F
open Go.Proofs.YtdffgeoegdkiaaaGreatDoor
open Go.RowKit Go.Proofs.YtdffgeoegdkiaaaGreatDoorW.PrintWords Go.Proofs.YtdffgeoegdkiaaaGreatDoorW.PrintLast Go.Proofs.YtdffgeoegdkiaaaGreatDoorW.PrintMore
attribute [local go_sem] max2_int min2_int max_two min_two max_three min_three max_four min_four
def laws_eqStringS.l0 : Nat → List ByteArray → List ByteArray → Int → Option (Bool)
 | 0, _, _, _ => none
 | k + 1, x0, x1, x5 => if x5 < (x0.length : Int) then (if 0 ≤ x5 then (if x5 < (x1.length : Int) then (if (rdOf ByteArray.empty x0 x5).toList = (rdOf ByteArray.empty x1 x5).toList then (laws_eqStringS.l0 k x0 x1 (wrap64 (x5 + 1))) else (some false)) else (none)) else (none)) else (some true)
def laws_eqStringS.f (k : Nat) (l0 : List ByteArray) (l1 : List ByteArray) : Option (Bool) := if (l0.length : Int) = (l1.length : Int) then (laws_eqStringS.l0 k l0 l1 0) else (some false)
theorem laws_eqStringS.mono_l : ∀ k, (∀ y0 y1 y2, LeO (laws_eqStringS.l0 k y0 y1 y2) (laws_eqStringS.l0 (k + 1) y0 y1 y2))
 | 0 => fun _ _ _ r h => by simp [laws_eqStringS.l0] at h
 | k + 1 => by
  have ih0 := laws_eqStringS.mono_l k
  ·intro y0 y1 y2
   unfold laws_eqStringS.l0
   exact mo
theorem laws_eqStringS.mono : ∀ a0 a1 k, LeO (laws_eqStringS.f k a0 a1) (laws_eqStringS.f (k + 1) a0 a1) := by
 intro a0 a1 k
 have ih0 := laws_eqStringS.mono_l k
 unfold laws_eqStringS.f
 exact mo
set_option maxHeartbeats 8000000 in
set_option maxRecDepth 100000 in
theorem laws_eqStringS.calls (k : Nat) (A0 : Option Addr) (c0 : Nat) (l0 : List ByteArray) (A1 : Option Addr) (c1 : Nat) (l1 : List ByteArray) (r : Bool) (w : World) (hr0 : Kd.C Kd.string w A0 l0.length l0) (hc0 : l0.length ≤ c0) (hr1 : Kd.C Kd.string w A1 l1.length l1) (hc1 : l1.length ≤ c1) (h : laws_eqStringS.f k l0 l1 = some r) :
  Calls Tryz.prog 17 #[.slice A0 l0.length c0, .slice A1 l1.length c1] w fun e w' => e = .returned (.bool r) ∧ Drawn0 w w' := by
 have HR0 := am hr0
 have HC0 := am hc0
 clear hr0 hc0
 have HR1 := am hr1
 have HC1 := am hc1
 clear hr1 hc1
 have H : (if (l0.length : Int) = (l1.length : Int) then (laws_eqStringS.l0 k l0 l1 0) else (some false)) = some r := h
 clear h
 by_cases c3 : (l0.length : Int) = (l1.length : Int)
 ·rw [if_pos c3] at H
  have c3b0 := beq_iff_eq.mpr c3
  have c3b1 := bne_eq_false_iff_eq.mpr c3
  have c3b2 : (l0.length == l1.length) = true := by first | simpa using c3 | (simp at c3 ⊢; omega)
  clear c3
  have H' := am H
  clear H
  go_enter Tryz.func17, Tryz.ntmps17
  go_wp2
  repeat (go_quiet (fail); try go_wp2)
  go_loopg [5] k (fun kq v5 w' => ∃ (x5_1 : Int), v5 = .int .i64 x5_1 ∧ Aside0 (laws_eqStringS.l0 kq l0 l1 x5_1 = some r) ∧ Aside0 (kq ≤ k) ∧ Drawn0 w w')
  case atStart => exact ⟨(0), aq6, H', ⟨Nat.le_refl _⟩, aq14⟩
  case round =>
   clear H'
   try clear c1
   try clear p2
   try clear c3
   try clear c3b0
   try clear c3b1
   try clear c3b2
   obtain ⟨x5_1, rfl, HA, HK1, ⟨m1, rfl⟩⟩ := hrel
   cases gk with
   | zero => exact absurd HA.out (by simp [laws_eqStringS.l0])
   | succ k1 =>
    have H := HA.out
    clear HA
    simp only [laws_eqStringS.l0] at H
    by_cases c4 : x5_1 < (l0.length : Int)
    ·rw [if_pos c4] at H
     have c4b0 := decide_eq_true c4
     clear c4
     by_cases c5 : 0 ≤ x5_1
     ·rw [if_pos c5] at H
      have c5b0 := decide_eq_true c5
      clear c5
      by_cases c6 : x5_1 < (l1.length : Int)
      ·rw [if_pos c6] at H
       have c6b0 := decide_eq_true c6
       clear c6
       by_cases c7 : (rdOf ByteArray.empty l0 x5_1).toList = (rdOf ByteArray.empty l1 x5_1).toList
       ·rw [if_pos c7] at H
        have c7b0 := beq_iff_eq.mpr c7
        have c7b1 := bne_eq_false_iff_eq.mpr c7
        clear c7
        have H' := am H
        clear H
        have p101 : 0 ≤ (x5_1 : Int) := of_decide_eq_true aq5
        have q101 : x5_1 < (l0.length : Int) := of_decide_eq_true aq5
        obtain ⟨ad101, e101, hx101_0⟩ := Kd.at_string HR0.out x5_1 p101 q101
        cases e101
        replace p101 := eq_true p101
        replace q101 := eq_true q101
        have p102 : 0 ≤ (x5_1 : Int) := of_decide_eq_true aq5
        have q102 : x5_1 < (l1.length : Int) := of_decide_eq_true aq5
        obtain ⟨ad102, e102, hx102_0⟩ := Kd.at_string HR1.out x5_1 p102 q102
        cases e102
        replace p102 := eq_true p102
        replace q102 := eq_true q102
        go_wp2
        repeat (go_quiet (fail); try go_wp2)
        go_roundg k1
        case measure => have := HK1.out; omega
        case rel => exact ⟨(wrap64 (x5_1 + 1)), aq6, H', ⟨aq65⟩, aq14⟩
       ·rw [if_neg c7] at H
        have c7b0 := beq_eq_false_iff_ne.mpr c7
        have c7b1 := bne_iff_ne.mpr c7
        obtain rfl := Option.some.inj H
        have p101 : 0 ≤ (x5_1 : Int) := of_decide_eq_true aq5
        have q101 : x5_1 < (l0.length : Int) := of_decide_eq_true aq5
        obtain ⟨ad101, e101, hx101_0⟩ := Kd.at_string HR0.out x5_1 p101 q101
        cases e101
        replace p101 := eq_true p101
        replace q101 := eq_true q101
        have p102 : 0 ≤ (x5_1 : Int) := of_decide_eq_true aq5
        have q102 : x5_1 < (l1.length : Int) := of_decide_eq_true aq5
        obtain ⟨ad102, e102, hx102_0⟩ := Kd.at_string HR1.out x5_1 p102 q102
        cases e102
        replace p102 := eq_true p102
        replace q102 := eq_true q102
        go_wp2
        repeat (go_quiet (fail); try go_wp2)
        go_ret
        exact ⟨aq6, aq14⟩
      ·rw [if_neg c6] at H
       exact absurd H (by simp)
     ·rw [if_neg c5] at H
      exact absurd H (by simp)
    ·rw [if_neg c4] at H
     have c4b0 := decide_eq_false c4
     clear c4
     obtain rfl := Option.some.inj H
     go_wp2
     repeat (go_quiet (fail); try go_wp2)
     go_ret
     exact ⟨aq6, aq14⟩
 ·rw [if_neg c3] at H
  have c3b0 := beq_eq_false_iff_ne.mpr c3
  have c3b1 := bne_iff_ne.mpr c3
  have c3b2 : (l0.length == l1.length) = false := by first | simpa using c3 | (simp at c3 ⊢; omega)
  obtain rfl := Option.some.inj H
  go_enter Tryz.func17, Tryz.ntmps17
  go_wp2
  repeat (go_quiet (fail); try go_wp2)
  go_ret
  exact ⟨aq6, aq14⟩
def laws_markText.l0 : Nat → Int → ByteArray → Option (ByteArray)
 | 0, _, _ => none
 | k + 1, x0, x3 => if x0 > 0 then ((some (([(wrap64 (48 + (Int.tmod x0 10))) % 256] : List Int) : List Int)).bind fun y101 => (if (strOfNums y101).size + x3.size ≤ 9223372036854775807 then (laws_markText.l0 k (wrap64 (Int.tdiv x0 10)) ((strOfNums y101) ++ x3)) else (none))) else (if 1 + x3.size ≤ 9223372036854775807 then (some ((⟨#[109]⟩ : ByteArray) ++ x3)) else (none))
def laws_markText.f (k : Nat) (a0 : Int) : Option (ByteArray) := if a0 ≤ 0 then (some (⟨#[109, 48]⟩ : ByteArray)) else (laws_markText.l0 k a0 (⟨#[]⟩ : ByteArray))
theorem laws_markText.mono_l : ∀ k, (∀ y0 y1, LeO (laws_markText.l0 k y0 y1) (laws_markText.l0 (k + 1) y0 y1))
 | 0 => fun _ _ r h => by simp [laws_markText.l0] at h
 | k + 1 => by
  have ih0 := laws_markText.mono_l k
  ·intro y0 y1
   unfold laws_markText.l0
   exact mo
theorem laws_markText.mono : ∀ a0 k, LeO (laws_markText.f k a0) (laws_markText.f (k + 1) a0) := by
 intro a0 k
 have ih0 := laws_markText.mono_l k
 unfold laws_markText.f
 exact mo
set_option maxHeartbeats 8000000 in
set_option maxRecDepth 100000 in
theorem laws_markText.calls (k : Nat) (a0 : Int) (r : ByteArray) (w : World) (h : laws_markText.f k a0 = some r) :
  Calls Tryz.prog 61 #[.int .i64 a0] w fun e w' => e = .returned (.string r) ∧ Below w.heap.size w w' := by
 have HB := am (Below.refl w.heap.size w)
 have H : (if a0 ≤ 0 then (some (⟨#[109, 48]⟩ : ByteArray)) else (laws_markText.l0 k a0 (⟨#[]⟩ : ByteArray))) = some r := h
 clear h
 by_cases c2 : a0 ≤ 0
 ·rw [if_pos c2] at H
  have c2b0 := decide_eq_true c2
  clear c2
  obtain rfl := Option.some.inj H
  go_enter Tryz.func61, Tryz.ntmps61
  go_wp2
  go_ret
  exact ⟨aq8, aq1⟩
 ·rw [if_neg c2] at H
  have c2b0 := decide_eq_false c2
  clear c2
  have H' := am H
  clear H
  go_enter Tryz.func61, Tryz.ntmps61
  go_wp2
  go_loopg [0, 3] k (fun kq v0 v3 w' => ∃ (x0_1 : Int) (x3_1 : ByteArray), v0 = .int .i64 x0_1 ∧ v3 = .string x3_1 ∧ Aside0 (laws_markText.l0 kq x0_1 x3_1 = some r) ∧ Aside0 (kq ≤ k) ∧ Aside0 (Below w.heap.size w w'))
  case atStart => exact ⟨(a0), ((⟨#[]⟩ : ByteArray)), aq6, aq6, H', ⟨Nat.le_refl _⟩, ⟨aq1⟩⟩
  case round =>
   clear H'
   try clear c2
   try clear c2b0
   try clear p2
   obtain ⟨x0_1, x3_1, rfl, rfl, HA, HK1, HB⟩ := hrel
   cases gk with
   | zero => exact absurd HA.out (by simp [laws_markText.l0])
   | succ k1 =>
    have H := HA.out
    clear HA
    simp only [laws_markText.l0] at H
    by_cases c3 : x0_1 > 0
    ·rw [if_pos c3] at H
     have c3b0 := decide_eq_true c3
     clear c3
     obtain ⟨y101, hy_⟩ : ∃ y_ : List Int, y_ = (([(wrap64 (48 + (Int.tmod x0_1 10))) % 256] : List Int)) := ⟨_, rfl⟩
     replace H : (if (strOfNums y101).size + x3_1.size ≤ 9223372036854775807 then (laws_markText.l0 k1 (wrap64 (Int.tdiv x0_1 10)) ((strOfNums y101) ++ x3_1)) else (none)) = some r := aq3
     have Ny101 := am hy_
     clear hy_
     by_cases c4 : (strOfNums y101).size + x3_1.size ≤ 9223372036854775807
     ·rw [if_pos c4] at H
      have c4b0 := eq_true c4
      have c4b1 := decide_eq_true c4
      try have c4b2 : (9223372036854775807 < (strOfNums y101).size + x3_1.size) = False := eq_false (Nat.not_lt.2 c4)
      have H' := am H
      clear H
      go_wp2_with (first | ((with_reducible refine gate_dst (N := 12) rfl ?_); refine Kd.R_lit (Kd.int .u8) _ 5 ?hg (N := 12) ?hd (xs := ([(wrap64 (48 + (Int.tmod x0_1 10))) % 256] : List Int)) (inner := [.int .u8 ((wrap64 (48 + (Int.tmod x0_1 10))) % 256)]) (ok := fun _ => True) (okp := fun _ => True) ?hr ?hp (fun _ hk => hk) trivial (Below.refl _ _) (Nat.le_refl _) (by simp) ?_; (case hd => rfl); (case hg => rfl); (case hr => exact aq19); (case hp => exact (Reps.one (show Kd.M (Kd.int .u8) _ _ _ ((wrap64 (48 + (Int.tmod x0_1 10))) % 256) [.int .u8 ((wrap64 (48 + (Int.tmod x0_1 10))) % 256)] from rfl) (Reps.none _ _))); intro v102 w5 ho6 hb hg_ hnew_; clear hg_ hnew_; (first | rw [← Ny101.out] at ho6 | (simp only [Int.reduceToNat] at ho6; rw [← Ny101.out] at ho6)); have n0_ := am (Kd.R_lower ho6 (below_size aq1)); have n1_ := am (below_step aq1 hb); clear HB; have HO103 := n0_; have HB := n1_; clear n0_ n1_; clear hb ho6; (first | have hcv7 := own_string (P := Tryz.prog) Tryz.underlying60 Tryz.underlying5 Tryz.underlying9 (Kd.own_of_R HO103.out) | have hcv7 := (show ∀ {A : Option Addr} {n c : Nat} {xs : List Int} {ok : Nat → Prop} {W : World} {b : Nat}, Kd.V (Kd.int .u8) 5 W b ok (.slice A n c) xs → (convert 60 9 (.slice A n c)).run Tryz.prog W = .ok (.string (strOfNums xs)) W from fun h => by obtain ⟨rfl, _, hC⟩ := Kd.V_reads' h; exact Kd.C_string Tryz.underlying60 Tryz.underlying5 Tryz.underlying9 hC) HO103.out)))
      go_roundg k1
      case measure => have := HK1.out; omega
      case rel => exact ⟨(wrap64 (Int.tdiv x0_1 10)), ((strOfNums y101) ++ x3_1), aq6, aq6, H', ⟨aq65⟩, ⟨aq1⟩⟩
     ·rw [if_neg c4] at H
      exact absurd H (by simp)
    ·rw [if_neg c3] at H
     have c3b0 := decide_eq_false c3
     clear c3
     by_cases c8 : 1 + x3_1.size ≤ 9223372036854775807
     ·rw [if_pos c8] at H
      have c8b0 := eq_true c8
      have c8b1 := decide_eq_true c8
      try have c8b2 : (9223372036854775807 < 1 + x3_1.size) = False := eq_false (Nat.not_lt.2 c8)
      obtain rfl := Option.some.inj H
      go_wp2
      go_ret
      exact ⟨aq8, aq1⟩
     ·rw [if_neg c8] at H
      exact absurd H (by simp)
def laws_markStringS.l0 : Nat → List ByteArray → Int → Int → Option (Int × List ByteArray)
 | 0, _, _, _ => none
 | k + 1, x0, x1, x5 => if x5 < (x0.length : Int) then ((laws_markText.f k x1).bind fun t101 => (if 0 ≤ x5 then (laws_markStringS.l0 k (x0.set (x5 : Int).toNat t101) (wrap64 (x1 + 1)) (wrap64 (x5 + 1))) else (none))) else (some (x1, x0))
def laws_markStringS.f (k : Nat) (l0 : List ByteArray) (a1 : Int) : Option (Int × List ByteArray) := laws_markStringS.l0 k l0 a1 0
theorem laws_markStringS.mono_l : ∀ k, (∀ y0 y1 y2, LeO (laws_markStringS.l0 k y0 y1 y2) (laws_markStringS.l0 (k + 1) y0 y1 y2))
 | 0 => fun _ _ _ r h => by simp [laws_markStringS.l0] at h
 | k + 1 => by
  have ih0 := laws_markStringS.mono_l k
  ·intro y0 y1 y2
   unfold laws_markStringS.l0
   have im0 := @laws_markText.mono; exact mo
theorem laws_markStringS.mono : ∀ a0 a1 k, LeO (laws_markStringS.f k a0 a1) (laws_markStringS.f (k + 1) a0 a1) := by
 intro a0 a1 k
 have ih0 := laws_markStringS.mono_l k
 unfold laws_markStringS.f
 have im0 := @laws_markText.mono; exact mo
set_option maxHeartbeats 8000000 in
set_option maxRecDepth 100000 in
theorem laws_markStringS.calls (k : Nat) (P0_ : Nat → Prop) (u9000_ : Value) (l0 : List ByteArray) (a1 : Int) (r1 : Int) (r2 : List ByteArray) (w0 w : World) (hB : Below w0.heap.size w0 w) (ho0 : Kd.R Kd.string 9 w w0.heap.size P0_ u9000_ l0) (h : laws_markStringS.f k l0 a1 = some (r1, r2)) :
  Calls Tryz.prog 18 #[u9000_, .int .i64 a1] w fun e w' => e = .returned (.int .i64 r1) ∧ Kd.R Kd.string 9 w' w0.heap.size (fun k_ => (P0_ k_ ∨ w.heap.size ≤ k_)) u9000_ r2 ∧ Below w0.heap.size w0 w' ∧ Kept w w' (fun k_ => P0_ k_) := by
 have HO0 := am (show Kd.R Kd.string 9 w w0.heap.size (fun k_ => (P0_ k_ ∨ w.heap.size ≤ k_)) u9000_ l0 from Kd.R_mono ho0 (fun k_ hk => (.inl hk)))
 have HK := am (Kept.refl w (fun k_ => P0_ k_))
 have HW0 := am hB.size
 have HB := am hB
 clear hB
 have H : (laws_markStringS.l0 k l0 a1 0) = some (r1, r2) := h
 clear h
 have H' := am H
 clear H
 go_enter Tryz.func18, Tryz.ntmps18
 go_wp2
 go_loopg [1, 5] k (fun kq v1 v5 w' => ∃ (x0_1 : List ByteArray) (x1_1 : Int) (x5_1 : Int), v1 = .int .i64 x1_1 ∧ v5 = .int .i64 x5_1 ∧ Aside0 (laws_markStringS.l0 kq x0_1 x1_1 x5_1 = some (r1, r2)) ∧ Aside0 (kq ≤ k) ∧ Aside0 (Kd.R Kd.string 9 w' w0.heap.size (fun k_ => (P0_ k_ ∨ w.heap.size ≤ k_)) u9000_ x0_1) ∧ Aside0 (Kept w w' (fun k_ => P0_ k_)) ∧ Aside0 (Below w0.heap.size w0 w'))
 case atStart => exact ⟨(l0), (a1), (0), aq6, aq6, H', ⟨Nat.le_refl _⟩, ⟨by (with_reducible repeat (first | apply Kd.R_alloc | apply Kd.R_drewN | apply Kd.R_drew)); exact HO0.out⟩, ⟨aq39⟩, ⟨aq1⟩⟩
 case round =>
  clear H'
  try clear c1
  try clear p2
  obtain ⟨x0_1, x1_1, x5_1, rfl, rfl, HA, HK1, HO_0, HK, HB⟩ := hrel
  cases gk with
  | zero => exact absurd HA.out (by simp [laws_markStringS.l0])
  | succ k1 =>
   have H := HA.out
   clear HA
   simp only [laws_markStringS.l0] at H
   by_cases c3 : x5_1 < (x0_1.length : Int)
   ·rw [if_pos c3] at H
    have c3b0 := decide_eq_true c3
    clear c3
    obtain ⟨t101, A40, H⟩ := Option.bind_eq_some_iff.mp H
    have A4 := am A40
    clear A40
    by_cases c5 : 0 ≤ x5_1
    ·rw [if_pos c5] at H
     have c5b0 := decide_eq_true c5
     clear c5
     obtain ⟨y102, hy_⟩ : ∃ y_ : List ByteArray, y_ = (x0_1.set (x5_1 : Int).toNat t101) := ⟨_, rfl⟩
     replace H : (laws_markStringS.l0 k1 y102 (wrap64 (x1_1 + 1)) (wrap64 (x5_1 + 1))) = some (r1, r2) := aq3
     have Ny102 := am hy_
     clear hy_
     have H' := am H
     clear H
     obtain ⟨Ao7, co7, eo7⟩ := Kd.R_slice HO_0.out
     subst eo7
     go_wp2_with (first | ((with_reducible refine gate_callee (f := 61) rfl ?_); refine goesL_ (some 15) rfl rfl Tryz.func61 (by kernel_rfl) rfl #[.int .i64 x1_1] rfl aq4 ?_; (with_reducible refine (laws_markText.calls k1 x1_1 t101 _ A4.out).mono ?_); rintro e w8 ⟨rfl, hb⟩; refine ⟨_, rfl, ?_⟩; have n0_ := am (Kd.R_below aq55 hb); have n1_ := am (Kept.below (S := (fun k_ => P0_ k_)) aq39 hb); have n2_ := am (below_step aq1 hb); clear HO_0; clear HK; clear HB; have HO_0 := n0_; have HK := n1_; have HB := n2_; clear n0_ n1_ n2_; (try clear hb); (try clear hb2); (try clear hk); (try clear hi); have p6 : 0 ≤ (x5_1 : Int) := of_decide_eq_true aq5; have q6 : (x5_1 : Int) < ((x0_1.length : Int) : Int) := of_decide_eq_true aq5; obtain ⟨go6, co6, eo6, gb6, gl6, cl6, HG6⟩ := Kd.R_form HO_0.out (by omega); (first | cases eo6 | (injection eo6 with ea_ en_ ec_; (first | subst ea_ | (injection ea_ with ea_; subst ea_)); subst ec_; clear en_)); have GB6 := am gb6; have GG6 := am HG6; clear gb6 gl6 HG6; have HMgo6 := am (show (P0_ go6 ∨ w.heap.size ≤ go6) from (HO_0.out.1 _ rfl)); obtain ⟨hx6_0, hf6_0⟩ := Kd.R_celln (⟨#[]⟩ : ByteArray) HO_0.out (x5_1 : Int) p6 q6; replace p6 := eq_true p6; replace q6 := eq_true q6; obtain ⟨hy9_, hz9_⟩ := Kd.R_celln (⟨#[]⟩ : ByteArray) HO_0.out (x5_1 : Int) (of_decide_eq_true aq5) (of_decide_eq_true aq5); have HP9 := Kd.R_putg HO_0.out (x5_1 : Int) t101) | ((with_reducible refine gate_store (t := 9) (p := 16) rfl ?_); refine store_event (t := 9) (p := 16) (v := ?vo_w10) (w1 := (w8.setCell ⟨go6, (x5_1 : Int).toNat, none⟩ (.string t101))) ?hg ?ho ?hn ?hr ?_; (case ho => rfl); (case hg => rfl); (case hn => rfl); (case hr => exact aq19); intro w10 hw; have hg : w8.grownBy w10 (some go6) := (by rw [hw]; exact HP9.2); have hp_ : Kd.R Kd.string 9 w10 w0.heap.size (fun k_ => (P0_ k_ ∨ w.heap.size ≤ k_)) (.slice (some ⟨go6, 0, none⟩) x0_1.length co7) y102 := (by rw [hw, Ny102.out]; exact HP9.1); clear HP9; have n0_ := am (hp_); have n1_ := am ((by rw [hw]; exact below_set (HB.out) GB6.out : Below w0.heap.size w0 w10)); have n2_ := am (Kept.of_grown (S := (fun k_ => P0_ k_)) hg aq39 (fun k_ e_ => (HO_0.out.1 k_ e_))); clear HO_0; clear HB; clear HK; have HO_0 := n0_; have HB := n1_; have HK := n2_; clear n0_ n1_ n2_; clear hg hw hp_))
     go_roundg k1
     case measure => have := HK1.out; omega
     case rel => exact ⟨(y102), (wrap64 (x1_1 + 1)), (wrap64 (x5_1 + 1)), aq6, aq6, H', ⟨aq65⟩, ⟨aq55⟩, ⟨aq39⟩, ⟨aq1⟩⟩
    ·rw [if_neg c5] at H
     exact absurd H (by simp)
   ·rw [if_neg c3] at H
    have c3b0 := decide_eq_false c3
    clear c3
    simp only [Option.some.injEq, Prod.mk.injEq] at H
    obtain ⟨rfl, rfl⟩ := H
    obtain ⟨Ao11, co11, eo11⟩ := Kd.R_slice HO_0.out
    subst eo11
    go_wp2
    go_ret
    exact ⟨aq8, aq55, aq1, aq39⟩
def laws_heldStringS.l0 : Nat → List ByteArray → Int → Int → Option (Int)
 | 0, _, _, _ => none
 | k + 1, x0, x1, x5 => if x5 < (x0.length : Int) then (if 0 ≤ x5 then ((laws_markText.f k x1).bind fun t102 => (if (rdOf ByteArray.empty x0 x5).toList = t102.toList then (laws_heldStringS.l0 k x0 (wrap64 (x1 + 1)) (wrap64 (x5 + 1))) else (some (-1)))) else (none)) else (some x1)
def laws_heldStringS.f (k : Nat) (l0 : List ByteArray) (a1 : Int) : Option (Int) := laws_heldStringS.l0 k l0 a1 0
theorem laws_heldStringS.mono_l : ∀ k, (∀ y0 y1 y2, LeO (laws_heldStringS.l0 k y0 y1 y2) (laws_heldStringS.l0 (k + 1) y0 y1 y2))
 | 0 => fun _ _ _ r h => by simp [laws_heldStringS.l0] at h
 | k + 1 => by
  have ih0 := laws_heldStringS.mono_l k
  ·intro y0 y1 y2
   unfold laws_heldStringS.l0
   have im0 := @laws_markText.mono; exact mo
theorem laws_heldStringS.mono : ∀ a0 a1 k, LeO (laws_heldStringS.f k a0 a1) (laws_heldStringS.f (k + 1) a0 a1) := by
 intro a0 a1 k
 have ih0 := laws_heldStringS.mono_l k
 unfold laws_heldStringS.f
 have im0 := @laws_markText.mono; exact mo
set_option maxHeartbeats 8000000 in
set_option maxRecDepth 100000 in
theorem laws_heldStringS.calls (k : Nat) (A0 : Option Addr) (c0 : Nat) (l0 : List ByteArray) (a1 : Int) (r : Int) (w : World) (hr0 : Kd.C Kd.string w A0 l0.length l0) (hc0 : l0.length ≤ c0) (h : laws_heldStringS.f k l0 a1 = some r) :
  Calls Tryz.prog 19 #[.slice A0 l0.length c0, .int .i64 a1] w fun e w' => e = .returned (.int .i64 r) ∧ Below w.heap.size w w' := by
 have HR0 := am hr0
 have HC0 := am hc0
 clear hr0 hc0
 have HB := am (Below.refl w.heap.size w)
 have H : (laws_heldStringS.l0 k l0 a1 0) = some r := h
 clear h
 have H' := am H
 clear H
 go_enter Tryz.func19, Tryz.ntmps19
 go_wp2
 go_loopg [1, 5] k (fun kq v1 v5 w' => ∃ (x1_1 : Int) (x5_1 : Int), v1 = .int .i64 x1_1 ∧ v5 = .int .i64 x5_1 ∧ Aside0 (laws_heldStringS.l0 kq l0 x1_1 x5_1 = some r) ∧ Aside0 (kq ≤ k) ∧ Aside0 (Below w.heap.size w w'))
 case atStart => exact ⟨(a1), (0), aq6, aq6, H', ⟨Nat.le_refl _⟩, ⟨aq1⟩⟩
 case round =>
  clear H'
  try clear c1
  try clear p2
  obtain ⟨x1_1, x5_1, rfl, rfl, HA, HK1, HB⟩ := hrel
  cases gk with
  | zero => exact absurd HA.out (by simp [laws_heldStringS.l0])
  | succ k1 =>
   have H := HA.out
   clear HA
   simp only [laws_heldStringS.l0] at H
   by_cases c3 : x5_1 < (l0.length : Int)
   ·rw [if_pos c3] at H
    have c3b0 := decide_eq_true c3
    clear c3
    by_cases c4 : 0 ≤ x5_1
    ·rw [if_pos c4] at H
     have c4b0 := decide_eq_true c4
     clear c4
     obtain ⟨t102, A50, H⟩ := Option.bind_eq_some_iff.mp H
     have A5 := am A50
     clear A50
     by_cases c6 : (rdOf ByteArray.empty l0 x5_1).toList = t102.toList
     ·rw [if_pos c6] at H
      have c6b0 := beq_iff_eq.mpr c6
      have c6b1 := bne_eq_false_iff_eq.mpr c6
      clear c6
      have H' := am H
      clear H
      try go_wp2
      have n0_ := am (below_drew1 HB.out)
      clear HB
      have HB := n0_
      clear n0_
      have p101 : 0 ≤ (x5_1 : Int) := of_decide_eq_true aq5
      have q101 : x5_1 < (l0.length : Int) := of_decide_eq_true aq5
      obtain ⟨ad101, e101, hx101_0⟩ := Kd.at_string HR0.out x5_1 p101 q101
      have hw101_0 := hx101_0
      cases e101
      try replace hx101_0 := (HB.out.cell (World.block_lt_of_cell? w _ hx101_0)).trans hx101_0
      replace p101 := eq_true p101
      replace q101 := eq_true q101
      refine start_ (n := 7) (S := fun w' => w'.cell? (ad101.add (x5_1).toNat) = some (.string (rdOf ByteArray.empty l0 x5_1))) (ds := []) #[false, false, false, false, false, false, false] (by kernel_rfl) rfl rfl (((HB.out.cell (World.block_lt_of_cell? w _ hw101_0)).trans hw101_0)) (fun hHeld => ?_)
      generalize wr.drew = w7 at HB hx101_0 hHeld ⊢
      refine pure_ (i := 0) (N := some 12) (v := ?_) (a' := ?_) (bm 7 1) rfl rfl (by kernel_rfl) (fun _ _ _ h => h) (Or.inl ⟨by rfl, ?_⟩) ?_ ?_
      rotate_left
      ·intro w'
       go_simp
       with_reducible rfl
      rotate_left
      ·simp only [Act.put, ac_]
       rfl
      refine pure_ (i := 1) (N := some 13) (v := ?_) (a' := ?_) (bm 7 3) rfl rfl (by kernel_rfl) (fun _ _ _ h => h) (Or.inl ⟨by rfl, ?_⟩) ?_ ?_
      rotate_left
      ·intro w'
       go_simp
       with_reducible rfl
      rotate_left
      ·simp only [Act.put, ac_]
       rfl
      refine pure_ (i := 2) (N := some 14) (v := ?_) (a' := ?_) (bm 7 7) rfl rfl (by kernel_rfl) (fun _ _ _ h => h) (Or.inl ⟨by rfl, ?_⟩) ?_ ?_
      rotate_left
      ·intro w'
       go_simp
       with_reducible rfl
      rotate_left
      ·simp only [Act.put, ac_]
       rfl
      refine pure_ (i := 4) (N := some 16) (v := ?_) (a' := ?_) (bm 7 23) rfl rfl (by kernel_rfl) (fun _ _ _ h => h) (Or.inl ⟨by rfl, ?_⟩) ?_ ?_
      rotate_left
      ·intro w'
       go_simp
       with_reducible rfl
      rotate_left
      ·simp only [Act.put, ac_]
       rfl
      refine take_ (i := 3) (N := some 15) (v := ?_) (a' := ?_) (bm 7 31) rfl rfl (by kernel_rfl) (fun _ _ _ h => h) (Or.inl ⟨by rfl, ?_⟩) hHeld ?_ ?_
      rotate_left
      ·intro w' s0
       go_simp
       with_reducible rfl
      rotate_left
      ·simp only [Act.put, ac_]
       rfl
      refine one_ (i := 5) (N := some 17) (bm 7 63) rfl rfl (by kernel_rfl) (by decide) (fun K hK => ?_)
      refine goes_ Tryz.func61 (by kernel_rfl) rfl #[.int .i64 x1_1] (by rfl) rfl rfl aq4 ?_
      with_reducible refine (laws_markText.calls k1 x1_1 t102 _ A5.out).mono ?_
      rintro e w8 ⟨rfl, hb⟩
      refine ⟨_, rfl, ?_⟩
      have n0_ := am (below_step aq1 hb)
      clear HB
      have HB := n0_
      clear n0_
      (try clear hb)
      (try clear hb2)
      (try clear hk)
      (try clear hi)
      refine hK.out _ _ (((HB.out.cell (World.block_lt_of_cell? w _ hw101_0)).trans hw101_0)) (fun hHeld => ?_)
      clear hK K
      refine norm_ (a' := ?_) ?_ ?_
      rotate_left
      ·show Act.put _ (some 17) _ = _
       simp only [Act.put, ac_]
       rfl
      refine pure_ (i := 6) (N := some 18) (v := ?_) (a' := ?_) (bm 7 127) rfl rfl (by kernel_rfl) (fun _ _ _ h => h) (Or.inl ⟨by rfl, ?_⟩) ?_ ?_
      rotate_left
      ·intro w'
       go_simp
       with_reducible rfl
      rotate_left
      ·simp only [Act.put, ac_]
       rfl
      refine done_ (by kernel_rfl) ?_
      try go_wp2
      go_roundg k1
      case measure => have := HK1.out; omega
      case rel => exact ⟨(wrap64 (x1_1 + 1)), (wrap64 (x5_1 + 1)), aq6, aq6, H', ⟨aq65⟩, ⟨aq1⟩⟩
     ·rw [if_neg c6] at H
      have c6b0 := beq_eq_false_iff_ne.mpr c6
      have c6b1 := bne_iff_ne.mpr c6
      obtain rfl := Option.some.inj H
      try go_wp2
      have n0_ := am (below_drew1 HB.out)
      clear HB
      have HB := n0_
      clear n0_
      have p101 : 0 ≤ (x5_1 : Int) := of_decide_eq_true aq5
      have q101 : x5_1 < (l0.length : Int) := of_decide_eq_true aq5
      obtain ⟨ad101, e101, hx101_0⟩ := Kd.at_string HR0.out x5_1 p101 q101
      have hw101_0 := hx101_0
      cases e101
      try replace hx101_0 := (HB.out.cell (World.block_lt_of_cell? w _ hx101_0)).trans hx101_0
      replace p101 := eq_true p101
      replace q101 := eq_true q101
      refine start_ (n := 7) (S := fun w' => w'.cell? (ad101.add (x5_1).toNat) = some (.string (rdOf ByteArray.empty l0 x5_1))) (ds := []) #[false, false, false, false, false, false, false] (by kernel_rfl) rfl rfl (((HB.out.cell (World.block_lt_of_cell? w _ hw101_0)).trans hw101_0)) (fun hHeld => ?_)
      generalize wr.drew = w9 at HB hx101_0 hHeld ⊢
      refine pure_ (i := 0) (N := some 12) (v := ?_) (a' := ?_) (bm 7 1) rfl rfl (by kernel_rfl) (fun _ _ _ h => h) (Or.inl ⟨by rfl, ?_⟩) ?_ ?_
      rotate_left
      ·intro w'
       go_simp
       with_reducible rfl
      rotate_left
      ·simp only [Act.put, ac_]
       rfl
      refine pure_ (i := 1) (N := some 13) (v := ?_) (a' := ?_) (bm 7 3) rfl rfl (by kernel_rfl) (fun _ _ _ h => h) (Or.inl ⟨by rfl, ?_⟩) ?_ ?_
      rotate_left
      ·intro w'
       go_simp
       with_reducible rfl
      rotate_left
      ·simp only [Act.put, ac_]
       rfl
      refine pure_ (i := 2) (N := some 14) (v := ?_) (a' := ?_) (bm 7 7) rfl rfl (by kernel_rfl) (fun _ _ _ h => h) (Or.inl ⟨by rfl, ?_⟩) ?_ ?_
      rotate_left
      ·intro w'
       go_simp
       with_reducible rfl
      rotate_left
      ·simp only [Act.put, ac_]
       rfl
      refine pure_ (i := 4) (N := some 16) (v := ?_) (a' := ?_) (bm 7 23) rfl rfl (by kernel_rfl) (fun _ _ _ h => h) (Or.inl ⟨by rfl, ?_⟩) ?_ ?_
      rotate_left
      ·intro w'
       go_simp
       with_reducible rfl
      rotate_left
      ·simp only [Act.put, ac_]
       rfl
      refine take_ (i := 3) (N := some 15) (v := ?_) (a' := ?_) (bm 7 31) rfl rfl (by kernel_rfl) (fun _ _ _ h => h) (Or.inl ⟨by rfl, ?_⟩) hHeld ?_ ?_
      rotate_left
      ·intro w' s0
       go_simp
       with_reducible rfl
      rotate_left
      ·simp only [Act.put, ac_]
       rfl
      refine one_ (i := 5) (N := some 17) (bm 7 63) rfl rfl (by kernel_rfl) (by decide) (fun K hK => ?_)
      refine goes_ Tryz.func61 (by kernel_rfl) rfl #[.int .i64 x1_1] (by rfl) rfl rfl aq4 ?_
      with_reducible refine (laws_markText.calls k1 x1_1 t102 _ A5.out).mono ?_
      rintro e w10 ⟨rfl, hb⟩
      refine ⟨_, rfl, ?_⟩
      have n0_ := am (below_step aq1 hb)
      clear HB
      have HB := n0_
      clear n0_
      (try clear hb)
      (try clear hb2)
      (try clear hk)
      (try clear hi)
      refine hK.out _ _ (((HB.out.cell (World.block_lt_of_cell? w _ hw101_0)).trans hw101_0)) (fun hHeld => ?_)
      clear hK K
      refine norm_ (a' := ?_) ?_ ?_
      rotate_left
      ·show Act.put _ (some 17) _ = _
       simp only [Act.put, ac_]
       rfl
      refine pure_ (i := 6) (N := some 18) (v := ?_) (a' := ?_) (bm 7 127) rfl rfl (by kernel_rfl) (fun _ _ _ h => h) (Or.inl ⟨by rfl, ?_⟩) ?_ ?_
      rotate_left
      ·intro w'
       go_simp
       with_reducible rfl
      rotate_left
      ·simp only [Act.put, ac_]
       rfl
      refine done_ (by kernel_rfl) ?_
      try go_wp2
      go_ret
      exact ⟨aq8, aq1⟩
    ·rw [if_neg c4] at H
     exact absurd H (by simp)
   ·rw [if_neg c3] at H
    have c3b0 := decide_eq_false c3
    clear c3
    obtain rfl := Option.some.inj H
    go_wp2
    go_ret
    exact ⟨aq8, aq1⟩
end Go.Proofs.YtdffgeoegdkiaaaGreatDoor.F

namespace Go.Proofs.YtdffgeoegdkiaaaGreatDoor.F
open Go.RowKit Go.Proofs.YtdffgeoegdkiaaaGreatDoor Go.Proofs.YtdffgeoegdkiaaaGreatDoorW.PrintWords Go.Proofs.YtdffgeoegdkiaaaGreatDoorW.PrintMore
theorem eqS_l0 (l : List ByteArray) (hl : l.length ≤ 1000) : ∀ (n i : Nat), i + n = l.length → Ev (fun k => laws_eqStringS.l0 k l l (i : Int)) true
  | 0, i, hi => Ev.step (fun k => by rw [laws_eqStringS.l0, if_neg (by omega)]) (Ev.now _)
  | n + 1, i, hi => by
    have HW : Aside0 (wrap64 ((i : Int) + 1) = ((i + 1 : Nat) : Int)) := ⟨by rw [w64 (by omega) (by omega)]; rfl⟩
    refine Ev.step (fun k => ?_) (eqS_l0 l hl n (i + 1) (by omega))
    rw [laws_eqStringS.l0, if_pos (by omega), if_pos (by omega), if_pos (by omega), if_pos rfl, HW.out]
theorem eqS_ev (l : List ByteArray) (hl : l.length ≤ 1000) : Ev (fun k => laws_eqStringS.f k l l) true :=
  Ev.congr (fun k => by rw [laws_eqStringS.f, if_pos rfl]; rfl) (eqS_l0 l hl l.length 0 (by omega))
theorem markText_l0 : ∀ (d n : Nat) (acc : ByteArray), n < d → d < 100000 → acc.size + d < 1000000 → ∃ t, Ev (fun k => laws_markText.l0 k (n : Int) acc) t
  | 0, n, acc, h, _, _ => absurd h (Nat.not_lt_zero _)
  | d + 1, n, acc, h, hd, ha => by
    by_cases h0 : n = 0
    · subst h0
      exact ⟨_, Ev.step (fun k => by rw [laws_markText.l0, if_neg (by decide), if_pos (by omega)]) (Ev.now _)⟩
    · have e1 : Int.tdiv (n : Int) 10 = ((n / 10 : Nat) : Int) := rfl
      have hlt : n / 10 < d := by omega
      have hsz : (strOfNums [(wrap64 (48 + (Int.tmod (n : Int) 10))) % 256]).size = 1 := rfl
      obtain ⟨t, ht⟩ := markText_l0 d (n / 10) (strOfNums [(wrap64 (48 + (Int.tmod (n : Int) 10))) % 256] ++ acc) hlt (by omega) (by rw [ByteArray.size_append, hsz]; omega)
      have HW : Aside0 (wrap64 ((n / 10 : Nat) : Int) = ((n / 10 : Nat) : Int)) := ⟨w64 (by omega) (by omega)⟩
      refine ⟨t, Ev.step (fun k => ?_) ht⟩
      rw [laws_markText.l0, if_pos (by omega), Option.bind_some, if_pos (by rw [hsz]; omega), e1, HW.out]
theorem markText_ex (n : Nat) (hn : n < 5000) : ∃ t, Ev (fun k => laws_markText.f k (n : Int)) t := by
  by_cases h0 : n = 0
  · subst h0; exact ⟨_, Ev.congr (fun k => by rw [laws_markText.f, if_pos (by decide)]) (Ev.now _)⟩
  · obtain ⟨t, ht⟩ := markText_l0 (n + 1) n (⟨#[]⟩ : ByteArray) (by omega) (by omega) (by show 0 + (n + 1) < _; omega)
    exact ⟨t, Ev.congr (fun k => by rw [laws_markText.f, if_neg (by omega)]) ht⟩
noncomputable def mkT (n : Nat) : ByteArray := if h : n < 5000 then Classical.choose (markText_ex n h) else ByteArray.empty
theorem mkT_ev {n : Nat} (hn : n < 5000) : Ev (fun k => laws_markText.f k (n : Int)) (mkT n) := by
  unfold mkT; rw [dif_pos hn]; exact Classical.choose_spec (markText_ex n hn)
noncomputable def marksT (m n : Nat) : List ByteArray := (List.range n).map fun j => mkT (m + j)
theorem marksT_length (m n : Nat) : (marksT m n).length = n := by simp [marksT]
theorem markS_l0 (l : List ByteArray) (m : Nat) (hl : l.length ≤ 1000) (hm : m ≤ 1000) : ∀ (n i : Nat), i + n = l.length →
    Ev (fun k => laws_markStringS.l0 k (marksT m i ++ l.drop i) ((m + i : Nat) : Int) (i : Int)) (((m + l.length : Nat) : Int), marksT m l.length)
  | 0, i, hi => by
    obtain rfl : i = l.length := by omega
    rw [List.drop_eq_nil_of_le (Nat.le_refl _), List.append_nil]
    exact Ev.step (fun k => by rw [laws_markStringS.l0, if_neg (by rw [marksT_length]; omega)]) (Ev.now _)
  | n + 1, i, hi => by
    have hil : i < l.length := by omega
    have HW : Aside0 (wrap64 ((i : Int) + 1) = ((i + 1 : Nat) : Int)) := ⟨by rw [w64 (by omega) (by omega)]; rfl⟩
    have HM : Aside0 (wrap64 (((m + i : Nat) : Int) + 1) = ((m + (i + 1) : Nat) : Int)) := ⟨by rw [w64 (by omega) (by omega)]; omega⟩
    have hset : (marksT m i ++ l.drop i).set i (mkT (m + i)) = marksT m (i + 1) ++ l.drop (i + 1) := by
      rw [List.set_append_right _ _ (by rw [marksT_length]; exact Nat.le_refl _), marksT_length, Nat.sub_self, List.drop_eq_getElem_cons hil, List.set_cons_zero]
      unfold marksT
      rw [List.range_succ, List.map_append, List.append_assoc]; rfl
    have ih := markS_l0 l m hl hm n (i + 1) (by omega)
    refine Ev.step (f := fun k => (laws_markText.f k ((m + i : Nat) : Int)).bind fun t => laws_markStringS.l0 k ((marksT m i ++ l.drop i).set i t) ((m + (i + 1) : Nat) : Int) ((i + 1 : Nat) : Int)) (fun k => ?_) (Ev.bind (mkT_ev (by omega)) (by rw [hset]; exact ih))
    rw [laws_markStringS.l0, if_pos (by rw [List.length_append, marksT_length, List.length_drop]; omega), HW.out, HM.out]
    congr 1
theorem markS_ev (l : List ByteArray) (hl : l.length ≤ 1000) : Ev (fun k => laws_markStringS.f k l 1) (((1 + l.length : Nat) : Int), marksT 1 l.length) := by
  have h0 := markS_l0 l 1 hl (by omega) l.length 0 (by omega)
  exact h0
theorem heldS_l0 (m n : Nat) (hn : n ≤ 1000) (hm : m ≤ 1000) : ∀ (d i : Nat), i + d = n → Ev (fun k => laws_heldStringS.l0 k (marksT m n) ((m + i : Nat) : Int) (i : Int)) ((m + n : Nat) : Int)
  | 0, i, hi => by
    obtain rfl : i = n := by omega
    exact Ev.step (fun k => by rw [laws_heldStringS.l0, if_neg (by rw [marksT_length]; omega)]) (Ev.now _)
  | d + 1, i, hi => by
    have HW : Aside0 (wrap64 ((i : Int) + 1) = ((i + 1 : Nat) : Int)) := ⟨by rw [w64 (by omega) (by omega)]; rfl⟩
    have HM : Aside0 (wrap64 (((m + i : Nat) : Int) + 1) = ((m + (i + 1) : Nat) : Int)) := ⟨by rw [w64 (by omega) (by omega)]; omega⟩
    have hget : rdOf ByteArray.empty (marksT m n) (i : Int) = mkT (m + i) := by
      unfold rdOf marksT
      rw [Int.toNat_natCast, List.getD_eq_getElem?_getD, List.getElem?_map, List.getElem?_range (by omega)]; rfl
    refine Ev.step (f := fun k => (laws_markText.f k ((m + i : Nat) : Int)).bind fun t => if (mkT (m + i)).toList = t.toList then laws_heldStringS.l0 k (marksT m n) ((m + (i + 1) : Nat) : Int) ((i + 1 : Nat) : Int) else some (-1)) (fun k => ?_) (Ev.bind (mkT_ev (by omega)) (Ev.congr (fun k => if_pos rfl) (heldS_l0 m n hn hm d (i + 1) (by omega))))
    rw [laws_heldStringS.l0, if_pos (by rw [marksT_length]; omega), if_pos (by omega), HW.out, HM.out, hget]
theorem heldS_ev (n : Nat) (hn : n ≤ 1000) : Ev (fun k => laws_heldStringS.f k (marksT 1 n) 1) ((1 + n : Nat) : Int) := by
  have h0 := heldS_l0 1 n hn (by omega) n 0 (by omega)
  exact h0
end Go.Proofs.YtdffgeoegdkiaaaGreatDoor.F
