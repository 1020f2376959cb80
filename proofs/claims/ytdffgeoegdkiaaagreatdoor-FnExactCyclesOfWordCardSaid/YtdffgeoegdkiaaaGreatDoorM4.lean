/- The proof that the law's row holds, part 4: the kit's words, the printed walks and the plain law. No conditions beyond the card's own. -/
import Derived.Maps.OwnOps
import Derived.Test.YtdffgeoegdkiaaaGreatDoorM0
import Derived.Test.YtdffgeoegdkiaaaGreatDoorM1
import Derived.Test.YtdffgeoegdkiaaaGreatDoorM2
import Derived.Test.YtdffgeoegdkiaaaGreatDoorM3
set_option linter.unusedVariables false
set_option linter.unusedSimpArgs false
namespace Go.Proofs.YtdffgeoegdkiaaaGreatDoor.F
open Go.Proofs.YtdffgeoegdkiaaaGreatDoor
open Go.RowKit Go.Proofs.YtdffgeoegdkiaaaGreatDoorW.PrintWords Go.Proofs.YtdffgeoegdkiaaaGreatDoorW.PrintLast Go.Proofs.YtdffgeoegdkiaaaGreatDoorW.PrintMore
attribute [local go_sem] max2_int min2_int max_two min_two max_three min_three max_four min_four
def spec_mcRead.f (k : Nat) (a0 : ByteArray) (a1 : ByteArray) : Option (Int × Int × List Int × Bool) := (spec_tyRead.f k a0).bind fun bt102 => (if bt102.2.2.2 = true then ((spec_tiWord.f k a1).bind fun t109 => (some (bt102.1, bt102.2.1, bt102.2.2.1, t109))) else (some (bt102.1, bt102.2.1, bt102.2.2.1, false)))
theorem spec_mcRead.mono : ∀ a0 a1 k, LeO (spec_mcRead.f k a0 a1) (spec_mcRead.f (k + 1) a0 a1) := by
 intro a0 a1 k
 unfold spec_mcRead.f
 have im0 := @spec_tiWord.mono; have im1 := @spec_tyRead.mono; exact mo
def spec_mcRead.T2 : Bool × List (List Nat × List Nat) := (true, [([], []), ([], []), ([1], [1]), ([2], [2]), ([3, 2, 2], [2, 3]), ([2, 4], [2, 4]), ([0, 4, 0], [0]), ([5, 6, 0, 1, 2, 3, 4, 5, 6], [5])])
def spec_mcRead.B2 : List Nat := [0, 0, 2, 6, 14, 30, 31, 127]
theorem spec_mcRead.tab2 : rtab .any (opsOf Tryz.f112 2) = spec_mcRead.T2 := by kernel_rfl
theorem spec_mcRead.bits2 : waitsOk spec_mcRead.T2.2 spec_mcRead.B2 = true := by kernel_rfl
set_option maxHeartbeats 8000000 in
set_option maxRecDepth 100000 in
theorem spec_mcRead.calls (k : Nat) (a0 : ByteArray) (a1 : ByteArray) (r1 : Int) (r2 : Int) (r3 : List Int) (r4 : Bool) (w : World) (h : spec_mcRead.f k a0 a1 = some (r1, r2, r3, r4)) :
  Calls Tryz.prog 112 #[.string a0, .string a1] w fun e w' => ∃ v2_ : Value, e = .returned (.tuple #[.agg #[.int .i64 r1, .int .i64 r2, v2_], .bool r4]) ∧ Kd.R (Kd.int .u8) 5 w' w.heap.size (fun _ => True) v2_ r3 ∧ Below w.heap.size w w' := by
 have hu62 := Tryz.underlying62
 have HB := am (Below.refl w.heap.size w)
 have H : ((spec_tyRead.f k a0).bind fun bt102 => (if bt102.2.2.2 = true then ((spec_tiWord.f k a1).bind fun t109 => (some (bt102.1, bt102.2.1, bt102.2.2.1, t109))) else (some (bt102.1, bt102.2.1, bt102.2.2.1, false)))) = some (r1, r2, r3, r4) := h
 clear h
 replace H := Option.bind_eq_some_iff.mp H
 obtain ⟨⟨t102, t103, t104, t107⟩, A30, H⟩ := H
 replace H : (if t107 = true then ((spec_tiWord.f k a1).bind fun t109 => (some (t102, t103, t104, t109))) else (some (t102, t103, t104, false))) = some (r1, r2, r3, r4) := H
 have A3 := am A30
 clear A30
 by_cases c4 : t107 = true
 ·subst c4
  have H1 : ((spec_tiWord.f k a1).bind fun t109 => (some (t102, t103, t104, t109))) = some (r1, r2, r3, r4) := by rw [if_pos rfl] at H; exact H
  clear H
  have H := H1
  clear H1
  replace H := Option.bind_eq_some_iff.mp H
  obtain ⟨t109, A50, H⟩ := H
  replace H : (some (t102, t103, t104, t109)) = some (r1, r2, r3, r4) := H
  have A5 := am A50
  clear A50
  simp only [Option.some.injEq, Prod.mk.injEq] at H
  obtain ⟨rfl, rfl, rfl, rfl⟩ := H
  go_enter Tryz.func112, Tryz.ntmps112
  try go_wp2_with (first | ((with_reducible refine gate_dst (N := 4) rfl ?_); refine box_event ?hg (N := 4) ?hd (cs := #[.int .i64 0, .int .i64 0, .slice none 0 0]) (t := 62) ?hr ?_; (case hd => rfl); (case hg => rfl); (case hr => exact aq15); intro gb101 hg w6 hbox hb; have n0_ := am (below_step aq1 hb); have n1_ := am (hbox); have n2_ := am ((by rw [hg]; exact (below_size aq1) : w.heap.size ≤ gb101)); have n3_ := am ((by rw [hg]; exact (below_size aq1) : w.heap.size ≤ gb101)); clear HB; have HB := n0_; have BK101 := n1_; have GW101 := n2_; have GE101 := n3_; clear n0_ n1_ n2_ n3_; clear hb hbox hg) | ((with_reducible refine gate_callee (f := 51) rfl ?_); refine goesL_ (some 10) rfl rfl Tryz.func51 (by kernel_rfl) rfl #[.string a0] rfl aq4 ?_; (with_reducible refine (spec_tyRead.calls k a0 t102 t103 t104 true _ A3.out).mono ?_); rintro e w7 ⟨v105, rfl, ho0, hb⟩; refine ⟨_, rfl, ?_⟩; have n0_ := am (Kd.R_lower ho0 (below_size aq0)); have n1_ := am (blk_below (g := gb101) (o := .cells #[.int .i64 0, .int .i64 0, .slice none 0 0] 62 (0, 0)) aq2 hb); have n2_ := am (below_step aq0 hb); clear BK101; clear HB; have HO106 := n0_; have BK101 := n1_; have HB := n2_; clear n0_ n1_ n2_; (try clear hb); (try clear hb2); (try clear hk); (try clear hi); (try clear ho0)) | ((with_reducible refine gate_dst (N := 6) rfl ?_); refine box_event ?hg (N := 6) ?hd (cs := #[.int .i64 0, .int .i64 0, .slice none 0 0]) (t := 62) ?hr ?_; (case hd => rfl); (case hg => rfl); (case hr => exact aq15); intro gb108 hg w8 hbox hb; have n0_ := am (Kd.R_below aq73 hb); have n1_ := am (blk_below (g := gb101) (o := .cells #[.int .i64 0, .int .i64 0, .slice none 0 0] 62 (0, 0)) aq2 hb); have n2_ := am (below_step aq0 hb); have n3_ := am (hbox); have n4_ := am ((by rw [hg]; exact (below_size aq0) : w.heap.size ≤ gb108)); have n5_ := am ((by rw [hg]; exact (below_size aq0) : w.heap.size ≤ gb108)); have n6_ := am ((by rw [hg]; exact Nat.ne_of_lt (blk_lt (g := gb101) (o := .cells #[.int .i64 0, .int .i64 0, .slice none 0 0] 62 (0, 0)) aq2) : gb101 ≠ gb108)); have n7_ := am ((by rw [hg]; exact Nat.ne_of_gt (blk_lt (g := gb101) (o := .cells #[.int .i64 0, .int .i64 0, .slice none 0 0] 62 (0, 0)) aq2) : gb108 ≠ gb101)); clear HO106; clear BK101; clear HB; have HO106 := n0_; have BK101 := n1_; have HB := n2_; have BK108 := n3_; have GW108 := n4_; have GE108 := n5_; have NB101_108 := n6_; have NB108_101 := n7_; clear n0_ n1_ n2_ n3_ n4_ n5_ n6_ n7_; clear hb hbox hg; have hnb9 := NB108_101.out; have hnc9 := NB101_108.out; have hcz10_0 : w8.cell? ⟨gb108, 0, none⟩ = some (.int .i64 0) := (blk_cell BK108.out 0).trans rfl; have hcz10_1 : w8.cell? ⟨gb108, 1, none⟩ = some (.int .i64 0) := (blk_cell BK108.out 1).trans rfl; have hcz10_2 : w8.cell? ⟨gb108, 2, none⟩ = some (.slice none 0 0) := (blk_cell BK108.out 2).trans rfl; have hfz10_0 := blk_frozen BK108.out 0; have hfz10_1 := blk_frozen BK108.out 1; have hfz10_2 := blk_frozen BK108.out 2; obtain ⟨Ao11, co11, eo11⟩ := Kd.R_slice HO106.out; subst eo11))
  have n0_ : Aside0 (Kd.R (Kd.int .u8) 5 (((w8.setCell ⟨gb108, 0, none⟩ (.int .i64 t102)).setCell ⟨gb108, 1, none⟩ (.int .i64 t103)).setCell ⟨gb108, 2, none⟩ (.slice Ao11 t104.length co11)) w.heap.size (fun _ => True) (.slice Ao11 t104.length co11) t104) := ⟨by (with_reducible repeat (first | apply Kd.R_alloc | apply Kd.R_drewN | apply Kd.R_drew)); exact Kd.R_mono (Kd.R_far (p := ⟨gb108, 2, none⟩) (Kd.R_far (p := ⟨gb108, 1, none⟩) (Kd.R_far (p := ⟨gb108, 0, none⟩) (Kd.R_types HO106.out BK108.out (by decide)) (fun _ hk => hk.2) (.int .i64 t102)) (fun _ hk => hk.2) (.int .i64 t103)) (fun _ hk => hk.2) (.slice Ao11 t104.length co11)) (fun _ hk => trivial)⟩
  have n1_ : Aside0 ((((w8.setCell ⟨gb108, 0, none⟩ (.int .i64 t102)).setCell ⟨gb108, 1, none⟩ (.int .i64 t103)).setCell ⟨gb108, 2, none⟩ (.slice Ao11 t104.length co11)).heap[gb101]? = some (.cells #[.int .i64 0, .int .i64 0, .slice none 0 0] 62 (0, 0))) := ⟨aq34⟩
  have n2_ : Aside0 ((((w8.setCell ⟨gb108, 0, none⟩ (.int .i64 t102)).setCell ⟨gb108, 1, none⟩ (.int .i64 t103)).setCell ⟨gb108, 2, none⟩ (.slice Ao11 t104.length co11)).heap[gb108]? = some (.cells #[.int .i64 t102, .int .i64 t103, .slice Ao11 t104.length co11] 62 (0, 0))) := ⟨aq35⟩
  have n3_ : Aside0 (Below w.heap.size w (((w8.setCell ⟨gb108, 0, none⟩ (.int .i64 t102)).setCell ⟨gb108, 1, none⟩ (.int .i64 t103)).setCell ⟨gb108, 2, none⟩ (.slice Ao11 t104.length co11))) := ⟨aq10⟩
  (try clear HO106)
  (try clear BK101)
  (try clear BK108)
  (try clear HB)
  generalize (((w8.setCell ⟨gb108, 0, none⟩ (.int .i64 t102)).setCell ⟨gb108, 1, none⟩ (.int .i64 t103)).setCell ⟨gb108, 2, none⟩ (.slice Ao11 t104.length co11)) = w12 at n0_ n1_ n2_ n3_ ⊢
  have HO106 := n0_
  have BK101 := n1_
  have BK108 := n2_
  have HB := n3_
  clear n0_ n1_ n2_ n3_
  have n0_ := am (Kd.R_drew HO106.out)
  have n1_ := am (blk_drew BK101.out)
  have n2_ := am (blk_drew BK108.out)
  have n3_ := am (below_drew1 HB.out)
  clear HO106
  clear BK101
  clear BK108
  clear HB
  have HO106 := n0_
  have BK101 := n1_
  have BK108 := n2_
  have HB := n3_
  clear n0_ n1_ n2_ n3_
  refine start_ (n := 8) (S := fun w' => w'.cell? ⟨gb108, 0, none⟩ = some (.int .i64 t102) ∧ w'.cell? ⟨gb108, 1, none⟩ = some (.int .i64 t103) ∧ w'.cell? ⟨gb108, 2, none⟩ = some (.slice Ao11 t104.length co11)) (ds := []) #[false, false, false, false, false, false, false, false] (by kernel_rfl) rfl rfl ⟨(blk_cell BK108.out 0).trans rfl, (blk_cell BK108.out 1).trans rfl, (blk_cell BK108.out 2).trans rfl⟩ (fun hHeld => ?_); refine with_tabW spec_mcRead.tab2 spec_mcRead.bits2 (fun HT_ HW_ => ?_)
  generalize w12.drew = w13 at HO106 BK101 BK108 HB hHeld ⊢
  refine pure_ (i := 1) (N := some 14) (v := ?_) (a' := ?_) (bm 8 2) rfl rfl (any_of HT_.out (by kernel_rfl)) (fun _ _ _ h => h) (Or.inl ⟨by rfl, ?_⟩) ?_ ?_
  rotate_left
  ·intro w'
   go_simp
   with_reducible rfl
  rotate_left
  ·simp only [Act.put, ac_]
   rfl
  refine pure_ (i := 2) (N := some 15) (v := ?_) (a' := ?_) (bm 8 6) rfl rfl (any_of HT_.out (by kernel_rfl)) (fun _ _ _ h => h) (Or.inl ⟨by rfl, ?_⟩) ?_ ?_
  rotate_left
  ·intro w'
   go_simp
   with_reducible rfl
  rotate_left
  ·simp only [Act.put, ac_]
   rfl
  refine pure_ (i := 3) (N := some 16) (v := ?_) (a' := ?_) (bm 8 14) rfl rfl (any_of HT_.out (by kernel_rfl)) (fun _ _ _ h => h) (Or.inl ⟨by rfl, ?_⟩) ?_ ?_
  rotate_left
  ·intro w'
   go_simp
   with_reducible rfl
  rotate_left
  ·simp only [Act.put, ac_]
   rfl
  refine take_ (i := 0) (N := some 13) (v := ?_) (a' := ?_) (bm 8 15) rfl rfl (take_ofW HT_.out HW_.out (by kernel_rfl)) (fun _ _ _ h => h) (Or.inl ⟨by rfl, ?_⟩) hHeld ?_ ?_
  rotate_left
  ·rintro w' ⟨s0, s1, s2⟩
   go_simp
   with_reducible rfl
  rotate_left
  ·simp only [Act.put, ac_]
   rfl
  refine one_ (i := 4) (N := some 17) (bm 8 31) rfl rfl (one_of HT_.out (by kernel_rfl)) (by decide) (fun K hK => ?_)
  refine goes_ Tryz.func84 (by kernel_rfl) rfl #[.string a1] (by rfl) rfl rfl aq4 ?_
  with_reducible refine (spec_tiWord.calls k a1 t109 _ A5.out).mono ?_
  rintro e w' ⟨rfl, ⟨nd, rfl⟩⟩
  refine ⟨_, rfl, ?_⟩
  refine hK.out _ _ ⟨(blk_cell BK108.out 0).trans rfl, (blk_cell BK108.out 1).trans rfl, (blk_cell BK108.out 2).trans rfl⟩ (fun hHeld => ?_)
  clear hK K
  refine norm_ (a' := ?_) ?_ ?_
  rotate_left
  ·show Act.put _ (some 17) _ = _
   simp only [Act.put, ac_]
   rfl
  refine pure_ (i := 5) (N := some 18) (v := ?_) (a' := ?_) (bm 8 63) rfl rfl (any_of HT_.out (by kernel_rfl)) (fun _ _ _ h => h) (Or.inl ⟨by rfl, ?_⟩) ?_ ?_
  rotate_left
  ·intro w'
   go_simp
   with_reducible rfl
  rotate_left
  ·simp only [Act.put, ac_]
   rfl
  refine one_ (i := 6) (N := none) (bm 8 127) rfl rfl (one_of HT_.out (by kernel_rfl)) (by decide) (fun K hK => ?_)
  have hs14 : w13.cell? ⟨gb101, 0, none⟩ = some (.int .i64 0) := (blk_cell BK101.out 0).trans rfl
  have hfs14 := blk_frozen BK101.out 0
  have hns14_1 := NB108_101.out
  have hms14_1 := NB101_108.out
  have hs15 : w13.cell? ⟨gb101, 1, none⟩ = some (.int .i64 0) := (blk_cell BK101.out 1).trans rfl
  have hfs15 := blk_frozen BK101.out 1
  have hns15_1 := NB108_101.out
  have hms15_1 := NB101_108.out
  have hs16 : w13.cell? ⟨gb101, 2, none⟩ = some (.slice none 0 0) := (blk_cell BK101.out 2).trans rfl
  have hfs16 := blk_frozen BK101.out 2
  have hns16_1 := NB108_101.out
  have hms16_1 := NB101_108.out
  refine skip_ (w1 := ?_) (by rfl) rfl ?_ ?_
  rotate_left
  ·go_simp
   rfl
  refine hK.out _ _ ⟨((cell_far (p := ⟨gb101, _, none⟩) NB108_101.out _).trans (((cell_far (p := ⟨gb101, _, none⟩) NB108_101.out _).trans (((cell_far (p := ⟨gb101, _, none⟩) NB108_101.out _).trans (hHeld.1)))))), ((cell_far (p := ⟨gb101, _, none⟩) NB108_101.out _).trans (((cell_far (p := ⟨gb101, _, none⟩) NB108_101.out _).trans (((cell_far (p := ⟨gb101, _, none⟩) NB108_101.out _).trans (hHeld.2.1)))))), ((cell_far (p := ⟨gb101, _, none⟩) NB108_101.out _).trans (((cell_far (p := ⟨gb101, _, none⟩) NB108_101.out _).trans (((cell_far (p := ⟨gb101, _, none⟩) NB108_101.out _).trans (hHeld.2.2))))))⟩ (fun hHeld => ?_)
  clear hK K
  refine pure_ (i := 7) (N := some 5) (v := ?_) (a' := ?_) (bm 8 255) rfl rfl (any_of HT_.out (by kernel_rfl)) (fun _ _ _ h => h) (Or.inl ⟨by rfl, ?_⟩) ?_ ?_
  rotate_left
  ·intro w'
   go_simp
   with_reducible rfl
  rotate_left
  ·simp only [Act.put, ac_]
   rfl
  refine done_ (done_of HT_.out (by kernel_rfl)) ?_
  try go_wp2
  refine bodyPost_ret (results_ct rfl _ _ gb101 62 #[.int .i64 t102, .int .i64 t103, .slice Ao11 t104.length co11] (0, 0) _ rfl aq38 Tryz.underlying62 rfl (by kernel_rfl)) rfl ?_
  exact ⟨_, aq7, by (with_reducible repeat (first | apply Kd.R_alloc | apply Kd.R_drewN | apply Kd.R_drew)); exact Kd.R_mono (Kd.R_far (p := ⟨gb101, 2, none⟩) (Kd.R_far (p := ⟨gb101, 1, none⟩) (Kd.R_far (p := ⟨gb101, 0, none⟩) (Kd.R_types HO106.out BK101.out (by decide)) (fun _ hk => hk.2) (.int .i64 t102)) (fun _ hk => hk.2) (.int .i64 t103)) (fun _ hk => hk.2) (.slice Ao11 t104.length co11)) (fun _ hk => trivial), aq10⟩
 ·replace c4 := Bool.eq_false_iff.mpr c4
  subst c4
  have H1 : (some (t102, t103, t104, false)) = some (r1, r2, r3, r4) := by rw [if_neg (show ¬ (false = true) by decide)] at H; exact H
  clear H
  have H := H1
  clear H1
  simp only [Option.some.injEq, Prod.mk.injEq] at H
  obtain ⟨rfl, rfl, rfl, rfl⟩ := H
  go_enter Tryz.func112, Tryz.ntmps112
  try go_wp2_with (first | ((with_reducible refine gate_dst (N := 4) rfl ?_); refine box_event ?hg (N := 4) ?hd (cs := #[.int .i64 0, .int .i64 0, .slice none 0 0]) (t := 62) ?hr ?_; (case hd => rfl); (case hg => rfl); (case hr => exact aq15); intro gb101 hg w17 hbox hb; have n0_ := am (below_step aq1 hb); have n1_ := am (hbox); have n2_ := am ((by rw [hg]; exact (below_size aq1) : w.heap.size ≤ gb101)); have n3_ := am ((by rw [hg]; exact (below_size aq1) : w.heap.size ≤ gb101)); clear HB; have HB := n0_; have BK101 := n1_; have GW101 := n2_; have GE101 := n3_; clear n0_ n1_ n2_ n3_; clear hb hbox hg) | ((with_reducible refine gate_callee (f := 51) rfl ?_); refine goesL_ (some 10) rfl rfl Tryz.func51 (by kernel_rfl) rfl #[.string a0] rfl aq4 ?_; (with_reducible refine (spec_tyRead.calls k a0 t102 t103 t104 false _ A3.out).mono ?_); rintro e w18 ⟨v105, rfl, ho0, hb⟩; refine ⟨_, rfl, ?_⟩; have n0_ := am (Kd.R_lower ho0 (below_size aq0)); have n1_ := am (blk_below (g := gb101) (o := .cells #[.int .i64 0, .int .i64 0, .slice none 0 0] 62 (0, 0)) aq2 hb); have n2_ := am (below_step aq0 hb); clear BK101; clear HB; have HO106 := n0_; have BK101 := n1_; have HB := n2_; clear n0_ n1_ n2_; (try clear hb); (try clear hb2); (try clear hk); (try clear hi); (try clear ho0)) | ((with_reducible refine gate_dst (N := 6) rfl ?_); refine box_event ?hg (N := 6) ?hd (cs := #[.int .i64 0, .int .i64 0, .slice none 0 0]) (t := 62) ?hr ?_; (case hd => rfl); (case hg => rfl); (case hr => exact aq15); intro gb108 hg w19 hbox hb; have n0_ := am (Kd.R_below aq73 hb); have n1_ := am (blk_below (g := gb101) (o := .cells #[.int .i64 0, .int .i64 0, .slice none 0 0] 62 (0, 0)) aq2 hb); have n2_ := am (below_step aq0 hb); have n3_ := am (hbox); have n4_ := am ((by rw [hg]; exact (below_size aq0) : w.heap.size ≤ gb108)); have n5_ := am ((by rw [hg]; exact (below_size aq0) : w.heap.size ≤ gb108)); have n6_ := am ((by rw [hg]; exact Nat.ne_of_lt (blk_lt (g := gb101) (o := .cells #[.int .i64 0, .int .i64 0, .slice none 0 0] 62 (0, 0)) aq2) : gb101 ≠ gb108)); have n7_ := am ((by rw [hg]; exact Nat.ne_of_gt (blk_lt (g := gb101) (o := .cells #[.int .i64 0, .int .i64 0, .slice none 0 0] 62 (0, 0)) aq2) : gb108 ≠ gb101)); clear HO106; clear BK101; clear HB; have HO106 := n0_; have BK101 := n1_; have HB := n2_; have BK108 := n3_; have GW108 := n4_; have GE108 := n5_; have NB101_108 := n6_; have NB108_101 := n7_; clear n0_ n1_ n2_ n3_ n4_ n5_ n6_ n7_; clear hb hbox hg; have hnb20 := NB108_101.out; have hnc20 := NB101_108.out; have hcz21_0 : w19.cell? ⟨gb108, 0, none⟩ = some (.int .i64 0) := (blk_cell BK108.out 0).trans rfl; have hcz21_1 : w19.cell? ⟨gb108, 1, none⟩ = some (.int .i64 0) := (blk_cell BK108.out 1).trans rfl; have hcz21_2 : w19.cell? ⟨gb108, 2, none⟩ = some (.slice none 0 0) := (blk_cell BK108.out 2).trans rfl; have hfz21_0 := blk_frozen BK108.out 0; have hfz21_1 := blk_frozen BK108.out 1; have hfz21_2 := blk_frozen BK108.out 2; obtain ⟨Ao22, co22, eo22⟩ := Kd.R_slice HO106.out; subst eo22))
  have n0_ : Aside0 (Kd.R (Kd.int .u8) 5 (((w19.setCell ⟨gb108, 0, none⟩ (.int .i64 t102)).setCell ⟨gb108, 1, none⟩ (.int .i64 t103)).setCell ⟨gb108, 2, none⟩ (.slice Ao22 t104.length co22)) w.heap.size (fun _ => True) (.slice Ao22 t104.length co22) t104) := ⟨by (with_reducible repeat (first | apply Kd.R_alloc | apply Kd.R_drewN | apply Kd.R_drew)); exact Kd.R_mono (Kd.R_far (p := ⟨gb108, 2, none⟩) (Kd.R_far (p := ⟨gb108, 1, none⟩) (Kd.R_far (p := ⟨gb108, 0, none⟩) (Kd.R_types HO106.out BK108.out (by decide)) (fun _ hk => hk.2) (.int .i64 t102)) (fun _ hk => hk.2) (.int .i64 t103)) (fun _ hk => hk.2) (.slice Ao22 t104.length co22)) (fun _ hk => trivial)⟩
  have n1_ : Aside0 ((((w19.setCell ⟨gb108, 0, none⟩ (.int .i64 t102)).setCell ⟨gb108, 1, none⟩ (.int .i64 t103)).setCell ⟨gb108, 2, none⟩ (.slice Ao22 t104.length co22)).heap[gb101]? = some (.cells #[.int .i64 0, .int .i64 0, .slice none 0 0] 62 (0, 0))) := ⟨aq34⟩
  have n2_ : Aside0 ((((w19.setCell ⟨gb108, 0, none⟩ (.int .i64 t102)).setCell ⟨gb108, 1, none⟩ (.int .i64 t103)).setCell ⟨gb108, 2, none⟩ (.slice Ao22 t104.length co22)).heap[gb108]? = some (.cells #[.int .i64 t102, .int .i64 t103, .slice Ao22 t104.length co22] 62 (0, 0))) := ⟨aq35⟩
  have n3_ : Aside0 (Below w.heap.size w (((w19.setCell ⟨gb108, 0, none⟩ (.int .i64 t102)).setCell ⟨gb108, 1, none⟩ (.int .i64 t103)).setCell ⟨gb108, 2, none⟩ (.slice Ao22 t104.length co22))) := ⟨aq10⟩
  (try clear HO106)
  (try clear BK101)
  (try clear BK108)
  (try clear HB)
  generalize (((w19.setCell ⟨gb108, 0, none⟩ (.int .i64 t102)).setCell ⟨gb108, 1, none⟩ (.int .i64 t103)).setCell ⟨gb108, 2, none⟩ (.slice Ao22 t104.length co22)) = w23 at n0_ n1_ n2_ n3_ ⊢
  have HO106 := n0_
  have BK101 := n1_
  have BK108 := n2_
  have HB := n3_
  clear n0_ n1_ n2_ n3_
  have n0_ := am (Kd.R_drew HO106.out)
  have n1_ := am (blk_drew BK101.out)
  have n2_ := am (blk_drew BK108.out)
  have n3_ := am (below_drew1 HB.out)
  clear HO106
  clear BK101
  clear BK108
  clear HB
  have HO106 := n0_
  have BK101 := n1_
  have BK108 := n2_
  have HB := n3_
  clear n0_ n1_ n2_ n3_
  refine start_ (n := 8) (S := fun w' => w'.cell? ⟨gb108, 0, none⟩ = some (.int .i64 t102) ∧ w'.cell? ⟨gb108, 1, none⟩ = some (.int .i64 t103) ∧ w'.cell? ⟨gb108, 2, none⟩ = some (.slice Ao22 t104.length co22)) (ds := []) #[false, false, false, false, false, false, false, false] (by kernel_rfl) rfl rfl ⟨(blk_cell BK108.out 0).trans rfl, (blk_cell BK108.out 1).trans rfl, (blk_cell BK108.out 2).trans rfl⟩ (fun hHeld => ?_); refine with_tabW spec_mcRead.tab2 spec_mcRead.bits2 (fun HT_ HW_ => ?_)
  generalize w23.drew = w24 at HO106 BK101 BK108 HB hHeld ⊢
  refine pure_ (i := 1) (N := some 14) (v := ?_) (a' := ?_) (bm 8 2) rfl rfl (any_of HT_.out (by kernel_rfl)) (fun _ _ _ h => h) (Or.inl ⟨by rfl, ?_⟩) ?_ ?_
  rotate_left
  ·intro w'
   go_simp
   with_reducible rfl
  rotate_left
  ·simp only [Act.put, ac_]
   rfl
  refine pure_ (i := 2) (N := some 15) (v := ?_) (a' := ?_) (bm 8 6) rfl rfl (any_of HT_.out (by kernel_rfl)) (fun _ _ _ h => h) (Or.inl ⟨by rfl, ?_⟩) ?_ ?_
  rotate_left
  ·intro w'
   go_simp
   with_reducible rfl
  rotate_left
  ·simp only [Act.put, ac_]
   rfl
  refine pure_ (i := 3) (N := some 16) (v := undef) (a' := ?_) (bm 8 14) rfl rfl (any_of HT_.out (by kernel_rfl)) (fun _ _ _ h => h) (Or.inr ⟨by rfl, rfl⟩) ?_ ?_
  rotate_left
  ·simp only [Act.put, ac_]
   rfl
  refine pure_ (i := 4) (N := some 17) (v := undef) (a' := ?_) (bm 8 30) rfl rfl (any_of HT_.out (by kernel_rfl)) (fun _ _ _ h => h) (Or.inr ⟨by rfl, rfl⟩) ?_ ?_
  rotate_left
  ·simp only [Act.put, ac_]
   rfl
  refine pure_ (i := 5) (N := some 18) (v := ?_) (a' := ?_) (bm 8 62) rfl rfl (any_of HT_.out (by kernel_rfl)) (fun _ _ _ h => h) (Or.inl ⟨by rfl, ?_⟩) ?_ ?_
  rotate_left
  ·intro w'
   go_simp
   with_reducible rfl
  rotate_left
  ·simp only [Act.put, ac_]
   rfl
  refine take_ (i := 0) (N := some 13) (v := ?_) (a' := ?_) (bm 8 63) rfl rfl (take_ofW HT_.out HW_.out (by kernel_rfl)) (fun _ _ _ h => h) (Or.inl ⟨by rfl, ?_⟩) hHeld ?_ ?_
  rotate_left
  ·rintro w' ⟨s0, s1, s2⟩
   go_simp
   with_reducible rfl
  rotate_left
  ·simp only [Act.put, ac_]
   rfl
  refine one_ (i := 6) (N := none) (bm 8 127) rfl rfl (one_of HT_.out (by kernel_rfl)) (by decide) (fun K hK => ?_)
  have hs25 : w24.cell? ⟨gb101, 0, none⟩ = some (.int .i64 0) := (blk_cell BK101.out 0).trans rfl
  have hfs25 := blk_frozen BK101.out 0
  have hns25_1 := NB108_101.out
  have hms25_1 := NB101_108.out
  have hs26 : w24.cell? ⟨gb101, 1, none⟩ = some (.int .i64 0) := (blk_cell BK101.out 1).trans rfl
  have hfs26 := blk_frozen BK101.out 1
  have hns26_1 := NB108_101.out
  have hms26_1 := NB101_108.out
  have hs27 : w24.cell? ⟨gb101, 2, none⟩ = some (.slice none 0 0) := (blk_cell BK101.out 2).trans rfl
  have hfs27 := blk_frozen BK101.out 2
  have hns27_1 := NB108_101.out
  have hms27_1 := NB101_108.out
  refine skip_ (w1 := ?_) (by rfl) rfl ?_ ?_
  rotate_left
  ·go_simp
   rfl
  refine hK.out _ _ ⟨((cell_far (p := ⟨gb101, _, none⟩) NB108_101.out _).trans (((cell_far (p := ⟨gb101, _, none⟩) NB108_101.out _).trans (((cell_far (p := ⟨gb101, _, none⟩) NB108_101.out _).trans (hHeld.1)))))), ((cell_far (p := ⟨gb101, _, none⟩) NB108_101.out _).trans (((cell_far (p := ⟨gb101, _, none⟩) NB108_101.out _).trans (((cell_far (p := ⟨gb101, _, none⟩) NB108_101.out _).trans (hHeld.2.1)))))), ((cell_far (p := ⟨gb101, _, none⟩) NB108_101.out _).trans (((cell_far (p := ⟨gb101, _, none⟩) NB108_101.out _).trans (((cell_far (p := ⟨gb101, _, none⟩) NB108_101.out _).trans (hHeld.2.2))))))⟩ (fun hHeld => ?_)
  clear hK K
  refine pure_ (i := 7) (N := some 5) (v := ?_) (a' := ?_) (bm 8 255) rfl rfl (any_of HT_.out (by kernel_rfl)) (fun _ _ _ h => h) (Or.inl ⟨by rfl, ?_⟩) ?_ ?_
  rotate_left
  ·intro w'
   go_simp
   with_reducible rfl
  rotate_left
  ·simp only [Act.put, ac_]
   rfl
  refine done_ (done_of HT_.out (by kernel_rfl)) ?_
  try go_wp2
  refine bodyPost_ret (results_ct rfl _ _ gb101 62 #[.int .i64 t102, .int .i64 t103, .slice Ao22 t104.length co22] (0, 0) _ rfl aq38 Tryz.underlying62 rfl (by kernel_rfl)) rfl ?_
  exact ⟨_, aq7, by (with_reducible repeat (first | apply Kd.R_alloc | apply Kd.R_drewN | apply Kd.R_drew)); exact Kd.R_mono (Kd.R_far (p := ⟨gb101, 2, none⟩) (Kd.R_far (p := ⟨gb101, 1, none⟩) (Kd.R_far (p := ⟨gb101, 0, none⟩) (Kd.R_types HO106.out BK101.out (by decide)) (fun _ hk => hk.2) (.int .i64 t102)) (fun _ hk => hk.2) (.int .i64 t103)) (fun _ hk => hk.2) (.slice Ao22 t104.length co22)) (fun _ hk => trivial), aq10⟩
def spec_l1Has.l0 : Nat → Int → List Int → Int → Int → Option (Bool)
 | 0, _, _, _, _ => none
 | k + 1, x1, x7, x8, x9 => if x9 < x8 then (if 0 ≤ x9 then (if x9 < (x7.length : Int) then (if (rd x7 x9) = x1 then (some true) else (spec_l1Has.l0 k x1 x7 x8 (wrap64 (x9 + 1)))) else (none)) else (none)) else (some false)
def spec_l1Has.f (k : Nat) (l0 : List Int) (a1 : Int) : Option (Bool) := spec_l1Has.l0 k a1 l0 (l0.length : Int) 0
theorem spec_l1Has.mono_l : ∀ k, (∀ y0 y1 y2 y3, LeO (spec_l1Has.l0 k y0 y1 y2 y3) (spec_l1Has.l0 (k + 1) y0 y1 y2 y3))
 | 0 => fun _ _ _ _ r h => by simp [spec_l1Has.l0] at h
 | k + 1 => by
  have ih0 := spec_l1Has.mono_l k
  ·intro y0 y1 y2 y3
   unfold spec_l1Has.l0
   exact mo
theorem spec_l1Has.mono : ∀ a0 a1 k, LeO (spec_l1Has.f k a0 a1) (spec_l1Has.f (k + 1) a0 a1) := by
 intro a0 a1 k
 have ih0 := spec_l1Has.mono_l k
 unfold spec_l1Has.f
 exact mo
def spec_mcCells.l0 : Nat → List Int → Int → List Int → Int → Int → Int → Int → List Int → Option (Bool)
 | 0, _, _, _, _, _, _, _, _ => none
 | k + 1, x1, x2, x13, x14, x15, x102000, x102001, x102002 => if x15 < x14 then (if 0 ≤ x15 then (if x15 < (x13.length : Int) then ((spec_l1In.f (rd x13 x15) 0 (wrap64 ((x102002.length : Int) - 1))).bind fun t104 => (if t104 = true then (if x15 ≤ (x1.length : Int) then ((spec_l1Has.f k (x1.take (x15 : Int).toNat) (rd x13 x15)).bind fun t106 => (if t106 = true then (some false) else (if 0 ≤ (rd x13 x15) then (if (rd x13 x15) < (x102002.length : Int) then (if (rd x102002 (rd x13 x15)) = 35 then (some false) else (if x2 = 0 then (spec_mcCells.l0 k x1 x2 x13 x14 (wrap64 (x15 + 1)) x102000 x102001 x102002) else (if (rd x102002 (rd x13 x15)) = x2 then (spec_mcCells.l0 k x1 x2 x13 x14 (wrap64 (x15 + 1)) x102000 x102001 x102002) else (some false)))) else (none)) else (none)))) else (none)) else (some false))) else (none)) else (none)) else (some true)
theorem spec_mcCells.mono_l : ∀ k, (∀ y0 y1 y2 y3 y4 y5 y6 y7, LeO (spec_mcCells.l0 k y0 y1 y2 y3 y4 y5 y6 y7) (spec_mcCells.l0 (k + 1) y0 y1 y2 y3 y4 y5 y6 y7))
 | 0 => fun _ _ _ _ _ _ _ _ r h => by simp [spec_mcCells.l0] at h
 | k + 1 => by
  have ih0 := spec_mcCells.mono_l k
  ·intro y0 y1 y2 y3 y4 y5 y6 y7
   unfold spec_mcCells.l0
   have im0 := @spec_l1Has.mono; exact mo
def spec_mcGate.T2 : Bool × List (List Nat × List Nat) := (true, [([], []), ([], []), ([1], [1]), ([2], [2]), ([2], [2]), ([3, 4, 2, 2], [2, 3, 4]), ([2, 5], [2, 5]), ([6, 5], [6]), ([7], [7]), ([7], [7]), ([8, 9, 7, 7], [7, 8, 9]), ([7, 10], [7, 10]), ([0, 10, 0], [0]), ([11, 12, 0, 1, 2, 3, 4, 5, 6, 7, 8, 9, 10, 11, 12], [11])])
def spec_mcGate.B2 : List Nat := [0, 0, 2, 6, 6, 30, 62, 126, 254, 254, 1022, 2046, 2047, 8191]
theorem spec_mcGate.tab2 : rtab .any (opsOf Tryz.f62 2) = spec_mcGate.T2 := by kernel_rfl
theorem spec_mcGate.bits2 : waitsOk spec_mcGate.T2.2 spec_mcGate.B2 = true := by kernel_rfl
end Go.Proofs.YtdffgeoegdkiaaaGreatDoor.F

namespace Go.Proofs.YtdffgeoegdkiaaaGreatDoor.F
open Go.RowKit Go.Proofs.YtdffgeoegdkiaaaGreatDoor Go.Proofs.YtdffgeoegdkiaaaGreatDoorW.PrintWords Go.Proofs.YtdffgeoegdkiaaaGreatDoorW.PrintMore
def cellOk (p : Int → Bool) (cs l : List Int) (j : Nat) : Prop := (0 ≤ l.getD j 0 ∧ l.getD j 0 < (cs.length : Int)) ∧ l.getD j 0 ∉ l.take j ∧ p (cs.getD (l.getD j 0).toNat 0) = true
instance (p : Int → Bool) (cs l : List Int) (j : Nat) : Decidable (cellOk p cs l j) := by unfold cellOk; exact inferInstance
theorem index_int_l0 (l : List Int) (x : Int) (hl : l.length ≤ 1000) : ∀ (n i : Nat), i + n = l.length → ∃ r, Ev (fun k => slices_Index_int_int.l0 k l x (l.length : Int) (i : Int)) r ∧ (r ≥ 0 ↔ x ∈ l.drop i)
  | 0, i, hi => ⟨-1, Ev.step (fun k => by rw [slices_Index_int_int.l0, if_neg (by omega)]) (Ev.now _), by rw [List.drop_eq_nil_of_le (by omega)]; simp⟩
  | n + 1, i, hi => by
    have hil : i < l.length := by omega
    have HW : Aside0 (wrap64 ((i : Int) + 1) = ((i + 1 : Nat) : Int)) := ⟨by rw [w64 (by omega) (by omega)]; rfl⟩
    have hrd : rd l (i : Int) = l[i]'hil := by rw [rdN, List.getD_eq_getElem?_getD, List.getElem?_eq_getElem hil]; rfl
    rw [List.drop_eq_getElem_cons hil]
    by_cases he : x = l[i]'hil
    · exact ⟨(i : Int), Ev.step (fun k => by rw [slices_Index_int_int.l0, if_pos (by omega), if_pos (by omega), if_pos (by omega), hrd, if_pos he]) (Ev.now _), ⟨fun _ => by rw [he]; exact List.mem_cons_self, fun _ => by omega⟩⟩
    · obtain ⟨r, h1, h2⟩ := index_int_l0 l x hl n (i + 1) (by omega)
      refine ⟨r, Ev.step (fun k => by rw [slices_Index_int_int.l0, if_pos (by omega), if_pos (by omega), if_pos (by omega), hrd, if_neg he, HW.out]) h1, ?_⟩
      rw [h2, List.mem_cons]
      exact ⟨Or.inr, fun q => q.resolve_left he⟩
theorem contains_ev (l : List Int) (x : Int) (hl : l.length ≤ 1000) : Ev (fun k => slices_Contains_int_int.f k l x) (decide (x ∈ l)) := by
  obtain ⟨r, h1, h2⟩ := index_int_l0 l x hl l.length 0 (by omega)
  rw [List.drop_zero] at h2
  refine Ev.bind h1 (Ev.congr (fun k => ?_) (Ev.now _))
  congr 1
  rw [Bool.eq_iff_iff, decide_eq_true_iff, decide_eq_true_iff]
  exact h2
end Go.Proofs.YtdffgeoegdkiaaaGreatDoor.F

namespace Go.Proofs.YtdffgeoegdkiaaaGreatDoor
open Go.RowKit Go.Proofs.YtdffgeoegdkiaaaGreatDoorW.PrintWords Go.Proofs.YtdffgeoegdkiaaaGreatDoorW.PrintMore
theorem idxs_length_eq {cs ds : List Int} (h : (idxs isBallC cs).length = (idxs isBallC ds).length) (hl : cs.length = ds.length) (hs : ∀ i ∈ idxs isBallC ds, ballAt cs i = true) : idxs isBallC ds = idxs isBallC cs := by
  have e : idxs isBallC ds = (idxs isBallC cs).filter (ballAt ds) := by
    unfold idxs
    rw [List.filter_filter, hl]
    refine List.filter_congr fun i hi => ?_
    rw [Bool.eq_iff_iff, Bool.and_eq_true]
    constructor
    · intro hb
      exact ⟨hb, hs i (mem_balls.2 hb)⟩
    · intro hb; exact hb.1
  have hsub : (idxs isBallC ds).Sublist (idxs isBallC cs) := by rw [e]; exact List.filter_sublist
  exact hsub.eq_of_length h.symm
def nowB (w h : Nat) (cs : List Int) (ds : List Nat) : List Nat := nowD w h cs (idxs isBallC cs) ds
theorem nowB_perm {w h : Nat} {cs : List Int} (hl : cs.length = w * h) {ds : List Nat} (hd : ∀ d ∈ ds, d < 4) : (nowB w h cs ds).Perm (idxs isBallC (runD w h cs ds)) := now_run ds hd cs hl _ (List.Perm.refl _)
def comesD (w h : Nat) (cs : List Int) (ds : List Nat) : Bool := (nowB w h cs ds).all fun k => (idxs isBallC cs).contains k
theorem comes_iff {w h : Nat} {cs : List Int} (hl : cs.length = w * h) {ds : List Nat} (hd : ∀ d ∈ ds, d < 4) : comesD w h cs ds = true ↔ ∀ i, i < w * h → ballAt cs i = ballAt (runD w h cs ds) i := by
  have hp := nowB_perm hl hd
  have hlen : (idxs isBallC cs).length = (idxs isBallC (runD w h cs ds)).length := by
    rw [← hp.length_eq]; unfold nowB; rw [nowD_length]
  constructor
  · intro hc
    have hs : ∀ i ∈ idxs isBallC (runD w h cs ds), ballAt cs i = true := fun i hi => by
      have := List.all_eq_true.1 hc i (hp.mem_iff.2 hi)
      exact mem_balls.1 (by simpa using this)
    have e := idxs_length_eq hlen (runD_length w h ds cs).symm hs
    intro i _
    rw [Bool.eq_iff_iff, ← mem_balls, ← mem_balls, e]
  · intro hb
    refine List.all_eq_true.2 fun k hk => ?_
    have h1 := mem_balls.1 (hp.mem_iff.1 hk)
    have hk' : k < w * h := by have := ballAt_lt h1; rwa [runD_length, hl] at this
    have : k ∈ idxs isBallC cs := mem_balls.2 (by rw [hb k hk']; exact h1)
    simpa using this
def permD (w h : Nat) (cs : List Int) (ds : List Nat) : List Nat := (nowB w h cs ds).map fun k => (idxs isBallC cs).findIdx (· == k)
theorem permD_length (w h : Nat) (cs : List Int) (ds : List Nat) : (permD w h cs ds).length = (idxs isBallC cs).length := by unfold permD nowB; rw [List.length_map, nowD_length]
theorem permD_lt {w h : Nat} {cs : List Int} {ds : List Nat} (hc : comesD w h cs ds = true) : ∀ x ∈ permD w h cs ds, x < (idxs isBallC cs).length := by
  intro x hx
  obtain ⟨k, hk, rfl⟩ := List.mem_map.1 hx
  rw [List.findIdx_lt_length]
  have := List.all_eq_true.1 hc k hk
  exact ⟨k, by simpa using this, beq_self_eq_true _⟩
def oneD (cs : List Int) (i : Nat) : List Int := (cs.map fun c => if isBallC c = true then 111 else c).set i 97
theorem oneD_length (cs : List Int) (i : Nat) : (oneD cs i).length = cs.length := by simp [oneD]
theorem oneD_get {cs : List Int} {i j : Nat} (hj : j < cs.length) : (oneD cs i).getD j 0 = if i = j then 97 else if ballAt cs j = true then 111 else cs.getD j 0 := by
  unfold oneD
  rw [getD_set, List.length_map]
  by_cases h : i = j
  · subst h; rw [if_pos ⟨rfl, hj⟩, if_pos rfl]
  · rw [if_neg (fun q => h q.1), if_neg h, getD_at (by simpa using hj), List.getElem_map]
    unfold ballAt
    rw [getD_at hj]
theorem oneD_alike {cs : List Int} {i : Nat} (hb : ballAt cs i = true) : alike cs (oneD cs i) := by
  refine ⟨(oneD_length cs i).symm, fun j => ?_, fun j hj => ?_⟩
  · by_cases hj : j < cs.length
    · show ballAt cs j = isBallC ((oneD cs i).getD j 0)
      rw [oneD_get hj]
      by_cases h : i = j
      · subst h; rw [if_pos rfl, hb]; rfl
      · rw [if_neg h]
        by_cases h2 : ballAt cs j = true
        · rw [if_pos h2, h2]; rfl
        · rw [if_neg h2]; rfl
    · have e1 : ballAt cs j = false := by
        rcases h : ballAt cs j with _ | _
        · rfl
        · exact absurd (ballAt_lt h) hj
      have e2 : ballAt (oneD cs i) j = false := by
        rcases h : ballAt (oneD cs i) j with _ | _
        · rfl
        · have := ballAt_lt h; rw [oneD_length] at this; exact absurd this hj
      rw [e1, e2]
  · show openAt cs j = isOpenC ((oneD cs i).getD j 0)
    rw [oneD_get hj]
    by_cases h : i = j
    · subst h; rw [if_pos rfl, ballAt_open hb]; rfl
    · rw [if_neg h]
      by_cases h2 : ballAt cs j = true
      · rw [if_pos h2, ballAt_open h2]; rfl
      · rw [if_neg h2]; rfl
theorem oneD_only {cs : List Int} {i : Nat} (hb : ballAt cs i = true) : only (oneD cs i) 97 i := by
  intro j hj
  rw [oneD_length] at hj
  rw [oneD_get hj]
  by_cases h : i = j
  · subst h; simp
  · rw [if_neg h]
    constructor
    · intro e
      exfalso
      by_cases h2 : ballAt cs j = true
      · rw [if_pos h2] at e; exact absurd e (by decide)
      · rw [if_neg h2] at e
        apply h2
        unfold ballAt
        rw [e]; rfl
    · intro e; exact absurd e.symm h
theorem one_place {w h : Nat} {cs : List Int} (hl : cs.length = w * h) {ds : List Nat} (hd : ∀ d ∈ ds, d < 4) {n : Nat} (hn : n < (idxs isBallC cs).length) :
    (runD w h (oneD cs ((idxs isBallC cs)[n]'hn)) ds).findIdx (· == 97) = (nowB w h cs ds).getD n 0 := by
  have hb : ballAt cs ((idxs isBallC cs)[n]'hn) = true := mem_balls.1 (List.getElem_mem hn)
  obtain ⟨h1, h2⟩ := only_run (w := w) (h := h) (c := 97) rfl ds hd cs (oneD cs ((idxs isBallC cs)[n]'hn)) (idxs isBallC cs) (oneD_alike hb) hl (List.Perm.refl _) n hn (oneD_only hb)
  refine only_first h1 ?_
  rw [runD_length, oneD_length, hl]
  have hp := nowB_perm hl hd
  have hn' : n < (nowB w h cs ds).length := by unfold nowB; rw [nowD_length]; exact hn
  have hm : (nowB w h cs ds).getD n 0 ∈ nowB w h cs ds := by
    rw [List.getD_eq_getElem?_getD, List.getElem?_eq_getElem hn']; exact List.getElem_mem hn'
  have := ballAt_lt (mem_balls.1 (hp.mem_iff.1 hm))
  rwa [runD_length, hl] at this
end Go.Proofs.YtdffgeoegdkiaaaGreatDoor

namespace Go.Proofs.YtdffgeoegdkiaaaGreatDoor
open Go.RowKit Go.Proofs.YtdffgeoegdkiaaaGreatDoorW.PrintWords Go.Proofs.YtdffgeoegdkiaaaGreatDoorW.PrintLast Go.Proofs.YtdffgeoegdkiaaaGreatDoorW.PrintMore Go.Lib Go.Maps
def slices_Clone_int.f (l : List Int) : Option (List Int) := if l.length < 65536 then some l else none
theorem slices_Clone_int.calls (A0 : Option Addr) (c0 : Nat) (l0 : List Int) (r : List Int) (w : World) (hr0 : Kd.C (Kd.int .i64) w A0 l0.length l0) (hc0 : l0.length ≤ c0) (h : slices_Clone_int.f l0 = some r) :
    Calls Tryz.prog 82 #[.slice A0 l0.length c0] w fun e w' => ∃ v_, e = .returned v_ ∧ Kd.R (Kd.int .i64) 3 w' w.heap.size (fun _ => True) v_ r ∧ Below w.heap.size w w' := by
  unfold slices_Clone_int.f at h
  split at h
  case isFalse => cases h
  rename_i hc
  injection h with h
  subst h
  by_cases h0 : l0.length = 0
  · obtain rfl := List.eq_nil_of_length_eq_zero h0
    cases A0 with
    | none =>
      refine (Tryz.slices_Clone_int_nil 0 c0 w).mono ?_
      rintro e w' ⟨rfl, rfl⟩
      exact ⟨_, rfl, Kd.R_of_own (enc := Value.int .i64) (h1 := fun _ => rfl) ⟨by simp [encs], .inl ⟨rfl, rfl⟩⟩ (fun _ _ => trivial), Below.refl _ _⟩
    | some a =>
      refine (Tryz.slices_Clone_int_zero a c0 w).mono ?_
      rintro e w' ⟨v', rfl, ho, _, hb⟩
      exact ⟨v', rfl, Kd.R_of_own (enc := Value.int .i64) (h1 := fun _ => rfl) ho (fun _ _ => trivial), hb⟩
  · obtain ⟨b, o, rfl, hbk, hcells⟩ := C_place hr0 (by omega)
    refine (Tryz.slices_Clone_int b o l0.length c0 l0 w (Nat.le_refl _) (by omega) (fun j hj => ?_)).mono ?_
    · exact hcells j _ (by rw [getD_at hj]; exact List.getElem?_eq_getElem hj)
    · rintro e w' ⟨v', rfl, ho, _, hb⟩
      rw [List.take_of_length_le (Nat.le_refl _)] at ho
      exact ⟨v', rfl, Kd.R_of_own (enc := Value.int .i64) (h1 := fun _ => rfl) ho (fun _ _ => trivial), hb⟩
def lookZ (x : Int) (m : List (Nat × Nat)) : Int := ((m.lookup x.toNat).getD 0 : Nat)
def impl_slideZ.f (a0 a1 : Int) (l : List Int) (d : Int) : Option (List (Nat × Nat)) := if gridI a0 a1 l ∧ isDirC d = true then some (mvD a0.toNat a1.toNat (dirIx d).toNat l) else none
theorem impl_slideZ.calls (a0_0 a0_1 : Int) (A0_2 : Option Addr) (c0_2 : Nat) (l0_2 : List Int) (a1 : Int) (r : List (Nat × Nat)) (w : World) (hr0_2 : Kd.C (Kd.int .u8) w A0_2 l0_2.length l0_2) (hc0_2 : l0_2.length ≤ c0_2) (h : impl_slideZ.f a0_0 a0_1 l0_2 a1 = some r) :
    Calls Tryz.prog 108 #[.agg #[.int .i64 a0_0, .int .i64 a0_1, .slice A0_2 l0_2.length c0_2], .int .u8 a1] w fun e w' => ∃ b, e = .returned (.map (some b)) ∧ MapAt w' b r ∧ (r.map Prod.fst).Nodup ∧ Below w.heap.size w w' := by
  unfold impl_slideZ.f at h
  split at h
  case isFalse => cases h
  rename_i hc
  obtain ⟨⟨hw, hh, hl⟩, hdir⟩ := hc
  injection h with h
  subst h
  obtain ⟨W, rfl⟩ : ∃ n : Nat, a0_0 = n := ⟨a0_0.toNat, by omega⟩
  obtain ⟨H, rfl⟩ : ∃ n : Nat, a0_1 = n := ⟨a0_1.toNat, by omega⟩
  obtain ⟨e1, hd', _⟩ := dirB_ix hdir
  generalize (dirIx a1).toNat = d at *
  subst e1
  simp only [Int.toNat_natCast] at hl ⊢
  refine (slide_calls (by omega) (by omega) hl hd' A0_2 c0_2 w hr0_2 hc0_2).mono ?_
  rintro e w' ⟨b, rfl, _, hm, hb⟩
  exact ⟨b, rfl, hm, mv_fst hd', hb⟩
theorem atKey_lookZ {m : List (Nat × Nat)} (hn : (m.map Prod.fst).Nodup) {x : Int} (hx : 0 ≤ x) : (mapOf m).atKey (.int .i64 x) (.lit (.int .i64 0)) = .lit (.int .i64 (lookZ x m)) := by
  obtain ⟨k, rfl⟩ : ∃ k : Nat, x = k := ⟨x.toNat, by omega⟩
  unfold lookZ
  rw [Int.toNat_natCast]
  by_cases hex : ∃ p ∈ m, p.1 = k
  · obtain ⟨p, hp, rfl⟩ := hex
    exact (atKey_mapOf hn hp _).trans (by rw [lookup_of hn (k := p.1) (j := p.2) hp]; rfl)
  · refine (atKey_none (fun p hp e => hex ⟨p, hp, e⟩) _).trans ?_
    have : m.lookup k = none := by
      rw [List.lookup_eq_none_iff]
      intro p hp
      exact bne_iff_ne.2 fun e => hex ⟨p, hp, e.symm⟩
    rw [this]; rfl
theorem lookZ_of {m : List (Nat × Nat)} (hn : (m.map Prod.fst).Nodup) {x c : Int} (hx : 0 ≤ x) (h : (mapOf m).atKey (.int .i64 x) (.lit (.int .i64 0)) = .lit (.int .i64 c)) : c = lookZ x m := by
  rw [atKey_lookZ hn hx] at h
  injection h with h
  injection h with _ h
  exact h.symm
theorem MapAt.ne {w : World} {b g : Nat} {m : List (Nat × Nat)} {cs : Array Value} {t : TypeId} {f : Nat × Nat} (h : MapAt w b m) (hg : w.heap[g]? = some (.cells cs t f)) : b ≠ g := by
  obtain ⟨n, _, es, clock, h1, _⟩ := h
  intro e
  rw [e, hg] at h1
  cases h1
end Go.Proofs.YtdffgeoegdkiaaaGreatDoor

namespace Go.Proofs.YtdffgeoegdkiaaaGreatDoor.F
open Go.Proofs.YtdffgeoegdkiaaaGreatDoor
open Go.RowKit Go.Proofs.YtdffgeoegdkiaaaGreatDoorW.PrintWords Go.Proofs.YtdffgeoegdkiaaaGreatDoorW.PrintLast Go.Proofs.YtdffgeoegdkiaaaGreatDoorW.PrintMore
attribute [local go_sem] max2_int min2_int max_two min_two max_three min_three max_four min_four
def impl_tray_indices__impl_isBall.l0 : Nat → List Int → List Int → Int → Int → Option (List Int)
 | 0, _, _, _, _ => none
 | k + 1, x5, x10, x11, x12 => if x12 < x11 then (if 0 ≤ x12 then (if x12 < (x10.length : Int) then ((impl_isBall.f (rd x10 x12)).bind fun t106 => (if t106 = true then (if x5.length < 17592186044416 then (impl_tray_indices__impl_isBall.l0 k (x5 ++ [x12]) x10 x11 (wrap64 (x12 + 1))) else (none)) else (impl_tray_indices__impl_isBall.l0 k x5 x10 x11 (wrap64 (x12 + 1))))) else (none)) else (none)) else (some x5)
def impl_tray_indices__impl_isBall.f (k : Nat) (a0_0 : Int) (a0_1 : Int) (l0_2 : List Int)  : Option (List Int) := impl_tray_indices__impl_isBall.l0 k (([] : List Int)) l0_2 (l0_2.length : Int) 0
theorem impl_tray_indices__impl_isBall.mono_l : ∀ k, (∀ y0 y1 y2 y3, LeO (impl_tray_indices__impl_isBall.l0 k y0 y1 y2 y3) (impl_tray_indices__impl_isBall.l0 (k + 1) y0 y1 y2 y3))
 | 0 => fun _ _ _ _ r h => by simp [impl_tray_indices__impl_isBall.l0] at h
 | k + 1 => by
  have ih0 := impl_tray_indices__impl_isBall.mono_l k
  ·intro y0 y1 y2 y3
   unfold impl_tray_indices__impl_isBall.l0
   exact mo
theorem impl_tray_indices__impl_isBall.mono : ∀ a0 a1 a2 k, LeO (impl_tray_indices__impl_isBall.f k a0 a1 a2) (impl_tray_indices__impl_isBall.f (k + 1) a0 a1 a2) := by
 intro a0 a1 a2 k
 have ih0 := impl_tray_indices__impl_isBall.mono_l k
 unfold impl_tray_indices__impl_isBall.f
 exact mo
set_option maxHeartbeats 8000000 in
set_option maxRecDepth 100000 in
theorem impl_tray_indices__impl_isBall.calls (k : Nat) (a0_0 : Int) (a0_1 : Int) (A0_2 : Option Addr) (c0_2 : Nat) (l0_2 : List Int)  (r : List Int) (w : World) (hr0_2 : Kd.C (Kd.int .u8) w A0_2 l0_2.length l0_2) (hc0_2 : l0_2.length ≤ c0_2) (h : impl_tray_indices__impl_isBall.f k a0_0 a0_1 l0_2 = some r) :
  Calls Tryz.prog 106 #[.agg #[.int .i64 a0_0, .int .i64 a0_1, .slice A0_2 l0_2.length c0_2], .func (.func 107) #[] #[]] w fun e w' => ∃ v0_ : Value, e = .returned (v0_) ∧ Kd.R (Kd.int .i64) 3 w' w.heap.size (fun _ => True) v0_ r ∧ Below w.heap.size w w' := by
 have hu93 := Tryz.underlying93
 have HR0_2 := am hr0_2
 have HC0_2 := am hc0_2
 clear hr0_2 hc0_2
 have HB := am (Below.refl w.heap.size w)
 have H : (impl_tray_indices__impl_isBall.l0 k (([] : List Int)) l0_2 (l0_2.length : Int) 0) = some r := h
 clear h
 obtain ⟨y102, hy102⟩ : ∃ y_ : List Int, y_ = (([] : List Int)) := ⟨_, rfl⟩
 replace H : (impl_tray_indices__impl_isBall.l0 k y102 l0_2 (l0_2.length : Int) 0) = some r := by first | (rw [hy102]; with_reducible exact H) | (have H2_ := (Option.bind_some _ _).symm.trans H; rw [hy102]; with_reducible exact H2_) | (have H2_ := (Option.bind_some _ _).symm.trans H; with_reducible exact H2_) | with_reducible exact H | (rw [hy102]; exact H) | exact H
 have Ny102 := am hy102
 clear hy102
 have H' := am H
 clear H
 go_enter Tryz.func106, Tryz.ntmps106
 go_wp2_with (first | ((with_reducible refine gate_dst (N := 2) rfl ?_); refine box_event ?hg (N := 2) ?hd (cs := #[.int .i64 a0_0, .int .i64 a0_1, .slice A0_2 l0_2.length c0_2]) (t := 93) ?hr ?_; (case hd => rfl); (case hg => rfl); (case hr => exact aq15); intro gb101 hg w3 hbox hb; have n0_ := am (below_step aq1 hb); have n1_ := am (hbox); have n2_ := am ((by rw [hg]; exact (below_size aq1) : w.heap.size ≤ gb101)); have n3_ := am ((by rw [hg]; exact (below_size aq1) : w.heap.size ≤ gb101)); clear HB; have HB := n0_; have BK101 := n1_; have GW101 := n2_; have GE101 := n3_; clear n0_ n1_ n2_ n3_; clear hb hbox hg) | ((with_reducible refine gate_dst (N := 8) rfl ?_); refine Kd.R_lit (Kd.int .i64) _ 3 ?hg (N := 8) ?hd (xs := ([] : List Int)) (inner := []) (ok := fun _ => True) (okp := fun _ => True) ?hr ?hp (fun _ hk => hk) trivial (Below.refl _ _) (Nat.le_refl _) (by simp) ?_; (case hd => rfl); (case hg => rfl); (case hr => exact aq15); (case hp => exact aq117); intro v103 w4 ho5 hb hg_ hnew_; clear hg_ hnew_; (first | rw [← Ny102.out] at ho5 | (simp only [Int.reduceToNat] at ho5; rw [← Ny102.out] at ho5)); have n0_ := am (Kd.R_lower ho5 (below_size aq0)); have n1_ := am (blk_below (g := gb101) (o := .cells #[.int .i64 a0_0, .int .i64 a0_1, .slice A0_2 l0_2.length c0_2] 93 (0, 0)) aq2 hb); have n2_ := am (below_step aq0 hb); clear BK101; clear HB; have HO104 := n0_; have BK101 := n1_; have HB := n2_; clear n0_ n1_ n2_; clear hb ho5; have hcz6_0 : w4.cell? ⟨gb101, 0, none⟩ = some (.int .i64 a0_0) := (blk_cell BK101.out 0).trans rfl; have hcz6_1 : w4.cell? ⟨gb101, 1, none⟩ = some (.int .i64 a0_1) := (blk_cell BK101.out 1).trans rfl; have hcz6_2 : w4.cell? ⟨gb101, 2, none⟩ = some (.slice A0_2 l0_2.length c0_2) := (blk_cell BK101.out 2).trans rfl; have hfz6_0 := blk_frozen BK101.out 0; have hfz6_1 := blk_frozen BK101.out 1; have hfz6_2 := blk_frozen BK101.out 2))
 go_loopg [5, 12] k (fun kq v5 v12 w' => ∃ (x5_1 : List Int) (x12_1 : Int), v12 = .int .i64 x12_1 ∧ Aside0 (impl_tray_indices__impl_isBall.l0 kq x5_1 l0_2 (l0_2.length : Int) x12_1 = some r) ∧ Aside0 (kq ≤ k) ∧ Aside0 (Kd.R (Kd.int .i64) 3 w' w.heap.size (fun _ => True) v5 x5_1) ∧ Aside0 (w'.heap[gb101]? = some (.cells #[.int .i64 a0_0, .int .i64 a0_1, (.slice A0_2 l0_2.length c0_2)] 93 (0, 0))) ∧ Aside0 (Below w.heap.size w w'))
 case atStart => exact ⟨(y102), (0), aq6, H', ⟨Nat.le_refl _⟩, ⟨aq21⟩, ⟨aq2⟩, ⟨aq0⟩⟩
 case round =>
  clear H'
  try clear c1
  try clear p2
  try clear hcz6_0
  try clear hcz6_1
  try clear hcz6_2
  try clear hfz6_0
  try clear hfz6_1
  try clear hfz6_2
  obtain ⟨x5_1, x12_1, rfl, HA, HK1, HO_5, BK101, HB⟩ := hrel
  cases gk with
  | zero => exact absurd HA.out (by simp [impl_tray_indices__impl_isBall.l0])
  | succ k1 =>
   have H := HA.out
   clear HA
   simp only [impl_tray_indices__impl_isBall.l0] at H
   by_cases c7 : x12_1 < (l0_2.length : Int)
   ·rw [if_pos c7] at H
    have c7b0 : decide (x12_1 < (l0_2.length : Int)) = true := decide_eq_true c7
    clear c7
    by_cases c8 : 0 ≤ x12_1
    ·rw [if_pos c8] at H
     have c8b0 : decide (0 ≤ x12_1) = true := decide_eq_true c8
     clear c8
     by_cases c9 : x12_1 < (l0_2.length : Int)
     ·rw [if_pos c9] at H
      have c9b0 : decide (x12_1 < (l0_2.length : Int)) = true := decide_eq_true c9
      clear c9
      replace H := Option.bind_eq_some_iff.mp H
      obtain ⟨t106, A100, H⟩ := H
      replace H : (if t106 = true then (if x5_1.length < 17592186044416 then (impl_tray_indices__impl_isBall.l0 k1 (x5_1 ++ [x12_1]) l0_2 (l0_2.length : Int) (wrap64 (x12_1 + 1))) else (none)) else (impl_tray_indices__impl_isBall.l0 k1 x5_1 l0_2 (l0_2.length : Int) (wrap64 (x12_1 + 1)))) = some r := H
      have A10 := am A100
      clear A100
      by_cases c11 : t106 = true
      ·subst c11
       have H1 : (if x5_1.length < 17592186044416 then (impl_tray_indices__impl_isBall.l0 k1 (x5_1 ++ [x12_1]) l0_2 (l0_2.length : Int) (wrap64 (x12_1 + 1))) else (none)) = some r := by rw [if_pos rfl] at H; exact H
       clear H
       have H := H1
       clear H1
       by_cases c12 : x5_1.length < 17592186044416
       ·rw [if_pos c12] at H
        have LMc12 := am c12
        clear c12
        obtain ⟨y107, hy107⟩ : ∃ y_ : List Int, y_ = (x5_1 ++ [x12_1]) := ⟨_, rfl⟩
        replace H : (impl_tray_indices__impl_isBall.l0 k1 y107 l0_2 (l0_2.length : Int) (wrap64 (x12_1 + 1))) = some r := by first | (rw [hy107]; with_reducible exact H) | (have H2_ := (Option.bind_some _ _).symm.trans H; rw [hy107]; with_reducible exact H2_) | (have H2_ := (Option.bind_some _ _).symm.trans H; with_reducible exact H2_) | with_reducible exact H | (rw [hy107]; exact H) | exact H
        have Ny107 := am hy107
        clear hy107
        have H' := am H
        clear H
        have p105 : 0 ≤ (x12_1 : Int) := of_decide_eq_true aq5
        have q105 : x12_1 < (l0_2.length : Int) := of_decide_eq_true aq5
        obtain ⟨ad105, e105, hx105_0⟩ := Kd.at_int HR0_2.out x12_1 p105 q105
        cases e105
        replace hx105_0 := (HB.out.cell (World.block_lt_of_cell? w _ hx105_0)).trans hx105_0
        replace p105 := eq_true p105
        replace q105 := eq_true q105
        go_wp2_with (first | ((with_reducible refine gate_dst (N := 19) rfl ?_); refine goesT_ (x := .tmp 17) (some 19) rfl rfl Tryz.func107 (by kernel_rfl) rfl #[.int .u8 (rd l0_2 x12_1)] rfl rfl aq4 ?_; (with_reducible refine (impl_isBall.calls (rd l0_2 x12_1) true _ A10.out).mono ?_); rintro e w' ⟨rfl, ⟨nd, rfl⟩⟩; refine ⟨_, rfl, ?_⟩) | ((with_reducible refine gate_builtin (b := .append) (xs := #[.tmp 20, .tmp 22]) rfl ?_); at_builtin; refine Kd.R_append (Kd.int .i64) (w0 := w) w.heap.size rfl (.tmp 20) (.tmp 22) 28 3 (.int .i64 0) 8 rfl Tryz.underlying28 info3 rfl (by decide) (by omega) u5 x5_1 x12_1 [.int .i64 x12_1] (fun _ => True) (fun _ => False) rfl rfl ?aP (fun _ hk => hk.elim) ?aF ?aO ?aB ?aS ?aL ?_; (case aP => exact rfl); (case aB => exact aq0); (case aF => exact aq84); (case aO => exact aq97); (case aS => exact aq85); (case aL => have := LMc12.out; omega); intro v108 w13 ho hb hg hat; rw [← Ny107.out] at ho; have n0_ := am (blk_grown (g := gb101) (o := .cells #[.int .i64 a0_0, .int .i64 a0_1, .slice (some ad105) l0_2.length c0_2] 93 (0, 0)) aq2 hg (Kd.R_ne HO_5.out BK101.out (by decide))); have n1_ := am (hb); have n2_ := am (ho); clear BK101; clear HB; clear HO_5; have BK101 := n0_; have HB := n1_; have HO109 := n2_; clear n0_ n1_ n2_; clear ho hb hg hat))
        go_roundg k1
        case measure => have := HK1.out; omega
        case rel => exact ⟨(y107), (wrap64 (x12_1 + 1)), aq6, H', ⟨aq68⟩, ⟨aq59⟩, ⟨aq2⟩, ⟨aq0⟩⟩
       ·rw [if_neg c12] at H
        exact absurd H (by simp)
      ·replace c11 := Bool.eq_false_iff.mpr c11
       subst c11
       have H1 : (impl_tray_indices__impl_isBall.l0 k1 x5_1 l0_2 (l0_2.length : Int) (wrap64 (x12_1 + 1))) = some r := by rw [if_neg (show ¬ (false = true) by decide)] at H; exact H
       clear H
       have H := H1
       clear H1
       have H' := am H
       clear H
       have p105 : 0 ≤ (x12_1 : Int) := of_decide_eq_true aq5
       have q105 : x12_1 < (l0_2.length : Int) := of_decide_eq_true aq5
       obtain ⟨ad105, e105, hx105_0⟩ := Kd.at_int HR0_2.out x12_1 p105 q105
       cases e105
       replace hx105_0 := (HB.out.cell (World.block_lt_of_cell? w _ hx105_0)).trans hx105_0
       replace p105 := eq_true p105
       replace q105 := eq_true q105
       go_wp2_with (first | ((with_reducible refine gate_dst (N := 19) rfl ?_); refine goesT_ (x := .tmp 17) (some 19) rfl rfl Tryz.func107 (by kernel_rfl) rfl #[.int .u8 (rd l0_2 x12_1)] rfl rfl aq4 ?_; (with_reducible refine (impl_isBall.calls (rd l0_2 x12_1) false _ A10.out).mono ?_); rintro e w' ⟨rfl, ⟨nd, rfl⟩⟩; refine ⟨_, rfl, ?_⟩))
       go_roundg k1
       case measure => have := HK1.out; omega
       case rel => exact ⟨(x5_1), (wrap64 (x12_1 + 1)), aq6, H', ⟨aq68⟩, ⟨aq97⟩, ⟨aq2⟩, ⟨aq0⟩⟩
     ·rw [if_neg c9] at H
      exact absurd H (by simp)
    ·rw [if_neg c8] at H
     exact absurd H (by simp)
   ·rw [if_neg c7] at H
    have c7b0 : decide (x12_1 < (l0_2.length : Int)) = false := decide_eq_false c7
    clear c7
    obtain rfl := Option.some.inj H
    go_wp2
    go_ret
    exact ⟨_, aq7, aq97, aq0⟩
mutual
def impl_comesBack.l0 : Nat → List Int → List Int → List Int → Int → Int → Int → Int → List Int → Option (List Int × Bool)
 | 0, _, _, _, _, _, _, _, _ => none
 | k + 1, x7, x8, x24, x25, x26, x107000, x107001, x107002 => if x26 < x25 then (if 0 ≤ x26 then (if x26 < (x24.length : Int) then ((impl_slideZ.f x107000 x107001 x107002 (rd x24 x26)).bind fun t117 => (impl_comesBack.l1 k x7 x8 (rd x24 x26) t117 x24 x25 x26 (x8.length : Int) 0 x107000 x107001 x107002)) else (none)) else (none)) else (impl_comesBack.l2 k x7 (([] : List Int)) x8 (x8.length : Int) 0)
def impl_comesBack.l1 : Nat → List Int → List Int → Int → List (Nat × Nat) → List Int → Int → Int → Int → Int → Int → Int → List Int → Option (List Int × Bool)
 | 0, _, _, _, _, _, _, _, _, _, _, _, _ => none
 | k + 1, x7, x8, x10, x11, x24, x25, x26, x34, x35, x107000, x107001, x107002 => if x35 < x34 then (if 0 ≤ x35 then (if x35 < (x8.length : Int) then (if 0 ≤ (rd x8 x35) ∧ (rd x8 x35) < 65536 then (impl_comesBack.l1 k x7 (x8.set (x35 : Int).toNat (lookZ (rd x8 x35) x11)) x10 x11 x24 x25 x26 x34 (wrap64 (x35 + 1)) x107000 x107001 x107002) else none) else (none)) else (none)) else ((impl_tray_tilted.f x107000 x107001 x107002 x10).bind fun bt120 => (impl_comesBack.l0 k x7 x8 x24 x25 (wrap64 (x26 + 1)) bt120.1 bt120.2.1 bt120.2.2))
def impl_comesBack.l2 : Nat → List Int → List Int → List Int → Int → Int → Option (List Int × Bool)
 | 0, _, _, _, _, _ => none
 | k + 1, x7, x14, x52, x53, x54 => if x54 < x53 then (if 0 ≤ x54 then (if x54 < (x52.length : Int) then ((slices_Index_int_int.f k x7 (rd x52 x54)).bind fun t129 => (if x14.length < 17592186044416 then (impl_comesBack.l2 k x7 (x14 ++ [t129]) x52 x53 (wrap64 (x54 + 1))) else (none))) else (none)) else (none)) else ((slices_Contains_int_int.f k x14 (-1)).bind fun t133 => (some (x14, !t133)))
end
def impl_comesBack.f (k : Nat) (a0 : ByteArray) (a1 : ByteArray) : Option (List Int × Bool) := (impl_read.f a0).bind fun bt101 => ((impl_tray_indices__impl_isBall.f k bt101.1 bt101.2.1 bt101.2.2).bind fun t107 => ((slices_Clone_int.f t107).bind fun t110 => ((conv_bytes.f a1).bind fun t113 => (impl_comesBack.l0 k t107 t110 t113 (t113.length : Int) 0 bt101.1 bt101.2.1 bt101.2.2))))
theorem impl_comesBack.mono_l : ∀ k, (∀ y0 y1 y2 y3 y4 y5 y6 y7, LeO (impl_comesBack.l0 k y0 y1 y2 y3 y4 y5 y6 y7) (impl_comesBack.l0 (k + 1) y0 y1 y2 y3 y4 y5 y6 y7)) ∧ (∀ y0 y1 y2 y3 y4 y5 y6 y7 y8 y9 y10 y11, LeO (impl_comesBack.l1 k y0 y1 y2 y3 y4 y5 y6 y7 y8 y9 y10 y11) (impl_comesBack.l1 (k + 1) y0 y1 y2 y3 y4 y5 y6 y7 y8 y9 y10 y11)) ∧ (∀ y0 y1 y2 y3 y4, LeO (impl_comesBack.l2 k y0 y1 y2 y3 y4) (impl_comesBack.l2 (k + 1) y0 y1 y2 y3 y4))
 | 0 => ⟨fun _ _ _ _ _ _ _ _ r h => by simp [impl_comesBack.l0] at h, fun _ _ _ _ _ _ _ _ _ _ _ _ r h => by simp [impl_comesBack.l1] at h, fun _ _ _ _ _ r h => by simp [impl_comesBack.l2] at h⟩
 | k + 1 => by
  obtain ⟨ih0, ih1, ih2⟩ := impl_comesBack.mono_l k
  refine ⟨?_, ?_, ?_⟩
  ·intro y0 y1 y2 y3 y4 y5 y6 y7
   unfold impl_comesBack.l0
   have im0 := @impl_tray_indices__impl_isBall.mono; have im1 := @slices_Contains_int_int.mono; have im2 := @slices_Index_int_int.mono; exact mo
  ·intro y0 y1 y2 y3 y4 y5 y6 y7 y8 y9 y10 y11
   unfold impl_comesBack.l1
   have im0 := @impl_tray_indices__impl_isBall.mono; have im1 := @slices_Contains_int_int.mono; have im2 := @slices_Index_int_int.mono; exact mo
  ·intro y0 y1 y2 y3 y4
   unfold impl_comesBack.l2
   have im0 := @impl_tray_indices__impl_isBall.mono; have im1 := @slices_Contains_int_int.mono; have im2 := @slices_Index_int_int.mono; exact mo
theorem impl_comesBack.mono : ∀ a0 a1 k, LeO (impl_comesBack.f k a0 a1) (impl_comesBack.f (k + 1) a0 a1) := by
 intro a0 a1 k
 obtain ⟨ih0, ih1, ih2⟩ := impl_comesBack.mono_l k
 unfold impl_comesBack.f
 have im0 := @impl_tray_indices__impl_isBall.mono; have im1 := @slices_Contains_int_int.mono; have im2 := @slices_Index_int_int.mono; exact mo
set_option maxHeartbeats 8000000 in
set_option maxRecDepth 100000 in
theorem impl_comesBack.calls (k : Nat) (a0 : ByteArray) (a1 : ByteArray) (r1 : List Int) (r2 : Bool) (w : World) (h : impl_comesBack.f k a0 a1 = some (r1, r2)) :
  Calls Tryz.prog 60 #[.string a0, .string a1] w fun e w' => ∃ v0_ : Value, e = .returned (.tuple #[v0_, .bool r2]) ∧ Kd.R (Kd.int .i64) 3 w' w.heap.size (fun _ => True) v0_ r1 ∧ Below w.heap.size w w' := by
 have hu93 := Tryz.underlying93
 have HB := am (Below.refl w.heap.size w)
 have H : ((impl_read.f a0).bind fun bt101 => ((impl_tray_indices__impl_isBall.f k bt101.1 bt101.2.1 bt101.2.2).bind fun t107 => ((slices_Clone_int.f t107).bind fun t110 => ((conv_bytes.f a1).bind fun t113 => (impl_comesBack.l0 k t107 t110 t113 (t113.length : Int) 0 bt101.1 bt101.2.1 bt101.2.2))))) = some (r1, r2) := h
 clear h
 replace H := Option.bind_eq_some_iff.mp H
 obtain ⟨⟨t101, t102, t103⟩, A30, H⟩ := H
 replace H : ((impl_tray_indices__impl_isBall.f k t101 t102 t103).bind fun t107 => ((slices_Clone_int.f t107).bind fun t110 => ((conv_bytes.f a1).bind fun t113 => (impl_comesBack.l0 k t107 t110 t113 (t113.length : Int) 0 t101 t102 t103)))) = some (r1, r2) := H
 have A3 := am A30
 clear A30
 replace H := Option.bind_eq_some_iff.mp H
 obtain ⟨t107, A40, H⟩ := H
 replace H : ((slices_Clone_int.f t107).bind fun t110 => ((conv_bytes.f a1).bind fun t113 => (impl_comesBack.l0 k t107 t110 t113 (t113.length : Int) 0 t101 t102 t103))) = some (r1, r2) := H
 have A4 := am A40
 clear A40
 replace H := Option.bind_eq_some_iff.mp H
 obtain ⟨t110, A50, H⟩ := H
 replace H : ((conv_bytes.f a1).bind fun t113 => (impl_comesBack.l0 k t107 t110 t113 (t113.length : Int) 0 t101 t102 t103)) = some (r1, r2) := H
 have A5 := am A50
 clear A50
 replace H := Option.bind_eq_some_iff.mp H
 obtain ⟨t113, A60, H⟩ := H
 replace H : (impl_comesBack.l0 k t107 t110 t113 (t113.length : Int) 0 t101 t102 t103) = some (r1, r2) := H
 have A6 := am A60
 clear A60
 have H' := am H
 clear H
 go_enter Tryz.func60, Tryz.ntmps60
 go_wp2_with (first | ((with_reducible refine gate_callee (f := 89) rfl ?_); refine goesL_ (some 18) rfl rfl Tryz.func89 (by kernel_rfl) rfl #[.string a0] rfl aq4 ?_; (with_reducible refine (impl_read.calls a0 t101 t102 t103 _ A3.out).mono ?_); rintro e w7 ⟨v104, rfl, ho0, hb⟩; refine ⟨_, rfl, ?_⟩; have n0_ := am (Kd.V_lower (Kd.V_mono (ok' := fun k_ => True) ho0 (fun k_ hk_ => trivial)) (below_size aq1)); have n1_ := am (below_step aq1 hb); clear HB; have HO105 := n0_; have HB := n1_; clear n0_ n1_; (try clear hb); (try clear hb2); (try clear hk); (try clear hi); (try clear ho0)) | ((with_reducible refine gate_dst (N := 6) rfl ?_); refine box_event ?hg (N := 6) ?hd (cs := #[.int .i64 0, .int .i64 0, .slice none 0 0]) (t := 93) ?hr ?_; (case hd => rfl); (case hg => rfl); (case hr => exact aq15); intro gb106 hg w8 hbox hb; have n0_ := am (Kd.V_below (Kd.V_elderB aq90 gb106 (Nat.le_of_eq hg.symm)) hb); have n1_ := am (below_step aq1 hb); have n2_ := am (hbox); have n3_ := am ((by rw [hg]; exact (below_size aq1) : w.heap.size ≤ gb106)); have n4_ := am ((by rw [hg]; exact (below_size aq1) : w.heap.size ≤ gb106)); clear HO105; clear HB; have HO105 := n0_; have HB := n1_; have BK106 := n2_; have GW106 := n3_; have GE106 := n4_; clear n0_ n1_ n2_ n3_ n4_; clear hb hbox hg; have hcz9_0 : w8.cell? ⟨gb106, 0, none⟩ = some (.int .i64 0) := (blk_cell BK106.out 0).trans rfl; have hcz9_1 : w8.cell? ⟨gb106, 1, none⟩ = some (.int .i64 0) := (blk_cell BK106.out 1).trans rfl; have hcz9_2 : w8.cell? ⟨gb106, 2, none⟩ = some (.slice none 0 0) := (blk_cell BK106.out 2).trans rfl; have hfz9_0 := blk_frozen BK106.out 0; have hfz9_1 := blk_frozen BK106.out 1; have hfz9_2 := blk_frozen BK106.out 2; obtain ⟨Ao10, co10, eo10⟩ := Kd.V_slice HO105.out; subst eo10) | ((with_reducible refine gate_callee (f := 106) rfl ?_); refine goesL_ (some 20) rfl rfl Tryz.func106 (by kernel_rfl) rfl #[.agg #[.int .i64 t101, .int .i64 t102, .slice Ao10 t103.length co10], .func (.func 107) #[] #[]] rfl aq4 ?_; (with_reducible refine (impl_tray_indices__impl_isBall.calls k t101 t102 _ _ t103  t107 _ ?side1 ?side2 A4.out).mono ?_); (case side1 => refine (Kd.V_reads' (e := 5) (base := w.heap.size) (ok := fun k_ => (True ∧ k_ ≠ gb106)) (n := t103.length) (c := co10) ?_).2.2; exact aq62); (case side2 => exact (Kd.V_reads' HO105.out).2.1); rintro e w11 ⟨v108, rfl, ho0, hb⟩; refine ⟨_, rfl, ?_⟩; have n0_ := am (Kd.V_elder' aq62 (Kd.R_base ho0) hb); have n1_ := am (Kd.R_lower ho0 (below_size aq11)); have n2_ := am (blk_below (g := gb106) (o := .cells #[.int .i64 t101, .int .i64 t102, .slice Ao10 t103.length co10] 93 (0, 0)) (by (with_reducible repeat (first | refine blk_drewN ?_ _ | refine blk_drew ?_ | refine blk_alloc ?_ _)); refine blk_put (cs := #[.int .i64 t101, .int .i64 t102, .slice none 0 0]) ?_ 2 _ rfl; (with_reducible repeat (first | refine blk_drewN ?_ _ | refine blk_drew ?_ | refine blk_alloc ?_ _)); refine blk_put (cs := #[.int .i64 t101, .int .i64 0, .slice none 0 0]) ?_ 1 _ rfl; (with_reducible repeat (first | refine blk_drewN ?_ _ | refine blk_drew ?_ | refine blk_alloc ?_ _)); refine blk_put (cs := #[.int .i64 0, .int .i64 0, .slice none 0 0]) ?_ 0 _ rfl; (with_reducible repeat (first | refine blk_drewN ?_ _ | refine blk_drew ?_ | refine blk_alloc ?_ _)); exact BK106.out) hb); have n3_ := am (below_step aq11 hb); clear HO105; clear BK106; clear HB; have HO105 := n0_; have HO109 := n1_; have BK106 := n2_; have HB := n3_; clear n0_ n1_ n2_ n3_; (try clear hb); (try clear hb2); (try clear hk); (try clear hi); (try clear ho0); obtain ⟨Ao12, co12, eo12⟩ := Kd.R_slice HO109.out; subst eo12) | ((with_reducible refine gate_callee (f := 82) rfl ?_); refine goesL_ (some 22) rfl rfl Tryz.func82 (by kernel_rfl) rfl #[.slice Ao12 t107.length co12] rfl aq4 ?_; (with_reducible refine (slices_Clone_int.calls _ _ t107 t110 _ ?side1 ?side2 A5.out).mono ?_); (case side1 => repeat (first | exact (Kd.R_reads' HO109.out).2.2 | (with_reducible refine Kd.C_alloc ?_ _) | (with_reducible refine Kd.C_drewN ?_ _) | (with_reducible refine Kd.C_drew ?_))); (case side2 => exact (Kd.R_reads' HO109.out).2.1); rintro e w13 ⟨v111, rfl, ho0, hb⟩; refine ⟨_, rfl, ?_⟩; have n0_ := am (Kd.V_elder' aq90 (Kd.R_base ho0) hb); have n1_ := am (Kd.R_elder' aq59 (Kd.R_base ho0) hb); have n2_ := am (Kd.R_lower (Kd.R_new' ho0 (Kd.R_lt aq59)) (below_size aq11)); have n3_ := am (blk_below (g := gb106) (o := .cells #[.int .i64 t101, .int .i64 t102, .slice Ao10 t103.length co10] 93 (0, 0)) aq24 hb); have n4_ := am (below_step aq11 hb); clear HO105; clear HO109; clear BK106; clear HB; have HO105 := n0_; have HO109 := n1_; have HO112 := n2_; have BK106 := n3_; have HB := n4_; clear n0_ n1_ n2_ n3_ n4_; (try clear hb); (try clear hb2); (try clear hk); (try clear hi); (try clear ho0)) | ((with_reducible refine gate_dst (N := 24) rfl ?_); refine conv_event rfl (N := 24) rfl 9 60 5 _ rfl a1 rfl Tryz.underlying9 Tryz.underlying60 Tryz.underlying5 t113 A6.out ?_; intro v114 w14 ho0 hb; have n0_ := am (Kd.V_below aq90 hb); have n1_ := am (Kd.R_below aq59 hb); have n2_ := am (Kd.R_below (by (with_reducible repeat (first | apply Kd.R_alloc | apply Kd.R_drewN | apply Kd.R_drew)); exact HO112.out) hb); have n3_ := am (Kd.V_lower (Kd.V_mono (ok' := fun k_ => some k_ ≠ (.slice Ao12 t107.length co12 : Value).ownBlock ∧ some k_ ≠ (v111 : Value).ownBlock ∧ k_ ≠ gb106) ho0 (fun k_ hk_ => ⟨(Kd.fresh' (Kd.R_lt aq59) k_ hk_), (Kd.fresh' (Kd.R_lt (by (with_reducible repeat (first | apply Kd.R_alloc | apply Kd.R_drewN | apply Kd.R_drew)); exact HO112.out)) k_ hk_), (Kd.freshB (g := gb106) (o := .cells #[.int .i64 t101, .int .i64 t102, .slice Ao10 t103.length co10] 93 (0, 0)) aq24 k_ hk_)⟩)) (below_size aq11)); have n4_ := am (blk_below (g := gb106) (o := .cells #[.int .i64 t101, .int .i64 t102, .slice Ao10 t103.length co10] 93 (0, 0)) aq24 hb); have n5_ := am (below_step aq11 hb); clear HO105; clear HO109; clear HO112; clear BK106; clear HB; have HO105 := n0_; have HO109 := n1_; have HO112 := n2_; have HO115 := n3_; have BK106 := n4_; have HB := n5_; clear n0_ n1_ n2_ n3_ n4_ n5_; (try clear hb); (try clear hb2); (try clear hk); (try clear hi); (try clear ho0); obtain ⟨Ao15, co15, eo15⟩ := Kd.V_slice HO115.out; subst eo15))
 go_loopg [26] k (fun kq v26 w' => ∃ (x8_1 : List Int) (x26_1 : Int) (x107000_1 : Int) (x107001_1 : Int) (x107002_1 : List Int) (u107002 : Value), v26 = .int .i64 x26_1 ∧ Aside0 (impl_comesBack.l0 kq t107 x8_1 t113 (t113.length : Int) x26_1 x107000_1 x107001_1 x107002_1 = some (r1, r2)) ∧ Aside0 (kq ≤ k) ∧ Aside0 (Kd.R (Kd.int .i64) 3 w' w.heap.size (fun k_ => some k_ ≠ (v111 : Value).ownBlock) (.slice Ao12 t107.length co12) t107) ∧ Aside0 (Kd.R (Kd.int .i64) 3 w' w.heap.size (fun k_ => some k_ ≠ ((.slice Ao12 t107.length co12) : Value).ownBlock) v111 x8_1) ∧ Aside0 (Kd.V (Kd.int .u8) 5 w' w.heap.size (fun k_ => some k_ ≠ ((.slice Ao12 t107.length co12) : Value).ownBlock ∧ some k_ ≠ (v111 : Value).ownBlock ∧ k_ ≠ gb106) (.slice Ao15 t113.length co15) t113) ∧ Aside0 (Kd.V (Kd.int .u8) 5 w' w.heap.size (fun k_ => some k_ ≠ ((.slice Ao12 t107.length co12) : Value).ownBlock ∧ some k_ ≠ (v111 : Value).ownBlock ∧ k_ ≠ gb106) u107002 x107002_1) ∧ Aside0 (w'.heap[gb106]? = some (.cells #[.int .i64 x107000_1, .int .i64 x107001_1, u107002] 93 (0, 0))) ∧ Aside0 (Below w.heap.size w w'))
 case atStart => exact ⟨(t110), (0), (t101), (t102), (t103), (.slice Ao10 t103.length co10), aq6, H', ⟨Nat.le_refl _⟩, ⟨by (with_reducible repeat (first | apply Kd.R_alloc | apply Kd.R_drewN | apply Kd.R_drew)); exact Kd.R_mono HO109.out (fun _ hk => hk.2)⟩, ⟨by (with_reducible repeat (first | apply Kd.R_alloc | apply Kd.R_drewN | apply Kd.R_drew)); exact Kd.R_mono HO112.out (fun _ hk => hk.2)⟩, ⟨by (with_reducible repeat (first | apply Kd.V_alloc | apply Kd.V_drewN | apply Kd.V_drew)); exact HO115.out⟩, ⟨by (with_reducible repeat (first | apply Kd.V_alloc | apply Kd.V_drewN | apply Kd.V_drew)); exact Kd.V_mono HO105.out (fun _ hk => ⟨hk.1.2, ⟨hk.2, hk.1.1.2⟩⟩)⟩, ⟨aq24⟩, ⟨aq11⟩⟩
 case round =>
  clear H'
  try clear c1
  try clear p2
  try clear c6
  try clear c8
  try clear c10
  try clear hcz9_0
  try clear hcz9_1
  try clear hcz9_2
  try clear hfz9_0
  try clear hfz9_1
  try clear hfz9_2
  obtain ⟨x8_1, x26_1, x107000_1, x107001_1, x107002_1, u107002, rfl, HA, HK1, HO_7, HO_8, HO_24, HO_107002, BK106, HB⟩ := hrel
  cases gk with
  | zero => exact absurd HA.out (by simp [impl_comesBack.l0])
  | succ k1 =>
   have H := HA.out
   clear HA
   simp only [impl_comesBack.l0] at H
   by_cases c16 : x26_1 < (t113.length : Int)
   ·rw [if_pos c16] at H
    have c16b0 : decide (x26_1 < (t113.length : Int)) = true := decide_eq_true c16
    clear c16
    by_cases c17 : 0 ≤ x26_1
    ·rw [if_pos c17] at H
     have c17b0 : decide (0 ≤ x26_1) = true := decide_eq_true c17
     clear c17
     by_cases c18 : x26_1 < (t113.length : Int)
     ·rw [if_pos c18] at H
      have c18b0 : decide (x26_1 < (t113.length : Int)) = true := decide_eq_true c18
      clear c18
      replace H := Option.bind_eq_some_iff.mp H
      obtain ⟨t117, A190, H⟩ := H
      replace H : (impl_comesBack.l1 k1 t107 x8_1 (rd t113 x26_1) t117 t113 (t113.length : Int) x26_1 (x8_1.length : Int) 0 x107000_1 x107001_1 x107002_1) = some (r1, r2) := H
      have A19 := am A190
      clear A190
      have H' := am H
      clear H
      have p116 : 0 ≤ (x26_1 : Int) := of_decide_eq_true aq5
      have q116 : x26_1 < (t113.length : Int) := of_decide_eq_true aq5
      obtain ⟨ad116, e116, hx116_0⟩ := Kd.at_int (Kd.V_reads' HO_24.out).2.2 x26_1 p116 q116
      cases e116
      replace p116 := eq_true p116
      replace q116 := eq_true q116
      have hcz20_0 : wr.cell? ⟨gb106, 0, none⟩ = some (.int .i64 x107000_1) := (blk_cell BK106.out 0).trans rfl
      have hcz20_1 : wr.cell? ⟨gb106, 1, none⟩ = some (.int .i64 x107001_1) := (blk_cell BK106.out 1).trans rfl
      have hcz20_2 : wr.cell? ⟨gb106, 2, none⟩ = some (u107002) := (blk_cell BK106.out 2).trans rfl
      have hfz20_0 := blk_frozen BK106.out 0
      have hfz20_1 := blk_frozen BK106.out 1
      have hfz20_2 := blk_frozen BK106.out 2
      obtain ⟨Ao21, co21, eo21⟩ := Kd.V_slice HO_107002.out
      subst eo21
      go_wp2_with (first | ((with_reducible refine gate_callee (f := 108) rfl ?_); refine goesL_ (some 32) rfl rfl Tryz.func108 (by kernel_rfl) rfl #[.agg #[.int .i64 x107000_1, .int .i64 x107001_1, .slice Ao21 x107002_1.length co21], .int .u8 (rd t113 x26_1)] rfl aq4 ?_; (with_reducible refine (impl_slideZ.calls x107000_1 x107001_1 _ _ x107002_1 (rd t113 x26_1) t117 _ ?side1 ?side2 A19.out).mono ?_); (case side1 => exact aq105); (case side2 => exact (Kd.V_reads' HO_107002.out).2.1); rintro e w22 ⟨bm, rfl, hmp_, hnd_, hb⟩; have MP := am hmp_; have ND := am hnd_; clear hmp_ hnd_; refine ⟨_, rfl, ?_⟩; have n0_ := am (Kd.R_below aq48 hb); have n1_ := am (Kd.R_below aq13 hb); have n2_ := am (Kd.V_below aq72 hb); have n3_ := am (Kd.V_below aq70 hb); have n4_ := am (blk_below (g := gb106) (o := .cells #[.int .i64 x107000_1, .int .i64 x107001_1, .slice Ao21 x107002_1.length co21] 93 (0, 0)) aq24 hb); have n5_ := am (below_step aq11 hb); clear HO_7; clear HO_8; clear HO_24; clear HO_107002; clear BK106; clear HB; have HO_7 := n0_; have HO_8 := n1_; have HO_24 := n2_; have HO_107002 := n3_; have BK106 := n4_; have HB := n5_; clear n0_ n1_ n2_ n3_ n4_ n5_; (try clear hb); (try clear hb2); (try clear hk); (try clear hi); obtain ⟨Ao23, co23, eo23⟩ := Kd.R_slice HO_8.out; subst eo23))
      go_loopg [35] k1 (fun kq v35 w' => ∃ (x8_2 : List Int) (x35_2 : Int), v35 = .int .i64 x35_2 ∧ Aside0 (impl_comesBack.l1 kq t107 x8_2 (rd t113 x26_1) t117 t113 (t113.length : Int) x26_1 (x8_1.length : Int) x35_2 x107000_1 x107001_1 x107002_1 = some (r1, r2)) ∧ Aside0 (kq ≤ k1) ∧ Aside0 (Kd.R (Kd.int .i64) 3 w' w.heap.size (fun k_ => some k_ ≠ ((.slice Ao23 x8_1.length co23) : Value).ownBlock) (.slice Ao12 t107.length co12) t107) ∧ Aside0 (Kd.R (Kd.int .i64) 3 w' w.heap.size (fun k_ => some k_ ≠ ((.slice Ao12 t107.length co12) : Value).ownBlock) (.slice Ao23 x8_1.length co23) x8_2) ∧ Aside0 (Kd.V (Kd.int .u8) 5 w' w.heap.size (fun k_ => some k_ ≠ ((.slice Ao12 t107.length co12) : Value).ownBlock ∧ some k_ ≠ ((.slice Ao23 x8_1.length co23) : Value).ownBlock ∧ k_ ≠ gb106) (.slice (some ad116) t113.length co15) t113) ∧ Aside0 (Kd.V (Kd.int .u8) 5 w' w.heap.size (fun k_ => some k_ ≠ ((.slice Ao12 t107.length co12) : Value).ownBlock ∧ some k_ ≠ ((.slice Ao23 x8_1.length co23) : Value).ownBlock ∧ k_ ≠ gb106) (.slice Ao21 x107002_1.length co21) x107002_1) ∧ Aside0 (w'.heap[gb106]? = some (.cells #[.int .i64 x107000_1, .int .i64 x107001_1, (.slice Ao21 x107002_1.length co21)] 93 (0, 0))) ∧ Aside0 (Below w.heap.size w w') ∧ Aside0 (MapAt w' bm t117))
      case atStart => exact ⟨(x8_1), (0), aq6, H', ⟨Nat.le_refl _⟩, ⟨aq48⟩, ⟨aq13⟩, ⟨aq72⟩, ⟨aq70⟩, ⟨aq24⟩, ⟨aq11⟩, MP⟩
      case round =>
       clear H'
       try clear c1
       try clear p1
       try clear q1
       try clear hx1
       try clear p2
       try clear c6
       try clear c8
       try clear c10
       try clear p11
       try clear q11
       try clear hx11
       try clear c16
       try clear c16b0
       try clear c17
       try clear c17b0
       try clear c18
       try clear c18b0
       try clear hcz20_0
       try clear hcz20_1
       try clear hcz20_2
       try clear hcz9_0
       try clear hcz9_1
       try clear hcz9_2
       try clear hfz20_0
       try clear hfz20_1
       try clear hfz20_2
       try clear hfz9_0
       try clear hfz9_1
       try clear hfz9_2
       try clear hx116_0
       try clear p116
       try clear p2
       try clear q116
       obtain ⟨x8_2, x35_2, rfl, HA, HK2, HO_7, HO_8, HO_24, HO_107002, BK106, HB, MP⟩ := hrel
       have hl8_2 := (Kd.R_reads' HO_8.out).1
       rw [hl8_2] at HO_8
       (try simp only [hl8_2])
       (try simp only [hl8_2] at BK106)
       (try simp only [hl8_2] at HO_7)
       (try simp only [hl8_2] at HO_24)
       (try simp only [hl8_2] at HO_107002)
       cases gk with
       | zero => exact absurd HA.out (by simp [impl_comesBack.l1])
       | succ k2 =>
        have H := HA.out
        clear HA
        simp only [impl_comesBack.l1] at H
        by_cases c24 : x35_2 < (x8_1.length : Int)
        ·rw [if_pos c24] at H
         have c24b0 : decide (x35_2 < (x8_1.length : Int)) = true := decide_eq_true c24
         clear c24
         by_cases c25 : 0 ≤ x35_2
         ·rw [if_pos c25] at H
          have c25b0 : decide (0 ≤ x35_2) = true := decide_eq_true c25
          clear c25
          by_cases c26 : x35_2 < (x8_2.length : Int)
          ·rw [if_pos c26] at H
           have c26b0 : decide (x35_2 < (x8_2.length : Int)) = true := decide_eq_true c26
           clear c26
           by_cases cg_ : 0 ≤ (rd x8_2 x35_2) ∧ (rd x8_2 x35_2) < 65536
           case neg => rw [if_neg cg_] at H; exact absurd H (by simp)
           rw [if_pos cg_] at H
           have CG_ := am cg_
           clear cg_
           obtain ⟨y119, hy119⟩ : ∃ y_ : List Int, y_ = (x8_2.set (x35_2 : Int).toNat (lookZ (rd x8_2 x35_2) t117)) := ⟨_, rfl⟩
           replace H : (impl_comesBack.l1 k2 t107 y119 (rd t113 x26_1) t117 t113 (t113.length : Int) x26_1 (x8_1.length : Int) (wrap64 (x35_2 + 1)) x107000_1 x107001_1 x107002_1) = some (r1, r2) := by first | (rw [hy119]; with_reducible exact H) | (have H2_ := (Option.bind_some _ _).symm.trans H; rw [hy119]; with_reducible exact H2_) | (have H2_ := (Option.bind_some _ _).symm.trans H; with_reducible exact H2_) | with_reducible exact H | (rw [hy119]; exact H) | exact H
           have Ny119 := am hy119
           clear hy119
           have H' := am H
           clear H
           have p118 : 0 ≤ (x35_2 : Int) := of_decide_eq_true aq5
           have q118 : x35_2 < (x8_2.length : Int) := of_decide_eq_true aq5
           obtain ⟨ad118, e118, hx118_0⟩ := Kd.at_int (Kd.R_reads' HO_8.out).2.2 x35_2 p118 q118
           cases e118
           replace p118 := eq_true p118
           replace q118 := eq_true q118
           have p27 : 0 ≤ (x35_2 : Int) := of_decide_eq_true aq5
           have q27 : (x35_2 : Int) < ((x8_2.length : Int) : Int) := of_decide_eq_true aq5
           obtain ⟨go27, co27, eo27, gb27, gl27, cl27, HG27⟩ := Kd.R_form HO_8.out (by omega)
           (first | cases eo27 | (injection eo27 with ea_ en_ ec_; (first | subst ea_ | (injection ea_ with ea_; subst ea_)); subst ec_; clear en_))
           have GB27 := am gb27
           have GG27 := am HG27
           clear gb27 gl27 HG27
           (first | simp only [add_plain] at hx118_0 | skip)
           obtain ⟨hx27_0, hf27_0⟩ := Kd.R_celln 0 HO_8.out (x35_2 : Int) p27 q27
           replace p27 := eq_true p27
           replace q27 := eq_true q27
           have HP28 := Kd.R_putg HO_8.out (x35_2 : Int) (lookZ (rd x8_2 x35_2) t117)
           go_wp2_with (first | (at_lookup; obtain ⟨nz_, hnz_, own_⟩ := MP.out; refine wpList_lookup_own_int _ rfl _ _ 107 rfl 3 3 .i64 int_keys Tryz.underlying107 Tryz.underlying3 (Tryz.zeroValue3 _) bm nz_ (mapOf t117) rfl own_ _ _ rfl (Go.Maps.keyOf_int_mk Tryz.underlying3 (WalkArith.wf_i64 (by have := CG_.out; omega))) ?_; intro c_ hat_ hwc_; clear hwc_ hnz_ own_; obtain rfl := lookZ_of ND.out CG_.out.1 hat_; clear hat_) | ((with_reducible refine gate_store (t := 3) (p := 45) rfl ?_); refine store_event (t := 3) (p := 45) (v := ?vo_w29) (w1 := (wr.setCell ⟨go27, (x35_2 : Int).toNat, none⟩ (.int .i64 (lookZ (rd x8_2 x35_2) t117)))) ?hg ?ho ?hn ?hr ?_; (case ho => rfl); (case hg => rfl); (case hn => rfl); (case hr => exact aq15); intro w29 hw; have hg : wr.grownBy w29 (some go27) := (by rw [hw]; exact HP28.2); have hp_ : Kd.R (Kd.int .i64) 3 w29 w.heap.size (fun k_ => some k_ ≠ (.slice Ao12 t107.length co12 : Value).ownBlock) (.slice (some ⟨go27, 0, none⟩) x8_2.length co23) y119 := (by rw [hw, Ny119.out]; exact HP28.1); clear HP28; have n0_ := am (Kd.R_after (v := (.slice (some ⟨go27, 0, none⟩) x8_2.length co23)) (v1 := (.slice (some ⟨go27, 0, none⟩) x8_2.length co23)) (ok := (fun _ => True)) (by (with_reducible repeat (first | apply Kd.R_alloc | apply Kd.R_drewN | apply Kd.R_drew)); exact Kd.R_mono HO_7.out (fun _ hk => ⟨trivial, hk⟩)) hg (.inl rfl)); have n1_ := am (hp_); have n2_ := am (Kd.V_afterv (v := (.slice (some ⟨go27, 0, none⟩) x8_2.length co23)) (v1 := (.slice (some ⟨go27, 0, none⟩) x8_2.length co23)) (ok := (fun k_ => some k_ ≠ (.slice Ao12 t107.length co12 : Value).ownBlock ∧ k_ ≠ gb106)) (by (with_reducible repeat (first | apply Kd.V_alloc | apply Kd.V_drewN | apply Kd.V_drew)); exact Kd.V_mono HO_24.out (fun _ hk => ⟨⟨hk.1, hk.2.2⟩, hk.2.1⟩)) hg (.inl rfl)); have n3_ := am (Kd.V_afterv (v := (.slice (some ⟨go27, 0, none⟩) x8_2.length co23)) (v1 := (.slice (some ⟨go27, 0, none⟩) x8_2.length co23)) (ok := (fun k_ => some k_ ≠ (.slice Ao12 t107.length co12 : Value).ownBlock ∧ k_ ≠ gb106)) (by (with_reducible repeat (first | apply Kd.V_alloc | apply Kd.V_drewN | apply Kd.V_drew)); exact Kd.V_mono HO_107002.out (fun _ hk => ⟨⟨hk.1, hk.2.2⟩, hk.2.1⟩)) hg (.inl rfl)); have n4_ := am (blk_grown (g := gb106) (o := .cells #[.int .i64 x107000_1, .int .i64 x107001_1, .slice Ao21 x107002_1.length co21] 93 (0, 0)) aq24 hg (Kd.R_ne HO_8.out BK106.out (by decide))); have n5_ := am ((by rw [hw]; exact below_set (HB.out) GB27.out : Below w.heap.size w w29)); clear HO_7; clear HO_8; clear HO_24; clear HO_107002; clear BK106; clear HB; have HO_7 := n0_; have HO_8 := n1_; have HO_24 := n2_; have HO_107002 := n3_; have BK106 := n4_; have HB := n5_; clear n0_ n1_ n2_ n3_ n4_ n5_; have np_ := am (MP.out.kept hg (by intro e_; injection e_ with e_; exact MP.out.ne GG27.out e_)); clear MP; have MP := np_; clear np_; clear hg hw hp_))
           (try simp only [← hl8_2])
           go_roundg k2
           case measure => have := HK1.out; have := HK2.out; omega
           case rel => exact ⟨(y119), (wrap64 (x35_2 + 1)), aq6, H', ⟨aq45⟩, ⟨by (try simp only [hl8_2]); (with_reducible repeat (first | apply Kd.R_alloc | apply Kd.R_drewN | apply Kd.R_drew)); exact Kd.R_mono HO_7.out (fun _ hk => hk.2)⟩, ⟨by (try simp only [hl8_2]); (with_reducible repeat (first | apply Kd.R_alloc | apply Kd.R_drewN | apply Kd.R_drew)); exact HO_8.out⟩, ⟨by (try simp only [hl8_2]); (with_reducible repeat (first | apply Kd.V_alloc | apply Kd.V_drewN | apply Kd.V_drew)); exact Kd.V_mono HO_24.out (fun _ hk => ⟨hk.1.1, ⟨hk.2, hk.1.2⟩⟩)⟩, ⟨by (try simp only [hl8_2]); (with_reducible repeat (first | apply Kd.V_alloc | apply Kd.V_drewN | apply Kd.V_drew)); exact Kd.V_mono HO_107002.out (fun _ hk => ⟨hk.1.1, ⟨hk.2, hk.1.2⟩⟩)⟩, ⟨by (try simp only [hl8_2]); (with_reducible repeat (first | refine blk_drewN ?_ _ | refine blk_drew ?_ | refine blk_alloc ?_ _)); exact BK106.out⟩, ⟨aq11⟩, MP⟩
          ·rw [if_neg c26] at H
           exact absurd H (by simp)
         ·rw [if_neg c25] at H
          exact absurd H (by simp)
        ·rw [if_neg c24] at H
         have c24b0 : decide (x35_2 < (x8_1.length : Int)) = false := decide_eq_false c24
         have c24b1_ := c24b0
         (try rw [hl8_2] at c24b1_)
         clear c24
         replace H := Option.bind_eq_some_iff.mp H
         obtain ⟨⟨t120, t121, t122⟩, A300, H⟩ := H
         replace H : (impl_comesBack.l0 k2 t107 x8_2 t113 (t113.length : Int) (wrap64 (x26_1 + 1)) t120 t121 t122) = some (r1, r2) := H
         have A30 := am A300
         clear A300
         have H' := am H
         clear H
         have hcz31_0 : wr.cell? ⟨gb106, 0, none⟩ = some (.int .i64 x107000_1) := (blk_cell BK106.out 0).trans rfl
         have hcz31_1 : wr.cell? ⟨gb106, 1, none⟩ = some (.int .i64 x107001_1) := (blk_cell BK106.out 1).trans rfl
         have hcz31_2 : wr.cell? ⟨gb106, 2, none⟩ = some (.slice Ao21 x107002_1.length co21) := (blk_cell BK106.out 2).trans rfl
         have hfz31_0 := blk_frozen BK106.out 0
         have hfz31_1 := blk_frozen BK106.out 1
         have hfz31_2 := blk_frozen BK106.out 2
         go_wp2_with (first | ((with_reducible refine gate_callee (f := 109) rfl ?_); refine goesL_ (some 49) rfl rfl Tryz.func109 (by kernel_rfl) rfl #[.agg #[.int .i64 x107000_1, .int .i64 x107001_1, .slice Ao21 x107002_1.length co21], .int .u8 (rd t113 x26_1)] rfl aq4 ?_; (with_reducible refine (impl_tray_tilted.calls x107000_1 x107001_1 _ _ x107002_1 (rd t113 x26_1) t120 t121 t122 _ ?side1 ?side2 A30.out).mono ?_); (case side1 => exact aq105); (case side2 => exact (Kd.V_reads' HO_107002.out).2.1); rintro e w32 ⟨v123, rfl, ho0, hb⟩; refine ⟨_, rfl, ?_⟩; have n0_ := am (Kd.R_below aq48 hb); have n1_ := am (Kd.R_below aq13 hb); have n2_ := am (Kd.V_elder' aq72 (Kd.R_base ho0) hb); have n3_ := am (Kd.V_elder' aq70 (Kd.R_base ho0) hb); have n4_ := am (Kd.R_lower ho0 (below_size aq11)); have n5_ := am (blk_below (g := gb106) (o := .cells #[.int .i64 x107000_1, .int .i64 x107001_1, .slice Ao21 x107002_1.length co21] 93 (0, 0)) aq24 hb); have n6_ := am (below_step aq11 hb); clear HO_7; clear HO_8; clear HO_24; clear HO_107002; clear BK106; clear HB; have HO_7 := n0_; have HO_8 := n1_; have HO_24 := n2_; have HO_107002 := n3_; have HO124 := n4_; have BK106 := n5_; have HB := n6_; clear n0_ n1_ n2_ n3_ n4_ n5_ n6_; (try clear hb); (try clear hb2); (try clear hk); (try clear hi); (try clear ho0); have hcz33_0 : w32.cell? ⟨gb106, 0, none⟩ = some (.int .i64 x107000_1) := (blk_cell BK106.out 0).trans rfl; have hcz33_1 : w32.cell? ⟨gb106, 1, none⟩ = some (.int .i64 x107001_1) := (blk_cell BK106.out 1).trans rfl; have hcz33_2 : w32.cell? ⟨gb106, 2, none⟩ = some (.slice Ao21 x107002_1.length co21) := (blk_cell BK106.out 2).trans rfl; have hfz33_0 := blk_frozen BK106.out 0; have hfz33_1 := blk_frozen BK106.out 1; have hfz33_2 := blk_frozen BK106.out 2; obtain ⟨Ao34, co34, eo34⟩ := Kd.R_slice HO124.out; subst eo34))
         (try simp only [← hl8_2])
         go_roundg k2
         case measure => have := HK1.out; have := HK2.out; omega
         case rel => exact ⟨(x8_2), (wrap64 (x26_1 + 1)), (t120), (t121), (t122), (.slice Ao34 t122.length co34), aq6, H', ⟨aq45⟩, ⟨by (try simp only [hl8_2]); (with_reducible repeat (first | apply Kd.R_alloc | apply Kd.R_drewN | apply Kd.R_drew)); exact Kd.R_mono (Kd.R_far (p := ⟨gb106, 2, none⟩) (Kd.R_far (p := ⟨gb106, 1, none⟩) (Kd.R_far (p := ⟨gb106, 0, none⟩) (Kd.R_types HO_7.out BK106.out (by decide)) (fun _ hk => hk.2) (.int .i64 t120)) (fun _ hk => hk.2) (.int .i64 t121)) (fun _ hk => hk.2) (.slice Ao34 t122.length co34)) (fun _ hk => hk.1)⟩, ⟨by (try simp only [hl8_2]); (with_reducible repeat (first | apply Kd.R_alloc | apply Kd.R_drewN | apply Kd.R_drew)); exact Kd.R_mono (Kd.R_far (p := ⟨gb106, 2, none⟩) (Kd.R_far (p := ⟨gb106, 1, none⟩) (Kd.R_far (p := ⟨gb106, 0, none⟩) (Kd.R_types HO_8.out BK106.out (by decide)) (fun _ hk => hk.2) (.int .i64 t120)) (fun _ hk => hk.2) (.int .i64 t121)) (fun _ hk => hk.2) (.slice Ao34 t122.length co34)) (fun _ hk => hk.1)⟩, ⟨by (try simp only [hl8_2]); (with_reducible repeat (first | apply Kd.V_alloc | apply Kd.V_drewN | apply Kd.V_drew)); exact Kd.V_mono (Kd.V_far (p := ⟨gb106, 2, none⟩) (Kd.V_far (p := ⟨gb106, 1, none⟩) (Kd.V_far (p := ⟨gb106, 0, none⟩) (Kd.V_mono HO_24.out (fun k_ hk => (⟨hk, hk.1.2.2⟩ : _ ∧ k_ ≠ gb106))) (fun _ hk => hk.2) (.int .i64 t120)) (fun _ hk => hk.2) (.int .i64 t121)) (fun _ hk => hk.2) (.slice Ao34 t122.length co34)) (fun _ hk => ⟨hk.1.1.1, ⟨hk.1.1.2.1, hk.1.1.2.2⟩⟩)⟩, ⟨Kd.R_V (by (try simp only [hl8_2]); (with_reducible repeat (first | apply Kd.R_alloc | apply Kd.R_drewN | apply Kd.R_drew)); exact Kd.R_mono (Kd.R_far (p := ⟨gb106, 2, none⟩) (Kd.R_far (p := ⟨gb106, 1, none⟩) (Kd.R_far (p := ⟨gb106, 0, none⟩) (Kd.R_types (Kd.R_types (Kd.R_apart' (Kd.R_apart' HO124.out (Kd.R_typed HO_7.out) (by decide)) (Kd.R_typed HO_8.out) (by decide)) BK106.out (by decide)) BK106.out (by decide)) (fun _ hk => hk.2) (.int .i64 t120)) (fun _ hk => hk.2) (.int .i64 t121)) (fun _ hk => hk.2) (.slice Ao34 t122.length co34)) (fun _ hk => ⟨hk.1.1.1.2, ⟨hk.1.1.2, hk.1.2⟩⟩))⟩, ⟨by (try simp only [hl8_2]); (with_reducible repeat (first | refine blk_drewN ?_ _ | refine blk_drew ?_ | refine blk_alloc ?_ _)); refine blk_put (cs := #[.int .i64 t120, .int .i64 t121, .slice Ao21 x107002_1.length co21]) ?_ 2 _ rfl; (with_reducible repeat (first | refine blk_drewN ?_ _ | refine blk_drew ?_ | refine blk_alloc ?_ _)); refine blk_put (cs := #[.int .i64 t120, .int .i64 x107001_1, .slice Ao21 x107002_1.length co21]) ?_ 1 _ rfl; (with_reducible repeat (first | refine blk_drewN ?_ _ | refine blk_drew ?_ | refine blk_alloc ?_ _)); refine blk_put (cs := #[.int .i64 x107000_1, .int .i64 x107001_1, .slice Ao21 x107002_1.length co21]) ?_ 0 _ rfl; (with_reducible repeat (first | refine blk_drewN ?_ _ | refine blk_drew ?_ | refine blk_alloc ?_ _)); exact BK106.out⟩, ⟨aq11⟩⟩
     ·rw [if_neg c18] at H
      exact absurd H (by simp)
    ·rw [if_neg c17] at H
     exact absurd H (by simp)
   ·rw [if_neg c16] at H
    have c16b0 : decide (x26_1 < (t113.length : Int)) = false := decide_eq_false c16
    clear c16
    obtain ⟨y125, hy125⟩ : ∃ y_ : List Int, y_ = (([] : List Int)) := ⟨_, rfl⟩
    replace H : (impl_comesBack.l2 k1 t107 y125 x8_1 (x8_1.length : Int) 0) = some (r1, r2) := by first | (rw [hy125]; with_reducible exact H) | (have H2_ := (Option.bind_some _ _).symm.trans H; rw [hy125]; with_reducible exact H2_) | (have H2_ := (Option.bind_some _ _).symm.trans H; with_reducible exact H2_) | with_reducible exact H | (rw [hy125]; exact H) | exact H
    have Ny125 := am hy125
    clear hy125
    have H' := am H
    clear H
    go_wp2_with (first | ((with_reducible refine gate_dst (N := 51) rfl ?_); refine Kd.R_lit (Kd.int .i64) _ 3 ?hg (N := 51) ?hd (xs := ([] : List Int)) (inner := []) (ok := fun _ => True) (okp := fun _ => True) ?hr ?hp (fun _ hk => hk) trivial (Below.refl _ _) (Nat.le_refl _) (by simp) ?_; (case hd => rfl); (case hg => rfl); (case hr => exact aq15); (case hp => exact aq117); intro v126 w35 ho36 hb hg_ hnew_; clear hg_ hnew_; (first | rw [← Ny125.out] at ho36 | (simp only [Int.reduceToNat] at ho36; rw [← Ny125.out] at ho36)); have n0_ := am (Kd.R_elder' aq48 (Kd.R_base ho36) hb); have n1_ := am (Kd.R_elder' aq13 (Kd.R_base ho36) hb); have n2_ := am (Kd.V_elder' aq72 (Kd.R_base ho36) hb); have n3_ := am (Kd.V_elder' aq70 (Kd.R_base ho36) hb); have n4_ := am (Kd.R_lower (Kd.R_new' (Kd.R_new' ho36 (Kd.R_lt aq48)) (Kd.R_lt aq13)) (below_size aq11)); have n5_ := am (blk_below (g := gb106) (o := .cells #[.int .i64 x107000_1, .int .i64 x107001_1, u107002] 93 (0, 0)) aq24 hb); have n6_ := am (below_step aq11 hb); clear HO_7; clear HO_8; clear HO_24; clear HO_107002; clear BK106; clear HB; have HO_7 := n0_; have HO_8 := n1_; have HO_24 := n2_; have HO_107002 := n3_; have HO127 := n4_; have BK106 := n5_; have HB := n6_; clear n0_ n1_ n2_ n3_ n4_ n5_ n6_; clear hb ho36; obtain ⟨Ao37, co37, eo37⟩ := Kd.R_slice HO_8.out; subst eo37))
    go_loopg [14, 54] k1 (fun kq v14 v54 w' => ∃ (x14_2 : List Int) (x54_2 : Int), v54 = .int .i64 x54_2 ∧ Aside0 (impl_comesBack.l2 kq t107 x14_2 x8_1 (x8_1.length : Int) x54_2 = some (r1, r2)) ∧ Aside0 (kq ≤ k1) ∧ Aside0 (Kd.R (Kd.int .i64) 3 w' w.heap.size (fun k_ => some k_ ≠ (v14 : Value).ownBlock ∧ some k_ ≠ ((.slice Ao37 x8_1.length co37) : Value).ownBlock) (.slice Ao12 t107.length co12) t107) ∧ Aside0 (Kd.R (Kd.int .i64) 3 w' w.heap.size (fun k_ => some k_ ≠ ((.slice Ao12 t107.length co12) : Value).ownBlock ∧ some k_ ≠ ((.slice Ao37 x8_1.length co37) : Value).ownBlock) v14 x14_2) ∧ Aside0 (Kd.R (Kd.int .i64) 3 w' w.heap.size (fun k_ => some k_ ≠ ((.slice Ao12 t107.length co12) : Value).ownBlock ∧ some k_ ≠ (v14 : Value).ownBlock) (.slice Ao37 x8_1.length co37) x8_1) ∧ Aside0 (Kd.V (Kd.int .u8) 5 w' w.heap.size (fun k_ => some k_ ≠ ((.slice Ao12 t107.length co12) : Value).ownBlock ∧ some k_ ≠ (v14 : Value).ownBlock ∧ some k_ ≠ ((.slice Ao37 x8_1.length co37) : Value).ownBlock ∧ k_ ≠ gb106) u107002 x107002_1) ∧ Aside0 (w'.heap[gb106]? = some (.cells #[.int .i64 x107000_1, .int .i64 x107001_1, u107002] 93 (0, 0))) ∧ Aside0 (Below w.heap.size w w'))
    case atStart => exact ⟨(y125), (0), aq6, H', ⟨Nat.le_refl _⟩, ⟨aq82⟩, ⟨by (with_reducible repeat (first | apply Kd.R_alloc | apply Kd.R_drewN | apply Kd.R_drew)); exact Kd.R_mono HO127.out (fun _ hk => ⟨hk.1.2, hk.2⟩)⟩, ⟨aq13⟩, ⟨aq106⟩, ⟨aq24⟩, ⟨aq11⟩⟩
    case round =>
     clear H'
     try clear c1
     try clear p1
     try clear q1
     try clear hx1
     try clear c2
     try clear p2
     try clear q2
     try clear hx2
     try clear hf2
     try clear c6
     try clear p6
     try clear c8
     try clear c10
     try clear p11
     try clear q11
     try clear hx11
     try clear c16
     try clear c16b0
     try clear c17
     try clear c17b0
     try clear c18
     try clear c18b0
     try clear c24
     try clear c24b0
     try clear c25
     try clear c25b0
     try clear c26
     try clear c26b0
     try clear p27
     try clear q27
     try clear hx27
     try clear hf27
     try clear hcz20_0
     try clear hcz20_1
     try clear hcz20_2
     try clear hcz31_0
     try clear hcz31_1
     try clear hcz31_2
     try clear hcz33_0
     try clear hcz33_1
     try clear hcz33_2
     try clear hcz9_0
     try clear hcz9_1
     try clear hcz9_2
     try clear hfz20_0
     try clear hfz20_1
     try clear hfz20_2
     try clear hfz31_0
     try clear hfz31_1
     try clear hfz31_2
     try clear hfz33_0
     try clear hfz33_1
     try clear hfz33_2
     try clear hfz9_0
     try clear hfz9_1
     try clear hfz9_2
     try clear hx116_0
     try clear hx118_0
     try clear hx27_0
     try clear p1
     try clear p11
     try clear p116
     try clear p118
     try clear p2
     try clear p27
     try clear q1
     try clear q11
     try clear q116
     try clear q118
     try clear q27
     obtain ⟨x14_2, x54_2, rfl, HA, HK2, HO_7, HO_14, HO_52, HO_107002, BK106, HB⟩ := hrel
     cases gk with
     | zero => exact absurd HA.out (by simp [impl_comesBack.l2])
     | succ k2 =>
      have H := HA.out
      clear HA
      simp only [impl_comesBack.l2] at H
      by_cases c38 : x54_2 < (x8_1.length : Int)
      ·rw [if_pos c38] at H
       have c38b0 : decide (x54_2 < (x8_1.length : Int)) = true := decide_eq_true c38
       clear c38
       by_cases c39 : 0 ≤ x54_2
       ·rw [if_pos c39] at H
        have c39b0 : decide (0 ≤ x54_2) = true := decide_eq_true c39
        clear c39
        by_cases c40 : x54_2 < (x8_1.length : Int)
        ·rw [if_pos c40] at H
         have c40b0 : decide (x54_2 < (x8_1.length : Int)) = true := decide_eq_true c40
         clear c40
         replace H := Option.bind_eq_some_iff.mp H
         obtain ⟨t129, A410, H⟩ := H
         replace H : (if x14_2.length < 17592186044416 then (impl_comesBack.l2 k2 t107 (x14_2 ++ [t129]) x8_1 (x8_1.length : Int) (wrap64 (x54_2 + 1))) else (none)) = some (r1, r2) := H
         have A41 := am A410
         clear A410
         by_cases c42 : x14_2.length < 17592186044416
         ·rw [if_pos c42] at H
          have LMc42 := am c42
          clear c42
          obtain ⟨y130, hy130⟩ : ∃ y_ : List Int, y_ = (x14_2 ++ [t129]) := ⟨_, rfl⟩
          replace H : (impl_comesBack.l2 k2 t107 y130 x8_1 (x8_1.length : Int) (wrap64 (x54_2 + 1))) = some (r1, r2) := by first | (rw [hy130]; with_reducible exact H) | (have H2_ := (Option.bind_some _ _).symm.trans H; rw [hy130]; with_reducible exact H2_) | (have H2_ := (Option.bind_some _ _).symm.trans H; with_reducible exact H2_) | with_reducible exact H | (rw [hy130]; exact H) | exact H
          have Ny130 := am hy130
          clear hy130
          have H' := am H
          clear H
          have p128 : 0 ≤ (x54_2 : Int) := of_decide_eq_true aq5
          have q128 : x54_2 < (x8_1.length : Int) := of_decide_eq_true aq5
          obtain ⟨ad128, e128, hx128_0⟩ := Kd.at_int (Kd.R_reads' HO_52.out).2.2 x54_2 p128 q128
          cases e128
          replace p128 := eq_true p128
          replace q128 := eq_true q128
          go_wp2_with (first | ((with_reducible refine gate_callee (f := 110) rfl ?_); refine goesL_ (some 61) rfl rfl Tryz.func110 (by kernel_rfl) rfl #[.slice Ao12 t107.length co12, .int .i64 (rd x8_1 x54_2)] rfl aq4 ?_; (with_reducible refine (slices_Index_int_int.calls k2 _ _ t107 (rd x8_1 x54_2) t129 _ ?side1 ?side2 A41.out).mono ?_); (case side1 => repeat (first | exact (Kd.R_reads' HO_7.out).2.2 | (with_reducible refine Kd.C_alloc ?_ _) | (with_reducible refine Kd.C_drewN ?_ _) | (with_reducible refine Kd.C_drew ?_))); (case side2 => exact (Kd.R_reads' HO_7.out).2.1); rintro e w' ⟨rfl, ⟨nd, rfl⟩⟩; refine ⟨_, rfl, ?_⟩) | ((with_reducible refine gate_builtin (b := .append) (xs := #[.tmp 58, .tmp 62]) rfl ?_); at_builtin; refine Kd.R_append (Kd.int .i64) (w0 := w) w.heap.size rfl (.tmp 58) (.tmp 62) 28 3 (.int .i64 0) 8 rfl Tryz.underlying28 info3 rfl (by decide) (by omega) u14 x14_2 t129 [.int .i64 t129] (fun k_ => some k_ ≠ (.slice Ao12 t107.length co12 : Value).ownBlock ∧ some k_ ≠ (.slice (some ad128) x8_1.length co37 : Value).ownBlock) (fun _ => False) rfl rfl ?aP (fun _ hk => hk.elim) ?aF ?aO ?aB ?aS ?aL ?_; (case aP => exact rfl); (case aB => exact aq11); (case aF => exact (fun k_ hk => ⟨Kd.fresh' (Kd.R_lt aq48) k_ hk, Kd.fresh' (Kd.R_lt aq92) k_ hk⟩)); (case aO => exact (by (with_reducible repeat (first | apply Kd.R_alloc | apply Kd.R_drewN | apply Kd.R_drew)); exact HO_14.out)); (case aS => exact (below_size aq11)); (case aL => have := LMc42.out; omega); intro v131 w43 ho hb hg hat; rw [← Ny130.out] at ho; have n0_ := am (Kd.R_after (ok := (fun k_ => some k_ ≠ (.slice (some ad128) x8_1.length co37 : Value).ownBlock)) aq82 hg hat); have n1_ := am (Kd.R_after (ok := (fun k_ => some k_ ≠ (.slice Ao12 t107.length co12 : Value).ownBlock)) aq92 hg hat); have n2_ := am (Kd.V_afterv (ok := (fun k_ => some k_ ≠ (.slice Ao12 t107.length co12 : Value).ownBlock ∧ some k_ ≠ (.slice (some ad128) x8_1.length co37 : Value).ownBlock ∧ k_ ≠ gb106)) (by (with_reducible repeat (first | apply Kd.V_alloc | apply Kd.V_drewN | apply Kd.V_drew)); exact Kd.V_mono HO_107002.out (fun _ hk => ⟨⟨hk.1, ⟨hk.2.2.1, hk.2.2.2⟩⟩, hk.2.1⟩)) hg hat); have n3_ := am (blk_grown (g := gb106) (o := .cells #[.int .i64 x107000_1, .int .i64 x107001_1, u107002] 93 (0, 0)) aq24 hg (Kd.R_ne HO_14.out BK106.out (by decide))); have n4_ := am (hb); have n5_ := am (ho); clear HO_7; clear HO_52; clear HO_107002; clear BK106; clear HB; clear HO_14; have HO_7 := n0_; have HO_52 := n1_; have HO_107002 := n2_; have BK106 := n3_; have HB := n4_; have HO132 := n5_; clear n0_ n1_ n2_ n3_ n4_ n5_; clear ho hb hg hat))
          go_roundg k2
          case measure => have := HK1.out; have := HK2.out; omega
          case rel => exact ⟨(y130), (wrap64 (x54_2 + 1)), aq6, H', ⟨aq45⟩, ⟨aq82⟩, ⟨by (with_reducible repeat (first | apply Kd.R_alloc | apply Kd.R_drewN | apply Kd.R_drew)); exact HO132.out⟩, ⟨aq92⟩, ⟨aq106⟩, ⟨aq24⟩, ⟨aq11⟩⟩
         ·rw [if_neg c42] at H
          exact absurd H (by simp)
        ·rw [if_neg c40] at H
         exact absurd H (by simp)
       ·rw [if_neg c39] at H
        exact absurd H (by simp)
      ·rw [if_neg c38] at H
       have c38b0 : decide (x54_2 < (x8_1.length : Int)) = false := decide_eq_false c38
       clear c38
       replace H := Option.bind_eq_some_iff.mp H
       obtain ⟨t133, A440, H⟩ := H
       replace H : (some (x14_2, !t133)) = some (r1, r2) := H
       have A44 := am A440
       clear A440
       simp only [Option.some.injEq, Prod.mk.injEq] at H
       obtain ⟨rfl, rfl⟩ := H
       obtain ⟨Ao45, co45, eo45⟩ := Kd.R_slice HO_14.out
       subst eo45
       go_wp2_with (first | ((with_reducible refine gate_callee (f := 111) rfl ?_); refine goesL_ (some 67) rfl rfl Tryz.func111 (by kernel_rfl) rfl #[.slice Ao45 x14_2.length co45, .int .i64 (-1)] rfl aq4 ?_; (with_reducible refine (slices_Contains_int_int.calls k2 _ _ x14_2 (-1) t133 _ ?side1 ?side2 A44.out).mono ?_); (case side1 => repeat (first | exact (Kd.R_reads' HO_14.out).2.2 | (with_reducible refine Kd.C_alloc ?_ _) | (with_reducible refine Kd.C_drewN ?_ _) | (with_reducible refine Kd.C_drew ?_))); (case side2 => exact (Kd.R_reads' HO_14.out).2.1); rintro e w' ⟨rfl, ⟨nd, rfl⟩⟩; refine ⟨_, rfl, ?_⟩))
       go_ret2
       exact ⟨_, aq7, by (with_reducible repeat (first | apply Kd.R_alloc | apply Kd.R_drewN | apply Kd.R_drew)); exact Kd.R_mono HO_14.out (fun _ hk => trivial), aq11⟩
end Go.Proofs.YtdffgeoegdkiaaaGreatDoor.F

namespace Go.Proofs.YtdffgeoegdkiaaaGreatDoor.F
open Go.RowKit Go.Proofs.YtdffgeoegdkiaaaGreatDoor Go.Proofs.YtdffgeoegdkiaaaGreatDoorW.PrintWords Go.Proofs.YtdffgeoegdkiaaaGreatDoorW.PrintMore
theorem ite_argZ {α β : Type} (c : Prop) [Decidable c] (f : α → β) (a b : α) : (if c then f a else f b) = f (if c then a else b) := by split <;> rfl
theorem idxTo_succZ (p : Int → Bool) (cs : List Int) (n : Nat) : castsI (idxTo p cs (n + 1)) = if p (cs.getD n 0) = true then castsI (idxTo p cs n) ++ [(n : Int)] else castsI (idxTo p cs n) := by
  unfold idxTo
  rw [List.range_succ, List.filter_append]
  by_cases h : p (cs.getD n 0) = true
  · rw [if_pos h]; simp only [List.filter_cons, h, if_true, List.filter_nil]; rw [casts_app]; rfl
  · rw [if_neg h]; simp only [List.filter_cons, List.filter_nil]; rw [if_neg h, List.append_nil]
theorem idxTo_lenZ (p : Int → Bool) (cs : List Int) (n : Nat) : (idxTo p cs n).length ≤ n := by
  unfold idxTo; refine Nat.le_trans (List.length_filter_le _ _) ?_; simp
theorem ballIdx_l0 {cs : List Int} (hl : cs.length ≤ 1000) : ∀ (d i : Nat), i + d = cs.length → Ev (fun k => impl_tray_indices__impl_isBall.l0 k (castsI (idxTo isBallC cs i)) cs (cs.length : Int) i) (castsI (idxs isBallC cs))
  | 0, i, hi => by
    obtain rfl : i = cs.length := by omega
    refine Ev.step (f := fun _ => some (castsI (idxs isBallC cs))) (fun k => ?_) (Ev.now _)
    rw [impl_tray_indices__impl_isBall.l0, if_neg (by omega), idxTo_all]
  | d + 1, i, hi => by
    have ih := ballIdx_l0 hl d (i + 1) (by omega)
    have hlen : (castsI (idxTo isBallC cs i)).length < 17592186044416 := by rw [castsI_length]; have := idxTo_lenZ isBallC cs i; omega
    have HW : Aside0 (wrap64 ((i : Int) + 1) = ((i + 1 : Nat) : Int)) := ⟨by rw [w64 (by omega) (by omega)]; rfl⟩
    refine Ev.step (fun k => ?_) ih
    rw [impl_tray_indices__impl_isBall.l0, if_pos (by omega), if_pos (by omega), if_pos (by omega), rdN, impl_isBall_is, Option.bind_some, if_pos hlen, HW.out, idxTo_succZ]
    exact ite_argZ _ (fun l => impl_tray_indices__impl_isBall.l0 k l cs (cs.length : Int) ((i + 1 : Nat) : Int)) _ _
theorem ballIdx_ev (a b : Int) {cs : List Int} (hl : cs.length ≤ 1000) : Ev (fun k => impl_tray_indices__impl_isBall.f k a b cs) (castsI (idxs isBallC cs)) := ballIdx_l0 hl cs.length 0 (by omega)
theorem indexI_l0 {cs : List Int} (hl : cs.length ≤ 1000) (c : Int) : ∀ (d i : Nat), i + d = cs.length → (∀ j, j < i → ∀ hj : j < cs.length, cs[j] ≠ c) →
    Ev (fun k => slices_Index_int_int.l0 k cs c (cs.length : Int) i) (if firstAt cs c < cs.length then (firstAt cs c : Int) else -1)
  | 0, i, hi, hn => by
    obtain rfl : i = cs.length := by omega
    rw [first_none (fun j hj => hn j hj hj), if_neg (by omega)]
    refine Ev.step (f := fun _ => some (-1)) (fun k => ?_) (Ev.now _)
    rw [slices_Index_int_int.l0, if_neg (by omega)]
  | d + 1, i, hi, hn => by
    have hlt : i < cs.length := by omega
    have HW : Aside0 (wrap64 ((i : Int) + 1) = ((i + 1 : Nat) : Int)) := ⟨by rw [w64 (by omega) (by omega)]; rfl⟩
    have hrd : rd cs (i : Int) = cs[i] := by unfold rd; rw [Int.toNat_natCast, List.getD_eq_getElem?_getD, List.getElem?_eq_getElem hlt]; rfl
    by_cases he : c = cs[i]
    · rw [first_split hn hlt he.symm, if_pos hlt]
      refine Ev.step (f := fun _ => some (i : Int)) (fun k => ?_) (Ev.now _)
      rw [slices_Index_int_int.l0, if_pos (by omega), if_pos (by omega), if_pos (by omega), hrd, if_pos he]
    · have ih := indexI_l0 hl c d (i + 1) (by omega) (fun j hj hj' => by
        by_cases e : j = i
        · subst e; exact fun h => he h.symm
        · exact hn j (by omega) hj')
      refine Ev.step (fun k => ?_) ih
      rw [slices_Index_int_int.l0, if_pos (by omega), if_pos (by omega), if_pos (by omega), hrd, if_neg he, HW.out]
def indexI (l : List Int) (c : Int) : Int := if firstAt l c < l.length then (firstAt l c : Int) else -1
theorem indexI_ev {l : List Int} (hl : l.length ≤ 1000) (c : Int) : Ev (fun k => slices_Index_int_int.f k l c) (indexI l c) := indexI_l0 hl c l.length 0 (by omega) (fun j hj => by omega)
def lookN (m : List (Nat × Nat)) (k : Nat) : Nat := (m.lookup k).getD 0
theorem lookZ_nat (m : List (Nat × Nat)) (k : Nat) : lookZ (k : Int) m = ((lookN m k : Nat) : Int) := by unfold lookZ lookN; rw [Int.toNat_natCast]
def mixN (m : List (Nat × Nat)) (now : List Nat) (i : Nat) : List Nat := (now.take i).map (lookN m) ++ now.drop i
theorem mixN_length (m : List (Nat × Nat)) (now : List Nat) (i : Nat) : (mixN m now i).length = now.length := by
  unfold mixN; rw [List.length_append, List.length_map, List.length_take, List.length_drop]; omega
theorem mixN_at (m : List (Nat × Nat)) {now : List Nat} {i : Nat} (h : i < now.length) : mixN m now i = (now.take i).map (lookN m) ++ now[i]'h :: now.drop (i + 1) := by
  unfold mixN; rw [List.drop_eq_getElem_cons h]
theorem mixN_rd (m : List (Nat × Nat)) {now : List Nat} {i : Nat} (h : i < now.length) : rd (castsI (mixN m now i)) (i : Int) = ((now[i]'h : Nat) : Int) := by
  have hA : ((now.take i).map (lookN m)).length = i := by rw [List.length_map, List.length_take]; omega
  rw [rdN, mixN_at m h, casts_app, List.getD_eq_getElem?_getD, List.getElem?_append_right (by rw [castsI_length]; omega), castsI_length, hA, Nat.sub_self]
  rfl
theorem mixN_set (m : List (Nat × Nat)) {now : List Nat} {i : Nat} (h : i < now.length) : (castsI (mixN m now i)).set i ((lookN m (now[i]'h) : Nat) : Int) = castsI (mixN m now (i + 1)) := by
  have hA : ((now.take i).map (lookN m)).length = i := by rw [List.length_map, List.length_take]; omega
  rw [mixN_at m h, casts_app, List.set_append_right _ _ (by rw [castsI_length]; omega), castsI_length, hA, Nat.sub_self]
  unfold mixN
  rw [List.take_succ_eq_append_getElem h, List.map_append, List.append_assoc, casts_app]
  rfl
theorem comes_l1 {now : List Nat} (hn : now.length ≤ 1000) (hs : ∀ x ∈ now, x < 65536) {m : List (Nat × Nat)} {x7 x24 cs : List Int} {c x25 x26 a b : Int} {R : List Int × Bool}
    (hend : Ev (fun k => (impl_tray_tilted.f a b cs c).bind fun bt => impl_comesBack.l0 k x7 (castsI (now.map (lookN m))) x24 x25 (wrap64 (x26 + 1)) bt.1 bt.2.1 bt.2.2) R) : ∀ (d i : Nat), i + d = now.length →
    Ev (fun k => impl_comesBack.l1 k x7 (castsI (mixN m now i)) c m x24 x25 x26 (now.length : Int) (i : Int) a b cs) R
  | 0, i, hi => by
    obtain rfl : i = now.length := by omega
    refine Ev.step (fun k => ?_) hend
    rw [impl_comesBack.l1, if_neg (by omega)]
    unfold mixN
    rw [List.take_of_length_le (Nat.le_refl _), List.drop_eq_nil_of_le (Nat.le_refl _), List.append_nil]
  | d + 1, i, hi => by
    have hil : i < now.length := by omega
    have HW : Aside0 (wrap64 ((i : Int) + 1) = ((i + 1 : Nat) : Int)) := ⟨by rw [w64 (by omega) (by omega)]; rfl⟩
    have ih := comes_l1 hn hs hend d (i + 1) (by omega)
    have hx := hs _ (List.getElem_mem hil)
    refine Ev.step (fun k => ?_) ih
    rw [impl_comesBack.l1, if_pos (by omega), if_pos (by omega), if_pos (by rw [castsI_length, mixN_length]; omega), mixN_rd m hil, if_pos (by omega), Int.toNat_natCast, lookZ_nat, mixN_set m hil, HW.out]
section
variable {w h : Nat} (hw : 1 ≤ w ∧ w ≤ 7) (hh : 1 ≤ h ∧ h ≤ 7)
include hw hh
theorem comes_l0 (L : List Int) (hL : L.length < 1000) (hd : ∀ c ∈ L, isDirC c = true) {x7 : List Int} {T : List Nat → List Int × Bool}
    (hend : ∀ now : List Nat, now.length ≤ 1000 → Ev (fun k => impl_comesBack.l2 k x7 [] (castsI now) (now.length : Int) 0) (T now)) : ∀ (n i : Nat) (cs : List Int) (now : List Nat), i + n = L.length → cs.length = w * h → now.Perm (idxs isBallC cs) →
    Ev (fun k => impl_comesBack.l0 k x7 (castsI now) L (L.length : Int) (i : Int) w h cs) (T (nowD w h cs now (dirsL (L.drop i))))
  | 0, i, cs, now, hi, hl, hp => by
    have h49 : w * h ≤ 49 := Nat.mul_le_mul hw.2 hh.2
    have hn : now.length ≤ 1000 := by rw [hp.length_eq]; refine Nat.le_trans (List.length_filter_le _ _) ?_; rw [List.length_range]; omega
    rw [List.drop_eq_nil_of_le (by omega)]
    refine Ev.step (fun k => ?_) (hend now hn)
    rw [impl_comesBack.l0, if_neg (by omega), castsI_length]
  | n + 1, i, cs, now, hi, hl, hp => by
    have hil : i < L.length := by omega
    have h49 : w * h ≤ 49 := Nat.mul_le_mul hw.2 hh.2
    have HW : Aside0 (wrap64 ((i : Int) + 1) = ((i + 1 : Nat) : Int)) := ⟨by rw [w64 (by omega) (by omega)]; rfl⟩
    have hrd : rd L (i : Int) = L[i]'hil := by unfold rd; rw [Int.toNat_natCast, List.getD_eq_getElem?_getD, List.getElem?_eq_getElem hil]; rfl
    have hdir := hd _ (List.getElem_mem hil)
    obtain ⟨q1, q2, q3⟩ := dirB_ix hdir
    have hn : now.length ≤ 1000 := by rw [hp.length_eq]; refine Nat.le_trans (List.length_filter_le _ _) ?_; rw [List.length_range]; omega
    have hs : ∀ x ∈ now, x < 65536 := fun x hx => by
      have := ballAt_lt (mem_balls.1 (hp.mem_iff.1 hx)); omega
    rw [List.drop_eq_getElem_cons hil]
    have ih := comes_l0 L hL hd hend n (i + 1) (tiltD w h (dirIx (L[i]'hil)).toNat cs) (now.map (stepM w h (dirIx (L[i]'hil)).toNat cs)) (by omega) (by rw [tiltD_length]; exact hl) (now_step q2 hl hp)
    have hm : now.map (lookN (mvD w h (dirIx (L[i]'hil)).toNat cs)) = now.map (stepM w h (dirIx (L[i]'hil)).toNat cs) := rfl
    have hslide : impl_slideZ.f w h cs (L[i]'hil) = some (mvD w h (dirIx (L[i]'hil)).toNat cs) := if_pos ⟨gridI_nat hw hh hl, hdir⟩
    have h1 := comes_l1 (x7 := x7) (x24 := L) (cs := cs) (c := L[i]'hil) (x25 := (L.length : Int)) (x26 := (i : Int)) (a := w) (b := h) hn hs (m := mvD w h (dirIx (L[i]'hil)).toNat cs) (R := T (nowD w h (tiltD w h (dirIx (L[i]'hil)).toNat cs) (now.map (stepM w h (dirIx (L[i]'hil)).toNat cs)) (dirsL (L.drop (i + 1)))))
      (Ev.congr (fun k => by rw [impl_tilted_eq hw hh hl hdir, Option.bind_some, HW.out, hm]) ih) now.length 0 (by omega)
    refine Ev.step (fun k => ?_) h1
    rw [impl_comesBack.l0, if_pos (by omega), if_pos (by omega), if_pos (by omega), hrd, hslide, Option.bind_some, castsI_length]
    rfl
end
theorem comes_l2 {b : List Int} (hb : b.length ≤ 1000) {now : List Nat} (hn : now.length ≤ 1000) : ∀ (d i : Nat), i + d = now.length →
    Ev (fun k => impl_comesBack.l2 k b ((now.take i).map fun x : Nat => indexI b (x : Int)) (castsI now) (now.length : Int) (i : Int)) (now.map (fun x : Nat => indexI b (x : Int)), !decide (-1 ∈ now.map fun x : Nat => indexI b (x : Int)))
  | 0, i, hi => by
    obtain rfl : i = now.length := by omega
    rw [List.take_of_length_le (Nat.le_refl _)]
    refine Ev.step (f := fun k => (slices_Contains_int_int.f k (now.map fun x : Nat => indexI b (x : Int)) (-1)).bind fun t => some (now.map (fun x : Nat => indexI b (x : Int)), !t)) (fun k => ?_) (Ev.bind (contains_ev (now.map fun x : Nat => indexI b (x : Int)) (-1) (by rw [List.length_map]; exact hn)) (Ev.now _))
    rw [impl_comesBack.l2, if_neg (by omega)]
  | d + 1, i, hi => by
    have hil : i < now.length := by omega
    have HW : Aside0 (wrap64 ((i : Int) + 1) = ((i + 1 : Nat) : Int)) := ⟨by rw [w64 (by omega) (by omega)]; rfl⟩
    have hrd : rd (castsI now) (i : Int) = ((now[i]'hil : Nat) : Int) := by rw [rdN, List.getD_eq_getElem?_getD, castsI_getD now i hil]; rfl
    have ih := comes_l2 hb hn d (i + 1) (by omega)
    rw [List.take_succ_eq_append_getElem hil, List.map_append] at ih
    have hlen : ((now.take i).map fun x : Nat => indexI b (x : Int)).length < 17592186044416 := by rw [List.length_map, List.length_take]; omega
    refine Ev.step (f := fun k => (slices_Index_int_int.f k b ((now[i]'hil : Nat) : Int)).bind fun t => impl_comesBack.l2 k b ((now.take i).map (fun x : Nat => indexI b (x : Int)) ++ [t]) (castsI now) (now.length : Int) ((i + 1 : Nat) : Int)) (fun k => ?_) (Ev.bind (indexI_ev hb ((now[i]'hil : Nat) : Int)) ih)
    rw [impl_comesBack.l2, if_pos (by omega), if_pos (by omega), if_pos (by rw [castsI_length]; omega), hrd]
    refine congrArg _ (funext fun t => ?_)
    rw [if_pos hlen, HW.out]
def permZ (w h : Nat) (cs : List Int) (ds : List Nat) : List Int := (nowB w h cs ds).map fun x : Nat => indexI (castsI (idxs isBallC cs)) (x : Int)
theorem indexI_casts (l : List Nat) (x : Nat) : indexI (castsI l) (x : Int) = if l.contains x = true then ((l.findIdx (· == x) : Nat) : Int) else -1 := by
  have hf : firstAt (castsI l) (x : Int) = l.findIdx (· == x) := by
    unfold firstAt castsI
    rw [List.findIdx_map]
    congr 1
    funext y
    show ((y : Int) == (x : Int)) = (y == x)
    rw [Bool.eq_iff_iff, beq_iff_eq, beq_iff_eq]
    omega
  unfold indexI
  rw [hf, castsI_length]
  by_cases hc : l.contains x = true
  · rw [if_pos hc, if_pos]
    rw [List.findIdx_lt_length]
    exact ⟨x, by simpa using hc, beq_self_eq_true _⟩
  · rw [if_neg hc, if_neg]
    rw [List.findIdx_lt_length]
    rintro ⟨y, hy, he⟩
    rw [beq_iff_eq] at he
    subst he
    exact hc (by simpa using hy)
theorem permZ_flag (w h : Nat) (cs : List Int) (ds : List Nat) : (!decide (-1 ∈ permZ w h cs ds)) = comesD w h cs ds := by
  rw [Bool.eq_iff_iff, Bool.not_eq_true', decide_eq_false_iff_not]
  unfold permZ comesD
  rw [List.all_eq_true]
  constructor
  · intro hno k hk
    by_cases hc : (idxs isBallC cs).contains k = true
    · exact hc
    · exact absurd (List.mem_map.2 ⟨k, hk, by rw [indexI_casts, if_neg hc]⟩) hno
  · intro hall hm
    obtain ⟨k, hk, he⟩ := List.mem_map.1 hm
    rw [indexI_casts, if_pos (hall k hk)] at he
    omega
theorem permZ_good {w h : Nat} {cs : List Int} {ds : List Nat} (hc : comesD w h cs ds = true) : permZ w h cs ds = castsI (permD w h cs ds) := by
  unfold permZ permD
  refine Eq.trans (List.map_congr_left (g := fun k => (((idxs isBallC cs).findIdx (· == k) : Nat) : Int)) fun k hk => ?_) (List.map_map (g := Int.ofNat)).symm
  exact (indexI_casts _ k).trans (if_pos (List.all_eq_true.1 hc k hk))
theorem comes_ev {t wd : ByteArray} {w h : Nat} {cs : List Int} (hg : tyGrid (bytesOf t) = some (w, h, cs)) (hs : isWordB (bytesOf wd) = true) : Ev (fun k => impl_comesBack.f k t wd) (permZ w h cs (wordD wd), comesD w h cs (wordD wd)) := by
  obtain ⟨hw, hh, hl, _⟩ := tyGrid_some hg
  obtain ⟨h1, h2⟩ := (isWordB_iff _).1 hs
  have hz := word_size hs
  have h49 : w * h ≤ 49 := Nat.mul_le_mul hw.2 hh.2
  have hb : (idxs isBallC cs).length ≤ 49 := by refine Nat.le_trans (List.length_filter_le _ _) ?_; rw [List.length_range]; omega
  have h0 := comes_l0 (w := w) (h := h) hw hh (bytesOf wd) (by omega) h2 (x7 := castsI (idxs isBallC cs)) (T := fun now => (now.map (fun x : Nat => indexI (castsI (idxs isBallC cs)) (x : Int)), !decide (-1 ∈ now.map fun x : Nat => indexI (castsI (idxs isBallC cs)) (x : Int))))
    (fun now hn => comes_l2 (b := castsI (idxs isBallC cs)) (by rw [castsI_length]; omega) hn now.length 0 (by omega)) (bytesOf wd).length 0 cs (idxs isBallC cs) (by omega) hl (List.Perm.refl _)
  have hR : ((nowD w h cs (idxs isBallC cs) (dirsL ((bytesOf wd).drop 0))).map (fun x : Nat => indexI (castsI (idxs isBallC cs)) (x : Int)), !decide (-1 ∈ (nowD w h cs (idxs isBallC cs) (dirsL ((bytesOf wd).drop 0))).map fun x : Nat => indexI (castsI (idxs isBallC cs)) (x : Int))) = (permZ w h cs (wordD wd), comesD w h cs (wordD wd)) := by
    rw [List.drop_zero]
    exact Prod.ext rfl (permZ_flag w h cs (wordD wd))
  rw [hR] at h0
  unfold impl_comesBack.f
  refine Ev.congr (fun k => by rw [impl_read_eq t hg, Option.bind_some]) (Ev.bind (ballIdx_ev (w : Int) (h : Int) (cs := cs) (by omega)) ?_)
  refine Ev.congr (fun k => ?_) h0
  rw [slices_Clone_int.f, if_pos (by rw [castsI_length]; omega), Option.bind_some, conv_bytes.f, if_pos (by omega), Option.bind_some]
  rfl
end Go.Proofs.YtdffgeoegdkiaaaGreatDoor.F

namespace Go.Proofs.YtdffgeoegdkiaaaGreatDoor.F
open Go.Proofs.YtdffgeoegdkiaaaGreatDoor
open Go.RowKit Go.Proofs.YtdffgeoegdkiaaaGreatDoorW.PrintWords Go.Proofs.YtdffgeoegdkiaaaGreatDoorW.PrintLast Go.Proofs.YtdffgeoegdkiaaaGreatDoorW.PrintMore
attribute [local go_sem] max2_int min2_int max_two min_two max_three min_three max_four min_four
def spec_mcBack.l0 : Nat → List Int → Int → Int → Int → Int → List Int → Option (Int × Int × List Int × Bool)
 | 0, _, _, _, _, _, _ => none
 | k + 1, x13, x14, x15, x109000, x109001, x109002 => if x15 < x14 then (if 0 ≤ x15 then (if x15 < (x13.length : Int) then ((spec_tyBall.f (rd x13 x15)).bind fun t110 => (if x15 < (x109002.length : Int) then ((spec_tyBall.f (rd x109002 x15)).bind fun t112 => (if (t110 != t112) = true then (some (x109000, x109001, x109002, false)) else (spec_mcBack.l0 k x13 x14 (wrap64 (x15 + 1)) x109000 x109001 x109002))) else (none))) else (none)) else (none)) else (some (x109000, x109001, x109002, true))
def spec_mcBack.f (k : Nat) (a0_0 : Int) (a0_1 : Int) (l0_2 : List Int) (a1 : ByteArray) : Option (Int × Int × List Int × Bool) := (spec_tiRun.f k a0_0 a0_1 l0_2 a1).bind fun bt103 => (spec_mcBack.l0 k l0_2 (l0_2.length : Int) 0 bt103.1 bt103.2.1 bt103.2.2)
theorem spec_mcBack.mono_l : ∀ k, (∀ y0 y1 y2 y3 y4 y5, LeO (spec_mcBack.l0 k y0 y1 y2 y3 y4 y5) (spec_mcBack.l0 (k + 1) y0 y1 y2 y3 y4 y5))
 | 0 => fun _ _ _ _ _ _ r h => by simp [spec_mcBack.l0] at h
 | k + 1 => by
  have ih0 := spec_mcBack.mono_l k
  ·intro y0 y1 y2 y3 y4 y5
   unfold spec_mcBack.l0
   have im0 := @spec_tiRun.mono; exact mo
theorem spec_mcBack.mono : ∀ a0 a1 a2 a3 k, LeO (spec_mcBack.f k a0 a1 a2 a3) (spec_mcBack.f (k + 1) a0 a1 a2 a3) := by
 intro a0 a1 a2 a3 k
 have ih0 := spec_mcBack.mono_l k
 unfold spec_mcBack.f
 have im0 := @spec_tiRun.mono; exact mo
set_option maxHeartbeats 8000000 in
set_option maxRecDepth 100000 in
theorem spec_mcBack.calls (k : Nat) (a0_0 : Int) (a0_1 : Int) (P0_2_ : Nat → Prop) (A0_2 : Option Addr) (c0_2 : Nat) (l0_2 : List Int) (a1 : ByteArray) (r1 : Int) (r2 : Int) (r3 : List Int) (r4 : Bool) (w : World) (hs0_2 : Kd.V (Kd.int .u8) 5 w w.heap.size (fun k_ => P0_2_ k_) (.slice A0_2 l0_2.length c0_2) l0_2) (h : spec_mcBack.f k a0_0 a0_1 l0_2 a1 = some (r1, r2, r3, r4)) :
  Calls Tryz.prog 54 #[.agg #[.int .i64 a0_0, .int .i64 a0_1, .slice A0_2 l0_2.length c0_2], .string a1] w fun e w' => ∃ v2_ : Value, e = .returned (.tuple #[.agg #[.int .i64 r1, .int .i64 r2, v2_], .bool r4]) ∧ Kd.V (Kd.int .u8) 5 w' w.heap.size (fun k_ => (P0_2_ k_ ∨ w.heap.size ≤ k_)) v2_ r3 ∧ Below w.heap.size w w' := by
 have hu62 := Tryz.underlying62
 have HO0_2 := am (show Kd.V (Kd.int .u8) 5 w w.heap.size (fun k_ => (P0_2_ k_ ∨ w.heap.size ≤ k_)) (.slice A0_2 l0_2.length c0_2) l0_2 from Kd.V_mono hs0_2 (fun k_ hk => .inl hk))
 have HB := am (Below.refl w.heap.size w)
 have H : ((spec_tiRun.f k a0_0 a0_1 l0_2 a1).bind fun bt103 => (spec_mcBack.l0 k l0_2 (l0_2.length : Int) 0 bt103.1 bt103.2.1 bt103.2.2)) = some (r1, r2, r3, r4) := h
 clear h
 replace H := Option.bind_eq_some_iff.mp H
 obtain ⟨⟨t103, t104, t105⟩, A30, H⟩ := H
 replace H : (spec_mcBack.l0 k l0_2 (l0_2.length : Int) 0 t103 t104 t105) = some (r1, r2, r3, r4) := H
 have A3 := am A30
 clear A30
 have H' := am H
 clear H
 go_enter Tryz.func54, Tryz.ntmps54
 go_wp2_with (first | ((with_reducible refine gate_dst (N := 2) rfl ?_); refine box_event ?hg (N := 2) ?hd (cs := #[.int .i64 a0_0, .int .i64 a0_1, .slice A0_2 l0_2.length c0_2]) (t := 62) ?hr ?_; (case hd => rfl); (case hg => rfl); (case hr => exact aq15); intro gb101 hg w4 hbox hb; have n0_ := am (Kd.V_below (Kd.V_elderB aq23 gb101 (Nat.le_of_eq hg.symm)) hb); have n1_ := am (below_step aq1 hb); have n2_ := am (hbox); have n3_ := am ((by rw [hg]; exact (below_size aq1) : w.heap.size ≤ gb101)); have n4_ := am ((by rw [hg]; exact (below_size aq1) : w.heap.size ≤ gb101)); clear HO0_2; clear HB; have HO0_2 := n0_; have HB := n1_; have BK101 := n2_; have GW101 := n3_; have GE101 := n4_; clear n0_ n1_ n2_ n3_ n4_; clear hb hbox hg) | ((with_reducible refine gate_dst (N := 4) rfl ?_); refine box_event ?hg (N := 4) ?hd (cs := #[.int .i64 0, .int .i64 0, .slice none 0 0]) (t := 62) ?hr ?_; (case hd => rfl); (case hg => rfl); (case hr => exact aq15); intro gb102 hg w5 hbox hb; have n0_ := am (Kd.V_below (Kd.V_elderB aq23 gb102 (Nat.le_of_eq hg.symm)) hb); have n1_ := am (blk_below (g := gb101) (o := .cells #[.int .i64 a0_0, .int .i64 a0_1, .slice A0_2 l0_2.length c0_2] 62 (0, 0)) aq2 hb); have n2_ := am (below_step aq0 hb); have n3_ := am (hbox); have n4_ := am ((by rw [hg]; exact (below_size aq0) : w.heap.size ≤ gb102)); have n5_ := am ((by rw [hg]; exact (below_size aq0) : w.heap.size ≤ gb102)); have n6_ := am ((by rw [hg]; exact Nat.ne_of_lt (blk_lt (g := gb101) (o := .cells #[.int .i64 a0_0, .int .i64 a0_1, .slice A0_2 l0_2.length c0_2] 62 (0, 0)) aq2) : gb101 ≠ gb102)); have n7_ := am ((by rw [hg]; exact Nat.ne_of_gt (blk_lt (g := gb101) (o := .cells #[.int .i64 a0_0, .int .i64 a0_1, .slice A0_2 l0_2.length c0_2] 62 (0, 0)) aq2) : gb102 ≠ gb101)); clear HO0_2; clear BK101; clear HB; have HO0_2 := n0_; have BK101 := n1_; have HB := n2_; have BK102 := n3_; have GW102 := n4_; have GE102 := n5_; have NB101_102 := n6_; have NB102_101 := n7_; clear n0_ n1_ n2_ n3_ n4_ n5_ n6_ n7_; clear hb hbox hg; have hnb6 := NB101_102.out; have hnc6 := NB102_101.out; have hcz7_0 : w5.cell? ⟨gb101, 0, none⟩ = some (.int .i64 a0_0) := (blk_cell BK101.out 0).trans rfl; have hcz7_1 : w5.cell? ⟨gb101, 1, none⟩ = some (.int .i64 a0_1) := (blk_cell BK101.out 1).trans rfl; have hcz7_2 : w5.cell? ⟨gb101, 2, none⟩ = some (.slice A0_2 l0_2.length c0_2) := (blk_cell BK101.out 2).trans rfl; have hfz7_0 := blk_frozen BK101.out 0; have hfz7_1 := blk_frozen BK101.out 1; have hfz7_2 := blk_frozen BK101.out 2) | (go_at_call 99; (with_reducible refine (spec_tiRun.calls k a0_0 a0_1 (fun k_ => (((P0_2_ k_ ∨ w.heap.size ≤ k_) ∧ k_ ≠ gb101) ∧ k_ ≠ gb102)) _ _ l0_2 a1 t103 t104 t105 _ ?side1 A3.out).mono ?_); (case side1 => exact HO0_2.out); rintro e w8 ⟨v106, rfl, ho0, hb⟩; have n0_ := am (Kd.V_below aq23 hb); have n1_ := am (Kd.V_lower (Kd.V_mono (ok' := fun k_ => (P0_2_ k_ ∨ w.heap.size ≤ k_) ∧ k_ ≠ gb101 ∧ k_ ≠ gb102) ho0 (fun k_ hk_ => ⟨Or.elim hk_ (fun hs_ => hs_.1.1) (fun hn_ => (.inr (Nat.le_trans (below_size aq3) hn_))), Or.elim hk_ (fun hs_ => hs_.1.2) (fun hn_ => (Kd.freshB (g := gb101) (o := .cells #[.int .i64 a0_0, .int .i64 a0_1, .slice A0_2 l0_2.length c0_2] 62 (0, 0)) aq2 k_ hn_)), Or.elim hk_ (fun hs_ => hs_.2) (fun hn_ => (Kd.freshB (g := gb102) (o := .cells #[.int .i64 0, .int .i64 0, .slice none 0 0] 62 (0, 0)) aq8 k_ hn_))⟩)) (below_size aq3)); have n2_ := am (blk_below (g := gb101) (o := .cells #[.int .i64 a0_0, .int .i64 a0_1, .slice A0_2 l0_2.length c0_2] 62 (0, 0)) aq2 hb); have n3_ := am (blk_below (g := gb102) (o := .cells #[.int .i64 0, .int .i64 0, .slice none 0 0] 62 (0, 0)) aq8 hb); have n4_ := am (below_step aq3 hb); clear HO0_2; clear BK101; clear BK102; clear HB; have HO0_2 := n0_; have HO107 := n1_; have BK101 := n2_; have BK102 := n3_; have HB := n4_; clear n0_ n1_ n2_ n3_ n4_; (try clear hb); (try clear hb2); (try clear hk); (try clear hi); (try clear ho0)) | ((with_reducible refine gate_dst (N := 6) rfl ?_); refine box_event ?hg (N := 6) ?hd (cs := #[.int .i64 0, .int .i64 0, .slice none 0 0]) (t := 62) ?hr ?_; (case hd => rfl); (case hg => rfl); (case hr => exact aq15); intro gb108 hg w9 hbox hb; have n0_ := am (Kd.V_below (Kd.V_elderB aq23 gb108 (Nat.le_of_eq hg.symm)) hb); have n1_ := am (Kd.V_below (Kd.V_elderB aq88 gb108 (Nat.le_of_eq hg.symm)) hb); have n2_ := am (blk_below (g := gb101) (o := .cells #[.int .i64 a0_0, .int .i64 a0_1, .slice A0_2 l0_2.length c0_2] 62 (0, 0)) aq2 hb); have n3_ := am (blk_below (g := gb102) (o := .cells #[.int .i64 0, .int .i64 0, .slice none 0 0] 62 (0, 0)) aq8 hb); have n4_ := am (below_step aq3 hb); have n5_ := am (hbox); have n6_ := am ((by rw [hg]; exact (below_size aq3) : w.heap.size ≤ gb108)); have n7_ := am ((by rw [hg]; exact (below_size aq3) : w.heap.size ≤ gb108)); have n8_ := am ((by rw [hg]; exact Nat.ne_of_lt (blk_lt (g := gb101) (o := .cells #[.int .i64 a0_0, .int .i64 a0_1, .slice A0_2 l0_2.length c0_2] 62 (0, 0)) aq2) : gb101 ≠ gb108)); have n9_ := am ((by rw [hg]; exact Nat.ne_of_gt (blk_lt (g := gb101) (o := .cells #[.int .i64 a0_0, .int .i64 a0_1, .slice A0_2 l0_2.length c0_2] 62 (0, 0)) aq2) : gb108 ≠ gb101)); have n10_ := am ((by rw [hg]; exact Nat.ne_of_lt (blk_lt (g := gb102) (o := .cells #[.int .i64 0, .int .i64 0, .slice none 0 0] 62 (0, 0)) aq8) : gb102 ≠ gb108)); have n11_ := am ((by rw [hg]; exact Nat.ne_of_gt (blk_lt (g := gb102) (o := .cells #[.int .i64 0, .int .i64 0, .slice none 0 0] 62 (0, 0)) aq8) : gb108 ≠ gb102)); clear HO0_2; clear HO107; clear BK101; clear BK102; clear HB; have HO0_2 := n0_; have HO107 := n1_; have BK101 := n2_; have BK102 := n3_; have HB := n4_; have BK108 := n5_; have GW108 := n6_; have GE108 := n7_; have NB101_108 := n8_; have NB108_101 := n9_; have NB102_108 := n10_; have NB108_102 := n11_; clear n0_ n1_ n2_ n3_ n4_ n5_ n6_ n7_ n8_ n9_ n10_ n11_; clear hb hbox hg; have hnb10 := NB108_101.out; have hnc10 := NB101_108.out; have hnb11 := NB108_102.out; have hnc11 := NB102_108.out; have hcz12_0 : w9.cell? ⟨gb108, 0, none⟩ = some (.int .i64 0) := (blk_cell BK108.out 0).trans rfl; have hcz12_1 : w9.cell? ⟨gb108, 1, none⟩ = some (.int .i64 0) := (blk_cell BK108.out 1).trans rfl; have hcz12_2 : w9.cell? ⟨gb108, 2, none⟩ = some (.slice none 0 0) := (blk_cell BK108.out 2).trans rfl; have hfz12_0 := blk_frozen BK108.out 0; have hfz12_1 := blk_frozen BK108.out 1; have hfz12_2 := blk_frozen BK108.out 2; obtain ⟨Ao13, co13, eo13⟩ := Kd.V_slice HO107.out; subst eo13; have hcz14_0 : w9.cell? ⟨gb101, 0, none⟩ = some (.int .i64 a0_0) := (blk_cell BK101.out 0).trans rfl; have hcz14_1 : w9.cell? ⟨gb101, 1, none⟩ = some (.int .i64 a0_1) := (blk_cell BK101.out 1).trans rfl; have hcz14_2 : w9.cell? ⟨gb101, 2, none⟩ = some (.slice A0_2 l0_2.length c0_2) := (blk_cell BK101.out 2).trans rfl; have hfz14_0 := blk_frozen BK101.out 0; have hfz14_1 := blk_frozen BK101.out 1; have hfz14_2 := blk_frozen BK101.out 2))
 repeat (go_quiet (first | ((with_reducible refine gate_dst (N := 2) rfl ?_); refine box_event ?hg (N := 2) ?hd (cs := #[.int .i64 a0_0, .int .i64 a0_1, .slice A0_2 l0_2.length c0_2]) (t := 62) ?hr ?_; (case hd => rfl); (case hg => rfl); (case hr => exact aq15); intro gb101 hg w4 hbox hb; have n0_ := am (Kd.V_below (Kd.V_elderB aq23 gb101 (Nat.le_of_eq hg.symm)) hb); have n1_ := am (below_step aq1 hb); have n2_ := am (hbox); have n3_ := am ((by rw [hg]; exact (below_size aq1) : w.heap.size ≤ gb101)); have n4_ := am ((by rw [hg]; exact (below_size aq1) : w.heap.size ≤ gb101)); clear HO0_2; clear HB; have HO0_2 := n0_; have HB := n1_; have BK101 := n2_; have GW101 := n3_; have GE101 := n4_; clear n0_ n1_ n2_ n3_ n4_; clear hb hbox hg) | ((with_reducible refine gate_dst (N := 4) rfl ?_); refine box_event ?hg (N := 4) ?hd (cs := #[.int .i64 0, .int .i64 0, .slice none 0 0]) (t := 62) ?hr ?_; (case hd => rfl); (case hg => rfl); (case hr => exact aq15); intro gb102 hg w5 hbox hb; have n0_ := am (Kd.V_below (Kd.V_elderB aq23 gb102 (Nat.le_of_eq hg.symm)) hb); have n1_ := am (blk_below (g := gb101) (o := .cells #[.int .i64 a0_0, .int .i64 a0_1, .slice A0_2 l0_2.length c0_2] 62 (0, 0)) aq2 hb); have n2_ := am (below_step aq0 hb); have n3_ := am (hbox); have n4_ := am ((by rw [hg]; exact (below_size aq0) : w.heap.size ≤ gb102)); have n5_ := am ((by rw [hg]; exact (below_size aq0) : w.heap.size ≤ gb102)); have n6_ := am ((by rw [hg]; exact Nat.ne_of_lt (blk_lt (g := gb101) (o := .cells #[.int .i64 a0_0, .int .i64 a0_1, .slice A0_2 l0_2.length c0_2] 62 (0, 0)) aq2) : gb101 ≠ gb102)); have n7_ := am ((by rw [hg]; exact Nat.ne_of_gt (blk_lt (g := gb101) (o := .cells #[.int .i64 a0_0, .int .i64 a0_1, .slice A0_2 l0_2.length c0_2] 62 (0, 0)) aq2) : gb102 ≠ gb101)); clear HO0_2; clear BK101; clear HB; have HO0_2 := n0_; have BK101 := n1_; have HB := n2_; have BK102 := n3_; have GW102 := n4_; have GE102 := n5_; have NB101_102 := n6_; have NB102_101 := n7_; clear n0_ n1_ n2_ n3_ n4_ n5_ n6_ n7_; clear hb hbox hg; have hnb6 := NB101_102.out; have hnc6 := NB102_101.out; have hcz7_0 : w5.cell? ⟨gb101, 0, none⟩ = some (.int .i64 a0_0) := (blk_cell BK101.out 0).trans rfl; have hcz7_1 : w5.cell? ⟨gb101, 1, none⟩ = some (.int .i64 a0_1) := (blk_cell BK101.out 1).trans rfl; have hcz7_2 : w5.cell? ⟨gb101, 2, none⟩ = some (.slice A0_2 l0_2.length c0_2) := (blk_cell BK101.out 2).trans rfl; have hfz7_0 := blk_frozen BK101.out 0; have hfz7_1 := blk_frozen BK101.out 1; have hfz7_2 := blk_frozen BK101.out 2) | (go_at_call 99; (with_reducible refine (spec_tiRun.calls k a0_0 a0_1 (fun k_ => (((P0_2_ k_ ∨ w.heap.size ≤ k_) ∧ k_ ≠ gb101) ∧ k_ ≠ gb102)) _ _ l0_2 a1 t103 t104 t105 _ ?side1 A3.out).mono ?_); (case side1 => exact HO0_2.out); rintro e w8 ⟨v106, rfl, ho0, hb⟩; have n0_ := am (Kd.V_below aq23 hb); have n1_ := am (Kd.V_lower (Kd.V_mono (ok' := fun k_ => (P0_2_ k_ ∨ w.heap.size ≤ k_) ∧ k_ ≠ gb101 ∧ k_ ≠ gb102) ho0 (fun k_ hk_ => ⟨Or.elim hk_ (fun hs_ => hs_.1.1) (fun hn_ => (.inr (Nat.le_trans (below_size aq3) hn_))), Or.elim hk_ (fun hs_ => hs_.1.2) (fun hn_ => (Kd.freshB (g := gb101) (o := .cells #[.int .i64 a0_0, .int .i64 a0_1, .slice A0_2 l0_2.length c0_2] 62 (0, 0)) aq2 k_ hn_)), Or.elim hk_ (fun hs_ => hs_.2) (fun hn_ => (Kd.freshB (g := gb102) (o := .cells #[.int .i64 0, .int .i64 0, .slice none 0 0] 62 (0, 0)) aq8 k_ hn_))⟩)) (below_size aq3)); have n2_ := am (blk_below (g := gb101) (o := .cells #[.int .i64 a0_0, .int .i64 a0_1, .slice A0_2 l0_2.length c0_2] 62 (0, 0)) aq2 hb); have n3_ := am (blk_below (g := gb102) (o := .cells #[.int .i64 0, .int .i64 0, .slice none 0 0] 62 (0, 0)) aq8 hb); have n4_ := am (below_step aq3 hb); clear HO0_2; clear BK101; clear BK102; clear HB; have HO0_2 := n0_; have HO107 := n1_; have BK101 := n2_; have BK102 := n3_; have HB := n4_; clear n0_ n1_ n2_ n3_ n4_; (try clear hb); (try clear hb2); (try clear hk); (try clear hi); (try clear ho0)) | ((with_reducible refine gate_dst (N := 6) rfl ?_); refine box_event ?hg (N := 6) ?hd (cs := #[.int .i64 0, .int .i64 0, .slice none 0 0]) (t := 62) ?hr ?_; (case hd => rfl); (case hg => rfl); (case hr => exact aq15); intro gb108 hg w9 hbox hb; have n0_ := am (Kd.V_below (Kd.V_elderB aq23 gb108 (Nat.le_of_eq hg.symm)) hb); have n1_ := am (Kd.V_below (Kd.V_elderB aq88 gb108 (Nat.le_of_eq hg.symm)) hb); have n2_ := am (blk_below (g := gb101) (o := .cells #[.int .i64 a0_0, .int .i64 a0_1, .slice A0_2 l0_2.length c0_2] 62 (0, 0)) aq2 hb); have n3_ := am (blk_below (g := gb102) (o := .cells #[.int .i64 0, .int .i64 0, .slice none 0 0] 62 (0, 0)) aq8 hb); have n4_ := am (below_step aq3 hb); have n5_ := am (hbox); have n6_ := am ((by rw [hg]; exact (below_size aq3) : w.heap.size ≤ gb108)); have n7_ := am ((by rw [hg]; exact (below_size aq3) : w.heap.size ≤ gb108)); have n8_ := am ((by rw [hg]; exact Nat.ne_of_lt (blk_lt (g := gb101) (o := .cells #[.int .i64 a0_0, .int .i64 a0_1, .slice A0_2 l0_2.length c0_2] 62 (0, 0)) aq2) : gb101 ≠ gb108)); have n9_ := am ((by rw [hg]; exact Nat.ne_of_gt (blk_lt (g := gb101) (o := .cells #[.int .i64 a0_0, .int .i64 a0_1, .slice A0_2 l0_2.length c0_2] 62 (0, 0)) aq2) : gb108 ≠ gb101)); have n10_ := am ((by rw [hg]; exact Nat.ne_of_lt (blk_lt (g := gb102) (o := .cells #[.int .i64 0, .int .i64 0, .slice none 0 0] 62 (0, 0)) aq8) : gb102 ≠ gb108)); have n11_ := am ((by rw [hg]; exact Nat.ne_of_gt (blk_lt (g := gb102) (o := .cells #[.int .i64 0, .int .i64 0, .slice none 0 0] 62 (0, 0)) aq8) : gb108 ≠ gb102)); clear HO0_2; clear HO107; clear BK101; clear BK102; clear HB; have HO0_2 := n0_; have HO107 := n1_; have BK101 := n2_; have BK102 := n3_; have HB := n4_; have BK108 := n5_; have GW108 := n6_; have GE108 := n7_; have NB101_108 := n8_; have NB108_101 := n9_; have NB102_108 := n10_; have NB108_102 := n11_; clear n0_ n1_ n2_ n3_ n4_ n5_ n6_ n7_ n8_ n9_ n10_ n11_; clear hb hbox hg; have hnb10 := NB108_101.out; have hnc10 := NB101_108.out; have hnb11 := NB108_102.out; have hnc11 := NB102_108.out; have hcz12_0 : w9.cell? ⟨gb108, 0, none⟩ = some (.int .i64 0) := (blk_cell BK108.out 0).trans rfl; have hcz12_1 : w9.cell? ⟨gb108, 1, none⟩ = some (.int .i64 0) := (blk_cell BK108.out 1).trans rfl; have hcz12_2 : w9.cell? ⟨gb108, 2, none⟩ = some (.slice none 0 0) := (blk_cell BK108.out 2).trans rfl; have hfz12_0 := blk_frozen BK108.out 0; have hfz12_1 := blk_frozen BK108.out 1; have hfz12_2 := blk_frozen BK108.out 2; obtain ⟨Ao13, co13, eo13⟩ := Kd.V_slice HO107.out; subst eo13; have hcz14_0 : w9.cell? ⟨gb101, 0, none⟩ = some (.int .i64 a0_0) := (blk_cell BK101.out 0).trans rfl; have hcz14_1 : w9.cell? ⟨gb101, 1, none⟩ = some (.int .i64 a0_1) := (blk_cell BK101.out 1).trans rfl; have hcz14_2 : w9.cell? ⟨gb101, 2, none⟩ = some (.slice A0_2 l0_2.length c0_2) := (blk_cell BK101.out 2).trans rfl; have hfz14_0 := blk_frozen BK101.out 0; have hfz14_1 := blk_frozen BK101.out 1; have hfz14_2 := blk_frozen BK101.out 2)); try go_wp2_with (first | ((with_reducible refine gate_dst (N := 2) rfl ?_); refine box_event ?hg (N := 2) ?hd (cs := #[.int .i64 a0_0, .int .i64 a0_1, .slice A0_2 l0_2.length c0_2]) (t := 62) ?hr ?_; (case hd => rfl); (case hg => rfl); (case hr => exact aq15); intro gb101 hg w4 hbox hb; have n0_ := am (Kd.V_below (Kd.V_elderB aq23 gb101 (Nat.le_of_eq hg.symm)) hb); have n1_ := am (below_step aq1 hb); have n2_ := am (hbox); have n3_ := am ((by rw [hg]; exact (below_size aq1) : w.heap.size ≤ gb101)); have n4_ := am ((by rw [hg]; exact (below_size aq1) : w.heap.size ≤ gb101)); clear HO0_2; clear HB; have HO0_2 := n0_; have HB := n1_; have BK101 := n2_; have GW101 := n3_; have GE101 := n4_; clear n0_ n1_ n2_ n3_ n4_; clear hb hbox hg) | ((with_reducible refine gate_dst (N := 4) rfl ?_); refine box_event ?hg (N := 4) ?hd (cs := #[.int .i64 0, .int .i64 0, .slice none 0 0]) (t := 62) ?hr ?_; (case hd => rfl); (case hg => rfl); (case hr => exact aq15); intro gb102 hg w5 hbox hb; have n0_ := am (Kd.V_below (Kd.V_elderB aq23 gb102 (Nat.le_of_eq hg.symm)) hb); have n1_ := am (blk_below (g := gb101) (o := .cells #[.int .i64 a0_0, .int .i64 a0_1, .slice A0_2 l0_2.length c0_2] 62 (0, 0)) aq2 hb); have n2_ := am (below_step aq0 hb); have n3_ := am (hbox); have n4_ := am ((by rw [hg]; exact (below_size aq0) : w.heap.size ≤ gb102)); have n5_ := am ((by rw [hg]; exact (below_size aq0) : w.heap.size ≤ gb102)); have n6_ := am ((by rw [hg]; exact Nat.ne_of_lt (blk_lt (g := gb101) (o := .cells #[.int .i64 a0_0, .int .i64 a0_1, .slice A0_2 l0_2.length c0_2] 62 (0, 0)) aq2) : gb101 ≠ gb102)); have n7_ := am ((by rw [hg]; exact Nat.ne_of_gt (blk_lt (g := gb101) (o := .cells #[.int .i64 a0_0, .int .i64 a0_1, .slice A0_2 l0_2.length c0_2] 62 (0, 0)) aq2) : gb102 ≠ gb101)); clear HO0_2; clear BK101; clear HB; have HO0_2 := n0_; have BK101 := n1_; have HB := n2_; have BK102 := n3_; have GW102 := n4_; have GE102 := n5_; have NB101_102 := n6_; have NB102_101 := n7_; clear n0_ n1_ n2_ n3_ n4_ n5_ n6_ n7_; clear hb hbox hg; have hnb6 := NB101_102.out; have hnc6 := NB102_101.out; have hcz7_0 : w5.cell? ⟨gb101, 0, none⟩ = some (.int .i64 a0_0) := (blk_cell BK101.out 0).trans rfl; have hcz7_1 : w5.cell? ⟨gb101, 1, none⟩ = some (.int .i64 a0_1) := (blk_cell BK101.out 1).trans rfl; have hcz7_2 : w5.cell? ⟨gb101, 2, none⟩ = some (.slice A0_2 l0_2.length c0_2) := (blk_cell BK101.out 2).trans rfl; have hfz7_0 := blk_frozen BK101.out 0; have hfz7_1 := blk_frozen BK101.out 1; have hfz7_2 := blk_frozen BK101.out 2) | (go_at_call 99; (with_reducible refine (spec_tiRun.calls k a0_0 a0_1 (fun k_ => (((P0_2_ k_ ∨ w.heap.size ≤ k_) ∧ k_ ≠ gb101) ∧ k_ ≠ gb102)) _ _ l0_2 a1 t103 t104 t105 _ ?side1 A3.out).mono ?_); (case side1 => exact HO0_2.out); rintro e w8 ⟨v106, rfl, ho0, hb⟩; have n0_ := am (Kd.V_below aq23 hb); have n1_ := am (Kd.V_lower (Kd.V_mono (ok' := fun k_ => (P0_2_ k_ ∨ w.heap.size ≤ k_) ∧ k_ ≠ gb101 ∧ k_ ≠ gb102) ho0 (fun k_ hk_ => ⟨Or.elim hk_ (fun hs_ => hs_.1.1) (fun hn_ => (.inr (Nat.le_trans (below_size aq3) hn_))), Or.elim hk_ (fun hs_ => hs_.1.2) (fun hn_ => (Kd.freshB (g := gb101) (o := .cells #[.int .i64 a0_0, .int .i64 a0_1, .slice A0_2 l0_2.length c0_2] 62 (0, 0)) aq2 k_ hn_)), Or.elim hk_ (fun hs_ => hs_.2) (fun hn_ => (Kd.freshB (g := gb102) (o := .cells #[.int .i64 0, .int .i64 0, .slice none 0 0] 62 (0, 0)) aq8 k_ hn_))⟩)) (below_size aq3)); have n2_ := am (blk_below (g := gb101) (o := .cells #[.int .i64 a0_0, .int .i64 a0_1, .slice A0_2 l0_2.length c0_2] 62 (0, 0)) aq2 hb); have n3_ := am (blk_below (g := gb102) (o := .cells #[.int .i64 0, .int .i64 0, .slice none 0 0] 62 (0, 0)) aq8 hb); have n4_ := am (below_step aq3 hb); clear HO0_2; clear BK101; clear BK102; clear HB; have HO0_2 := n0_; have HO107 := n1_; have BK101 := n2_; have BK102 := n3_; have HB := n4_; clear n0_ n1_ n2_ n3_ n4_; (try clear hb); (try clear hb2); (try clear hk); (try clear hi); (try clear ho0)) | ((with_reducible refine gate_dst (N := 6) rfl ?_); refine box_event ?hg (N := 6) ?hd (cs := #[.int .i64 0, .int .i64 0, .slice none 0 0]) (t := 62) ?hr ?_; (case hd => rfl); (case hg => rfl); (case hr => exact aq15); intro gb108 hg w9 hbox hb; have n0_ := am (Kd.V_below (Kd.V_elderB aq23 gb108 (Nat.le_of_eq hg.symm)) hb); have n1_ := am (Kd.V_below (Kd.V_elderB aq88 gb108 (Nat.le_of_eq hg.symm)) hb); have n2_ := am (blk_below (g := gb101) (o := .cells #[.int .i64 a0_0, .int .i64 a0_1, .slice A0_2 l0_2.length c0_2] 62 (0, 0)) aq2 hb); have n3_ := am (blk_below (g := gb102) (o := .cells #[.int .i64 0, .int .i64 0, .slice none 0 0] 62 (0, 0)) aq8 hb); have n4_ := am (below_step aq3 hb); have n5_ := am (hbox); have n6_ := am ((by rw [hg]; exact (below_size aq3) : w.heap.size ≤ gb108)); have n7_ := am ((by rw [hg]; exact (below_size aq3) : w.heap.size ≤ gb108)); have n8_ := am ((by rw [hg]; exact Nat.ne_of_lt (blk_lt (g := gb101) (o := .cells #[.int .i64 a0_0, .int .i64 a0_1, .slice A0_2 l0_2.length c0_2] 62 (0, 0)) aq2) : gb101 ≠ gb108)); have n9_ := am ((by rw [hg]; exact Nat.ne_of_gt (blk_lt (g := gb101) (o := .cells #[.int .i64 a0_0, .int .i64 a0_1, .slice A0_2 l0_2.length c0_2] 62 (0, 0)) aq2) : gb108 ≠ gb101)); have n10_ := am ((by rw [hg]; exact Nat.ne_of_lt (blk_lt (g := gb102) (o := .cells #[.int .i64 0, .int .i64 0, .slice none 0 0] 62 (0, 0)) aq8) : gb102 ≠ gb108)); have n11_ := am ((by rw [hg]; exact Nat.ne_of_gt (blk_lt (g := gb102) (o := .cells #[.int .i64 0, .int .i64 0, .slice none 0 0] 62 (0, 0)) aq8) : gb108 ≠ gb102)); clear HO0_2; clear HO107; clear BK101; clear BK102; clear HB; have HO0_2 := n0_; have HO107 := n1_; have BK101 := n2_; have BK102 := n3_; have HB := n4_; have BK108 := n5_; have GW108 := n6_; have GE108 := n7_; have NB101_108 := n8_; have NB108_101 := n9_; have NB102_108 := n10_; have NB108_102 := n11_; clear n0_ n1_ n2_ n3_ n4_ n5_ n6_ n7_ n8_ n9_ n10_ n11_; clear hb hbox hg; have hnb10 := NB108_101.out; have hnc10 := NB101_108.out; have hnb11 := NB108_102.out; have hnc11 := NB102_108.out; have hcz12_0 : w9.cell? ⟨gb108, 0, none⟩ = some (.int .i64 0) := (blk_cell BK108.out 0).trans rfl; have hcz12_1 : w9.cell? ⟨gb108, 1, none⟩ = some (.int .i64 0) := (blk_cell BK108.out 1).trans rfl; have hcz12_2 : w9.cell? ⟨gb108, 2, none⟩ = some (.slice none 0 0) := (blk_cell BK108.out 2).trans rfl; have hfz12_0 := blk_frozen BK108.out 0; have hfz12_1 := blk_frozen BK108.out 1; have hfz12_2 := blk_frozen BK108.out 2; obtain ⟨Ao13, co13, eo13⟩ := Kd.V_slice HO107.out; subst eo13; have hcz14_0 : w9.cell? ⟨gb101, 0, none⟩ = some (.int .i64 a0_0) := (blk_cell BK101.out 0).trans rfl; have hcz14_1 : w9.cell? ⟨gb101, 1, none⟩ = some (.int .i64 a0_1) := (blk_cell BK101.out 1).trans rfl; have hcz14_2 : w9.cell? ⟨gb101, 2, none⟩ = some (.slice A0_2 l0_2.length c0_2) := (blk_cell BK101.out 2).trans rfl; have hfz14_0 := blk_frozen BK101.out 0; have hfz14_1 := blk_frozen BK101.out 1; have hfz14_2 := blk_frozen BK101.out 2)))
 go_loopg [15] k (fun kq v15 w' => ∃ (x15_1 : Int) (x103000_1 : Int) (x103001_1 : Int), v15 = .int .i64 x15_1 ∧ Aside0 (spec_mcBack.l0 kq l0_2 (l0_2.length : Int) x15_1 t103 t104 t105 = some (r1, r2, r3, r4)) ∧ Aside0 (kq ≤ k) ∧ Aside0 (Kd.V (Kd.int .u8) 5 w' w.heap.size (fun k_ => (P0_2_ k_ ∨ w.heap.size ≤ k_) ∧ k_ ≠ gb101 ∧ k_ ≠ gb102 ∧ k_ ≠ gb108) (.slice A0_2 l0_2.length c0_2) l0_2) ∧ Aside0 (Kd.V (Kd.int .u8) 5 w' w.heap.size (fun k_ => (P0_2_ k_ ∨ w.heap.size ≤ k_) ∧ k_ ≠ gb101 ∧ k_ ≠ gb102 ∧ k_ ≠ gb108) (.slice A0_2 l0_2.length c0_2) l0_2) ∧ Aside0 (Kd.V (Kd.int .u8) 5 w' w.heap.size (fun k_ => (P0_2_ k_ ∨ w.heap.size ≤ k_) ∧ k_ ≠ gb101 ∧ k_ ≠ gb102 ∧ k_ ≠ gb108) (.slice Ao13 t105.length co13) t105) ∧ Aside0 (w'.heap[gb101]? = some (.cells #[.int .i64 a0_0, .int .i64 a0_1, (.slice A0_2 l0_2.length c0_2)] 62 (0, 0))) ∧ Aside0 (w'.heap[gb102]? = some (.cells #[.int .i64 x103000_1, .int .i64 x103001_1, (.slice none 0 0)] 62 (0, 0))) ∧ Aside0 (w'.heap[gb108]? = some (.cells #[.int .i64 t103, .int .i64 t104, (.slice Ao13 t105.length co13)] 62 (0, 0))) ∧ Aside0 (Below w.heap.size w w'))
 case atStart => exact ⟨(0), (0), (0), aq6, H', ⟨Nat.le_refl _⟩, ⟨aq57⟩, ⟨aq57⟩, ⟨by (with_reducible repeat (first | apply Kd.V_alloc | apply Kd.V_drewN | apply Kd.V_drew)); exact Kd.V_mono (Kd.V_far (p := ⟨gb108, 2, none⟩) (Kd.V_far (p := ⟨gb108, 1, none⟩) (Kd.V_far (p := ⟨gb108, 0, none⟩) (Kd.V_mono HO107.out (fun k_ hk => (⟨hk, hk.2⟩ : _ ∧ k_ ≠ gb108))) (fun _ hk => hk.2) (.int .i64 t103)) (fun _ hk => hk.2) (.int .i64 t104)) (fun _ hk => hk.2) (.slice Ao13 t105.length co13)) (fun _ hk => ⟨hk.1.1.1, ⟨hk.1.1.2.1, ⟨hk.1.1.2.2, hk.1.2⟩⟩⟩)⟩, ⟨aq34⟩, ⟨by (with_reducible repeat (first | refine blk_drewN ?_ _ | refine blk_drew ?_ | refine blk_alloc ?_ _)); refine blk_far ?_ NB102_108.out _; (with_reducible repeat (first | refine blk_drewN ?_ _ | refine blk_drew ?_ | refine blk_alloc ?_ _)); refine blk_far ?_ NB102_108.out _; (with_reducible repeat (first | refine blk_drewN ?_ _ | refine blk_drew ?_ | refine blk_alloc ?_ _)); refine blk_far ?_ NB102_108.out _; (with_reducible repeat (first | refine blk_drewN ?_ _ | refine blk_drew ?_ | refine blk_alloc ?_ _)); exact BK102.out⟩, ⟨by (with_reducible repeat (first | refine blk_drewN ?_ _ | refine blk_drew ?_ | refine blk_alloc ?_ _)); refine blk_put (cs := #[.int .i64 t103, .int .i64 t104, .slice none 0 0]) ?_ 2 _ rfl; (with_reducible repeat (first | refine blk_drewN ?_ _ | refine blk_drew ?_ | refine blk_alloc ?_ _)); refine blk_put (cs := #[.int .i64 t103, .int .i64 0, .slice none 0 0]) ?_ 1 _ rfl; (with_reducible repeat (first | refine blk_drewN ?_ _ | refine blk_drew ?_ | refine blk_alloc ?_ _)); refine blk_put (cs := #[.int .i64 0, .int .i64 0, .slice none 0 0]) ?_ 0 _ rfl; (with_reducible repeat (first | refine blk_drewN ?_ _ | refine blk_drew ?_ | refine blk_alloc ?_ _)); exact BK108.out⟩, ⟨aq37⟩⟩
 case round =>
  clear H'
  try clear c1
  try clear p2
  try clear c5
  try clear c6
  try clear c10
  try clear c11
  try clear hcz12_0
  try clear hcz12_1
  try clear hcz12_2
  try clear hcz14_0
  try clear hcz14_1
  try clear hcz14_2
  try clear hcz7_0
  try clear hcz7_1
  try clear hcz7_2
  try clear hfz12_0
  try clear hfz12_1
  try clear hfz12_2
  try clear hfz14_0
  try clear hfz14_1
  try clear hfz14_2
  try clear hfz7_0
  try clear hfz7_1
  try clear hfz7_2
  obtain ⟨x15_1, x103000_1, x103001_1, rfl, HA, HK1, HO_13, HO_102002, HO_109002, BK101, BK102, BK108, HB⟩ := hrel
  cases gk with
  | zero => exact absurd HA.out (by simp [spec_mcBack.l0])
  | succ k1 =>
   have H := HA.out
   clear HA
   simp only [spec_mcBack.l0] at H
   by_cases c15 : x15_1 < (l0_2.length : Int)
   ·rw [if_pos c15] at H
    have c15b0 : decide (x15_1 < (l0_2.length : Int)) = true := decide_eq_true c15
    clear c15
    by_cases c16 : 0 ≤ x15_1
    ·rw [if_pos c16] at H
     have c16b0 : decide (0 ≤ x15_1) = true := decide_eq_true c16
     clear c16
     by_cases c17 : x15_1 < (l0_2.length : Int)
     ·rw [if_pos c17] at H
      have c17b0 : decide (x15_1 < (l0_2.length : Int)) = true := decide_eq_true c17
      clear c17
      replace H := Option.bind_eq_some_iff.mp H
      obtain ⟨t110, A180, H⟩ := H
      replace H : (if x15_1 < (t105.length : Int) then ((spec_tyBall.f (rd t105 x15_1)).bind fun t112 => (if (t110 != t112) = true then (some (t103, t104, t105, false)) else (spec_mcBack.l0 k1 l0_2 (l0_2.length : Int) (wrap64 (x15_1 + 1)) t103 t104 t105))) else (none)) = some (r1, r2, r3, r4) := H
      have A18 := am A180
      clear A180
      by_cases c19 : x15_1 < (t105.length : Int)
      ·rw [if_pos c19] at H
       have c19b0 : decide (x15_1 < (t105.length : Int)) = true := decide_eq_true c19
       clear c19
       replace H := Option.bind_eq_some_iff.mp H
       obtain ⟨t112, A200, H⟩ := H
       replace H : (if (t110 != t112) = true then (some (t103, t104, t105, false)) else (spec_mcBack.l0 k1 l0_2 (l0_2.length : Int) (wrap64 (x15_1 + 1)) t103 t104 t105)) = some (r1, r2, r3, r4) := H
       have A20 := am A200
       clear A200
       by_cases c21 : (t110 != t112) = true
       ·rw [if_pos c21] at H
        have c21b0 : (t110 != t112) = true := c21
        (try (have c21b1 : decide (t110 = t112) = false := by simpa using c21))
        (try (have c21b2 : (t110 == t112) = false := by simpa using c21))
        (try (have c21b3 : ¬ (t110 = t112) := by simpa using c21))
        clear c21
        simp only [Option.some.injEq, Prod.mk.injEq] at H
        obtain ⟨rfl, rfl, rfl, rfl⟩ := H
        have p109 : 0 ≤ (x15_1 : Int) := of_decide_eq_true aq5
        have q109 : x15_1 < (l0_2.length : Int) := of_decide_eq_true aq5
        obtain ⟨ad109, e109, hx109_0⟩ := Kd.at_int (Kd.V_reads' HO_13.out).2.2 x15_1 p109 q109
        cases e109
        replace p109 := eq_true p109
        replace q109 := eq_true q109
        go_wp2_with (first | (go_at_call 100; (with_reducible refine (spec_tyBall.calls (rd l0_2 x15_1) t110 _ A18.out).mono ?_); rintro e w' ⟨rfl, ⟨nd, rfl⟩⟩; (try first | exact ⟨rfl, _, World.drewN_drewN _ _ _⟩ | exact ⟨rfl, _, Eq.trans (World.drewN_drewN _ _ _) (congrArg (World.drewN _) (Nat.add_assoc _ _ _))⟩); have hnb22 := NB108_101.out; have hnc22 := NB101_108.out; have hnb23 := NB108_102.out; have hnc23 := NB102_108.out; have hcz24_0 : wr.cell? ⟨gb108, 0, none⟩ = some (.int .i64 t103) := (blk_cell BK108.out 0).trans rfl; have hcz24_1 : wr.cell? ⟨gb108, 1, none⟩ = some (.int .i64 t104) := (blk_cell BK108.out 1).trans rfl; have hcz24_2 : wr.cell? ⟨gb108, 2, none⟩ = some (.slice Ao13 t105.length co13) := (blk_cell BK108.out 2).trans rfl; have hfz24_0 := blk_frozen BK108.out 0; have hfz24_1 := blk_frozen BK108.out 1; have hfz24_2 := blk_frozen BK108.out 2; have p111 : 0 ≤ (x15_1 : Int) := of_decide_eq_true aq5; have q111 : x15_1 < (t105.length : Int) := of_decide_eq_true aq5; obtain ⟨ad111, e111, hx111_0⟩ := Kd.at_int (Kd.V_reads' HO_109002.out).2.2 x15_1 p111 q111; cases e111; replace p111 := eq_true p111; replace q111 := eq_true q111) | (go_at_call 100; (with_reducible refine (spec_tyBall.calls (rd t105 x15_1) t112 _ A20.out).mono ?_); rintro e w' ⟨rfl, ⟨nd, rfl⟩⟩; (try first | exact ⟨rfl, _, World.drewN_drewN _ _ _⟩ | exact ⟨rfl, _, Eq.trans (World.drewN_drewN _ _ _) (congrArg (World.drewN _) (Nat.add_assoc _ _ _))⟩); have hnb25 := NB102_101.out; have hnc25 := NB101_102.out; have hcz26_0 : wr.cell? ⟨gb102, 0, none⟩ = some (.int .i64 x103000_1) := (blk_cell BK102.out 0).trans rfl; have hcz26_1 : wr.cell? ⟨gb102, 1, none⟩ = some (.int .i64 x103001_1) := (blk_cell BK102.out 1).trans rfl; have hcz26_2 : wr.cell? ⟨gb102, 2, none⟩ = some (.slice none 0 0) := (blk_cell BK102.out 2).trans rfl; have hfz26_0 := blk_frozen BK102.out 0; have hfz26_1 := blk_frozen BK102.out 1; have hfz26_2 := blk_frozen BK102.out 2))
        repeat (go_quiet (first | (go_at_call 100; (with_reducible refine (spec_tyBall.calls (rd l0_2 x15_1) t110 _ A18.out).mono ?_); rintro e w' ⟨rfl, ⟨nd, rfl⟩⟩; (try first | exact ⟨rfl, _, World.drewN_drewN _ _ _⟩ | exact ⟨rfl, _, Eq.trans (World.drewN_drewN _ _ _) (congrArg (World.drewN _) (Nat.add_assoc _ _ _))⟩); have hnb22 := NB108_101.out; have hnc22 := NB101_108.out; have hnb23 := NB108_102.out; have hnc23 := NB102_108.out; have hcz24_0 : wr.cell? ⟨gb108, 0, none⟩ = some (.int .i64 t103) := (blk_cell BK108.out 0).trans rfl; have hcz24_1 : wr.cell? ⟨gb108, 1, none⟩ = some (.int .i64 t104) := (blk_cell BK108.out 1).trans rfl; have hcz24_2 : wr.cell? ⟨gb108, 2, none⟩ = some (.slice Ao13 t105.length co13) := (blk_cell BK108.out 2).trans rfl; have hfz24_0 := blk_frozen BK108.out 0; have hfz24_1 := blk_frozen BK108.out 1; have hfz24_2 := blk_frozen BK108.out 2; have p111 : 0 ≤ (x15_1 : Int) := of_decide_eq_true aq5; have q111 : x15_1 < (t105.length : Int) := of_decide_eq_true aq5; obtain ⟨ad111, e111, hx111_0⟩ := Kd.at_int (Kd.V_reads' HO_109002.out).2.2 x15_1 p111 q111; cases e111; replace p111 := eq_true p111; replace q111 := eq_true q111) | (go_at_call 100; (with_reducible refine (spec_tyBall.calls (rd t105 x15_1) t112 _ A20.out).mono ?_); rintro e w' ⟨rfl, ⟨nd, rfl⟩⟩; (try first | exact ⟨rfl, _, World.drewN_drewN _ _ _⟩ | exact ⟨rfl, _, Eq.trans (World.drewN_drewN _ _ _) (congrArg (World.drewN _) (Nat.add_assoc _ _ _))⟩); have hnb25 := NB102_101.out; have hnc25 := NB101_102.out; have hcz26_0 : wr.cell? ⟨gb102, 0, none⟩ = some (.int .i64 x103000_1) := (blk_cell BK102.out 0).trans rfl; have hcz26_1 : wr.cell? ⟨gb102, 1, none⟩ = some (.int .i64 x103001_1) := (blk_cell BK102.out 1).trans rfl; have hcz26_2 : wr.cell? ⟨gb102, 2, none⟩ = some (.slice none 0 0) := (blk_cell BK102.out 2).trans rfl; have hfz26_0 := blk_frozen BK102.out 0; have hfz26_1 := blk_frozen BK102.out 1; have hfz26_2 := blk_frozen BK102.out 2)); try go_wp2_with (first | (go_at_call 100; (with_reducible refine (spec_tyBall.calls (rd l0_2 x15_1) t110 _ A18.out).mono ?_); rintro e w' ⟨rfl, ⟨nd, rfl⟩⟩; (try first | exact ⟨rfl, _, World.drewN_drewN _ _ _⟩ | exact ⟨rfl, _, Eq.trans (World.drewN_drewN _ _ _) (congrArg (World.drewN _) (Nat.add_assoc _ _ _))⟩); have hnb22 := NB108_101.out; have hnc22 := NB101_108.out; have hnb23 := NB108_102.out; have hnc23 := NB102_108.out; have hcz24_0 : wr.cell? ⟨gb108, 0, none⟩ = some (.int .i64 t103) := (blk_cell BK108.out 0).trans rfl; have hcz24_1 : wr.cell? ⟨gb108, 1, none⟩ = some (.int .i64 t104) := (blk_cell BK108.out 1).trans rfl; have hcz24_2 : wr.cell? ⟨gb108, 2, none⟩ = some (.slice Ao13 t105.length co13) := (blk_cell BK108.out 2).trans rfl; have hfz24_0 := blk_frozen BK108.out 0; have hfz24_1 := blk_frozen BK108.out 1; have hfz24_2 := blk_frozen BK108.out 2; have p111 : 0 ≤ (x15_1 : Int) := of_decide_eq_true aq5; have q111 : x15_1 < (t105.length : Int) := of_decide_eq_true aq5; obtain ⟨ad111, e111, hx111_0⟩ := Kd.at_int (Kd.V_reads' HO_109002.out).2.2 x15_1 p111 q111; cases e111; replace p111 := eq_true p111; replace q111 := eq_true q111) | (go_at_call 100; (with_reducible refine (spec_tyBall.calls (rd t105 x15_1) t112 _ A20.out).mono ?_); rintro e w' ⟨rfl, ⟨nd, rfl⟩⟩; (try first | exact ⟨rfl, _, World.drewN_drewN _ _ _⟩ | exact ⟨rfl, _, Eq.trans (World.drewN_drewN _ _ _) (congrArg (World.drewN _) (Nat.add_assoc _ _ _))⟩); have hnb25 := NB102_101.out; have hnc25 := NB101_102.out; have hcz26_0 : wr.cell? ⟨gb102, 0, none⟩ = some (.int .i64 x103000_1) := (blk_cell BK102.out 0).trans rfl; have hcz26_1 : wr.cell? ⟨gb102, 1, none⟩ = some (.int .i64 x103001_1) := (blk_cell BK102.out 1).trans rfl; have hcz26_2 : wr.cell? ⟨gb102, 2, none⟩ = some (.slice none 0 0) := (blk_cell BK102.out 2).trans rfl; have hfz26_0 := blk_frozen BK102.out 0; have hfz26_1 := blk_frozen BK102.out 1; have hfz26_2 := blk_frozen BK102.out 2)))
        refine bodyPost_ret (results_ct rfl _ _ gb102 62 #[.int .i64 t103, .int .i64 t104, .slice (some ad111) t105.length co13] (0, 0) _ rfl aq36 Tryz.underlying62 rfl (by kernel_rfl)) rfl ?_
        exact ⟨_, aq7, by (with_reducible repeat (first | apply Kd.V_alloc | apply Kd.V_drewN | apply Kd.V_drew)); exact Kd.V_mono (Kd.V_far (p := ⟨gb102, 2, none⟩) (Kd.V_far (p := ⟨gb102, 1, none⟩) (Kd.V_far (p := ⟨gb102, 0, none⟩) (Kd.V_mono HO_109002.out (fun k_ hk => (⟨hk, hk.2.2.1⟩ : _ ∧ k_ ≠ gb102))) (fun _ hk => hk.2) (.int .i64 t103)) (fun _ hk => hk.2) (.int .i64 t104)) (fun _ hk => hk.2) (.slice (some ad111) t105.length co13)) (fun _ hk => hk.1.1), aq37⟩
       ·rw [if_neg c21] at H
        have c21b0 : (t110 != t112) = false := by simpa using c21
        (try (have c21b1 : decide (t110 = t112) = true := by simpa using c21))
        (try (have c21b2 : (t110 == t112) = true := by simpa using c21))
        clear c21
        have H' := am H
        clear H
        have p109 : 0 ≤ (x15_1 : Int) := of_decide_eq_true aq5
        have q109 : x15_1 < (l0_2.length : Int) := of_decide_eq_true aq5
        obtain ⟨ad109, e109, hx109_0⟩ := Kd.at_int (Kd.V_reads' HO_13.out).2.2 x15_1 p109 q109
        cases e109
        replace p109 := eq_true p109
        replace q109 := eq_true q109
        go_wp2_with (first | (go_at_call 100; (with_reducible refine (spec_tyBall.calls (rd l0_2 x15_1) t110 _ A18.out).mono ?_); rintro e w' ⟨rfl, ⟨nd, rfl⟩⟩; (try first | exact ⟨rfl, _, World.drewN_drewN _ _ _⟩ | exact ⟨rfl, _, Eq.trans (World.drewN_drewN _ _ _) (congrArg (World.drewN _) (Nat.add_assoc _ _ _))⟩); have hnb27 := NB108_101.out; have hnc27 := NB101_108.out; have hnb28 := NB108_102.out; have hnc28 := NB102_108.out; have hcz29_0 : wr.cell? ⟨gb108, 0, none⟩ = some (.int .i64 t103) := (blk_cell BK108.out 0).trans rfl; have hcz29_1 : wr.cell? ⟨gb108, 1, none⟩ = some (.int .i64 t104) := (blk_cell BK108.out 1).trans rfl; have hcz29_2 : wr.cell? ⟨gb108, 2, none⟩ = some (.slice Ao13 t105.length co13) := (blk_cell BK108.out 2).trans rfl; have hfz29_0 := blk_frozen BK108.out 0; have hfz29_1 := blk_frozen BK108.out 1; have hfz29_2 := blk_frozen BK108.out 2; have p111 : 0 ≤ (x15_1 : Int) := of_decide_eq_true aq5; have q111 : x15_1 < (t105.length : Int) := of_decide_eq_true aq5; obtain ⟨ad111, e111, hx111_0⟩ := Kd.at_int (Kd.V_reads' HO_109002.out).2.2 x15_1 p111 q111; cases e111; replace p111 := eq_true p111; replace q111 := eq_true q111) | (go_at_call 100; (with_reducible refine (spec_tyBall.calls (rd t105 x15_1) t112 _ A20.out).mono ?_); rintro e w' ⟨rfl, ⟨nd, rfl⟩⟩; (try first | exact ⟨rfl, _, World.drewN_drewN _ _ _⟩ | exact ⟨rfl, _, Eq.trans (World.drewN_drewN _ _ _) (congrArg (World.drewN _) (Nat.add_assoc _ _ _))⟩)))
        repeat (go_quiet (first | (go_at_call 100; (with_reducible refine (spec_tyBall.calls (rd l0_2 x15_1) t110 _ A18.out).mono ?_); rintro e w' ⟨rfl, ⟨nd, rfl⟩⟩; (try first | exact ⟨rfl, _, World.drewN_drewN _ _ _⟩ | exact ⟨rfl, _, Eq.trans (World.drewN_drewN _ _ _) (congrArg (World.drewN _) (Nat.add_assoc _ _ _))⟩); have hnb27 := NB108_101.out; have hnc27 := NB101_108.out; have hnb28 := NB108_102.out; have hnc28 := NB102_108.out; have hcz29_0 : wr.cell? ⟨gb108, 0, none⟩ = some (.int .i64 t103) := (blk_cell BK108.out 0).trans rfl; have hcz29_1 : wr.cell? ⟨gb108, 1, none⟩ = some (.int .i64 t104) := (blk_cell BK108.out 1).trans rfl; have hcz29_2 : wr.cell? ⟨gb108, 2, none⟩ = some (.slice Ao13 t105.length co13) := (blk_cell BK108.out 2).trans rfl; have hfz29_0 := blk_frozen BK108.out 0; have hfz29_1 := blk_frozen BK108.out 1; have hfz29_2 := blk_frozen BK108.out 2; have p111 : 0 ≤ (x15_1 : Int) := of_decide_eq_true aq5; have q111 : x15_1 < (t105.length : Int) := of_decide_eq_true aq5; obtain ⟨ad111, e111, hx111_0⟩ := Kd.at_int (Kd.V_reads' HO_109002.out).2.2 x15_1 p111 q111; cases e111; replace p111 := eq_true p111; replace q111 := eq_true q111) | (go_at_call 100; (with_reducible refine (spec_tyBall.calls (rd t105 x15_1) t112 _ A20.out).mono ?_); rintro e w' ⟨rfl, ⟨nd, rfl⟩⟩; (try first | exact ⟨rfl, _, World.drewN_drewN _ _ _⟩ | exact ⟨rfl, _, Eq.trans (World.drewN_drewN _ _ _) (congrArg (World.drewN _) (Nat.add_assoc _ _ _))⟩))); try go_wp2_with (first | (go_at_call 100; (with_reducible refine (spec_tyBall.calls (rd l0_2 x15_1) t110 _ A18.out).mono ?_); rintro e w' ⟨rfl, ⟨nd, rfl⟩⟩; (try first | exact ⟨rfl, _, World.drewN_drewN _ _ _⟩ | exact ⟨rfl, _, Eq.trans (World.drewN_drewN _ _ _) (congrArg (World.drewN _) (Nat.add_assoc _ _ _))⟩); have hnb27 := NB108_101.out; have hnc27 := NB101_108.out; have hnb28 := NB108_102.out; have hnc28 := NB102_108.out; have hcz29_0 : wr.cell? ⟨gb108, 0, none⟩ = some (.int .i64 t103) := (blk_cell BK108.out 0).trans rfl; have hcz29_1 : wr.cell? ⟨gb108, 1, none⟩ = some (.int .i64 t104) := (blk_cell BK108.out 1).trans rfl; have hcz29_2 : wr.cell? ⟨gb108, 2, none⟩ = some (.slice Ao13 t105.length co13) := (blk_cell BK108.out 2).trans rfl; have hfz29_0 := blk_frozen BK108.out 0; have hfz29_1 := blk_frozen BK108.out 1; have hfz29_2 := blk_frozen BK108.out 2; have p111 : 0 ≤ (x15_1 : Int) := of_decide_eq_true aq5; have q111 : x15_1 < (t105.length : Int) := of_decide_eq_true aq5; obtain ⟨ad111, e111, hx111_0⟩ := Kd.at_int (Kd.V_reads' HO_109002.out).2.2 x15_1 p111 q111; cases e111; replace p111 := eq_true p111; replace q111 := eq_true q111) | (go_at_call 100; (with_reducible refine (spec_tyBall.calls (rd t105 x15_1) t112 _ A20.out).mono ?_); rintro e w' ⟨rfl, ⟨nd, rfl⟩⟩; (try first | exact ⟨rfl, _, World.drewN_drewN _ _ _⟩ | exact ⟨rfl, _, Eq.trans (World.drewN_drewN _ _ _) (congrArg (World.drewN _) (Nat.add_assoc _ _ _))⟩))))
        go_roundg k1
        case measure => have := HK1.out; omega
        case rel => exact ⟨(wrap64 (x15_1 + 1)), (x103000_1), (x103001_1), aq6, H', ⟨aq68⟩, ⟨by (with_reducible repeat (first | apply Kd.V_alloc | apply Kd.V_drewN | apply Kd.V_drew)); exact HO_13.out⟩, ⟨by (with_reducible repeat (first | apply Kd.V_alloc | apply Kd.V_drewN | apply Kd.V_drew)); exact HO_102002.out⟩, ⟨aq55⟩, ⟨aq2⟩, ⟨aq8⟩, ⟨aq19⟩, ⟨aq37⟩⟩
      ·rw [if_neg c19] at H
       exact absurd H (by simp)
     ·rw [if_neg c17] at H
      exact absurd H (by simp)
    ·rw [if_neg c16] at H
     exact absurd H (by simp)
   ·rw [if_neg c15] at H
    have c15b0 : decide (x15_1 < (l0_2.length : Int)) = false := decide_eq_false c15
    clear c15
    simp only [Option.some.injEq, Prod.mk.injEq] at H
    obtain ⟨rfl, rfl, rfl, rfl⟩ := H
    have hnb30 := NB108_101.out
    have hnc30 := NB101_108.out
    have hnb31 := NB108_102.out
    have hnc31 := NB102_108.out
    have hcz32_0 : wr.cell? ⟨gb108, 0, none⟩ = some (.int .i64 t103) := (blk_cell BK108.out 0).trans rfl
    have hcz32_1 : wr.cell? ⟨gb108, 1, none⟩ = some (.int .i64 t104) := (blk_cell BK108.out 1).trans rfl
    have hcz32_2 : wr.cell? ⟨gb108, 2, none⟩ = some (.slice Ao13 t105.length co13) := (blk_cell BK108.out 2).trans rfl
    have hfz32_0 := blk_frozen BK108.out 0
    have hfz32_1 := blk_frozen BK108.out 1
    have hfz32_2 := blk_frozen BK108.out 2
    have hnb33 := NB102_101.out
    have hnc33 := NB101_102.out
    have hcz34_0 : wr.cell? ⟨gb102, 0, none⟩ = some (.int .i64 x103000_1) := (blk_cell BK102.out 0).trans rfl
    have hcz34_1 : wr.cell? ⟨gb102, 1, none⟩ = some (.int .i64 x103001_1) := (blk_cell BK102.out 1).trans rfl
    have hcz34_2 : wr.cell? ⟨gb102, 2, none⟩ = some (.slice none 0 0) := (blk_cell BK102.out 2).trans rfl
    have hfz34_0 := blk_frozen BK102.out 0
    have hfz34_1 := blk_frozen BK102.out 1
    have hfz34_2 := blk_frozen BK102.out 2
    go_wp2
    repeat (go_quiet (fail); try go_wp2)
    refine bodyPost_ret (results_ct rfl _ _ gb102 62 #[.int .i64 t103, .int .i64 t104, .slice Ao13 t105.length co13] (0, 0) _ rfl aq36 Tryz.underlying62 rfl (by kernel_rfl)) rfl ?_
    exact ⟨_, aq7, by (with_reducible repeat (first | apply Kd.V_alloc | apply Kd.V_drewN | apply Kd.V_drew)); exact Kd.V_mono (Kd.V_far (p := ⟨gb102, 2, none⟩) (Kd.V_far (p := ⟨gb102, 1, none⟩) (Kd.V_far (p := ⟨gb102, 0, none⟩) (Kd.V_mono HO_109002.out (fun k_ hk => (⟨hk, hk.2.2.1⟩ : _ ∧ k_ ≠ gb102))) (fun _ hk => hk.2) (.int .i64 t103)) (fun _ hk => hk.2) (.int .i64 t104)) (fun _ hk => hk.2) (.slice Ao13 t105.length co13)) (fun _ hk => hk.1.1), aq37⟩
def spec_tyBalls.l0 : Nat → List Int → List Int → Int → Int → Option (List Int)
 | 0, _, _, _, _ => none
 | k + 1, x3, x7, x8, x9 => if x9 < x8 then (if 0 ≤ x9 then (if x9 < (x7.length : Int) then ((spec_tyBall.f (rd x7 x9)).bind fun t103 => (if t103 = true then (if x3.length < 17592186044416 then (spec_tyBalls.l0 k (x3 ++ [x9]) x7 x8 (wrap64 (x9 + 1))) else (none)) else (spec_tyBalls.l0 k x3 x7 x8 (wrap64 (x9 + 1))))) else (none)) else (none)) else (some x3)
def spec_tyBalls.f (k : Nat) (a0_0 : Int) (a0_1 : Int) (l0_2 : List Int) : Option (List Int) := spec_tyBalls.l0 k ([] : List Int) l0_2 (l0_2.length : Int) 0
theorem spec_tyBalls.mono_l : ∀ k, (∀ y0 y1 y2 y3, LeO (spec_tyBalls.l0 k y0 y1 y2 y3) (spec_tyBalls.l0 (k + 1) y0 y1 y2 y3))
 | 0 => fun _ _ _ _ r h => by simp [spec_tyBalls.l0] at h
 | k + 1 => by
  have ih0 := spec_tyBalls.mono_l k
  ·intro y0 y1 y2 y3
   unfold spec_tyBalls.l0
   exact mo
theorem spec_tyBalls.mono : ∀ a0 a1 a2 k, LeO (spec_tyBalls.f k a0 a1 a2) (spec_tyBalls.f (k + 1) a0 a1 a2) := by
 intro a0 a1 a2 k
 have ih0 := spec_tyBalls.mono_l k
 unfold spec_tyBalls.f
 exact mo
set_option maxHeartbeats 8000000 in
set_option maxRecDepth 100000 in
theorem spec_tyBalls.calls (k : Nat) (a0_0 : Int) (a0_1 : Int) (A0_2 : Option Addr) (c0_2 : Nat) (l0_2 : List Int) (r : List Int) (w : World) (hr0_2 : Kd.C (Kd.int .u8) w A0_2 l0_2.length l0_2) (hc0_2 : l0_2.length ≤ c0_2) (h : spec_tyBalls.f k a0_0 a0_1 l0_2 = some r) :
  Calls Tryz.prog 153 #[.agg #[.int .i64 a0_0, .int .i64 a0_1, .slice A0_2 l0_2.length c0_2]] w fun e w' => ∃ v0_ : Value, e = .returned (v0_) ∧ Kd.R (Kd.int .i64) 3 w' w.heap.size (fun _ => True) v0_ r ∧ Below w.heap.size w w' := by
 have hu62 := Tryz.underlying62
 have HR0_2 := am hr0_2
 have HC0_2 := am hc0_2
 clear hr0_2 hc0_2
 have HB := am (Below.refl w.heap.size w)
 have H : (spec_tyBalls.l0 k ([] : List Int) l0_2 (l0_2.length : Int) 0) = some r := h
 clear h
 have H' := am H
 clear H
 go_enter Tryz.func153, Tryz.ntmps153
 go_wp2_with (first | ((with_reducible refine gate_dst (N := 1) rfl ?_); refine box_event ?hg (N := 1) ?hd (cs := #[.int .i64 a0_0, .int .i64 a0_1, .slice A0_2 l0_2.length c0_2]) (t := 62) ?hr ?_; (case hd => rfl); (case hg => rfl); (case hr => exact aq15); intro gb101 hg w2 hbox hb; have n0_ := am (below_step aq1 hb); have n1_ := am (hbox); have n2_ := am ((by rw [hg]; exact (below_size aq1) : w.heap.size ≤ gb101)); have n3_ := am ((by rw [hg]; exact (below_size aq1) : w.heap.size ≤ gb101)); clear HB; have HB := n0_; have BK101 := n1_; have GW101 := n2_; have GE101 := n3_; clear n0_ n1_ n2_ n3_; clear hb hbox hg; have hcz3_0 : w2.cell? ⟨gb101, 0, none⟩ = some (.int .i64 a0_0) := (blk_cell BK101.out 0).trans rfl; have hcz3_1 : w2.cell? ⟨gb101, 1, none⟩ = some (.int .i64 a0_1) := (blk_cell BK101.out 1).trans rfl; have hcz3_2 : w2.cell? ⟨gb101, 2, none⟩ = some (.slice A0_2 l0_2.length c0_2) := (blk_cell BK101.out 2).trans rfl; have hfz3_0 := blk_frozen BK101.out 0; have hfz3_1 := blk_frozen BK101.out 1; have hfz3_2 := blk_frozen BK101.out 2))
 go_loopg [3, 9] k (fun kq v3 v9 w' => ∃ (x3_1 : List Int) (x9_1 : Int), v9 = .int .i64 x9_1 ∧ Aside0 (spec_tyBalls.l0 kq x3_1 l0_2 (l0_2.length : Int) x9_1 = some r) ∧ Aside0 (kq ≤ k) ∧ Aside0 (Kd.R (Kd.int .i64) 3 w' w.heap.size (fun _ => True) v3 x3_1) ∧ Aside0 (w'.heap[gb101]? = some (.cells #[.int .i64 a0_0, .int .i64 a0_1, (.slice A0_2 l0_2.length c0_2)] 62 (0, 0))) ∧ Aside0 (Below w.heap.size w w'))
 case atStart => exact ⟨(([] : List Int)), (0), aq6, H', ⟨Nat.le_refl _⟩, ⟨aq16⟩, ⟨aq2⟩, ⟨aq0⟩⟩
 case round =>
  clear H'
  try clear c1
  try clear p2
  try clear hcz3_0
  try clear hcz3_1
  try clear hcz3_2
  try clear hfz3_0
  try clear hfz3_1
  try clear hfz3_2
  obtain ⟨x3_1, x9_1, rfl, HA, HK1, HO_3, BK101, HB⟩ := hrel
  cases gk with
  | zero => exact absurd HA.out (by simp [spec_tyBalls.l0])
  | succ k1 =>
   have H := HA.out
   clear HA
   simp only [spec_tyBalls.l0] at H
   by_cases c4 : x9_1 < (l0_2.length : Int)
   ·rw [if_pos c4] at H
    have c4b0 : decide (x9_1 < (l0_2.length : Int)) = true := decide_eq_true c4
    clear c4
    by_cases c5 : 0 ≤ x9_1
    ·rw [if_pos c5] at H
     have c5b0 : decide (0 ≤ x9_1) = true := decide_eq_true c5
     clear c5
     by_cases c6 : x9_1 < (l0_2.length : Int)
     ·rw [if_pos c6] at H
      have c6b0 : decide (x9_1 < (l0_2.length : Int)) = true := decide_eq_true c6
      clear c6
      replace H := Option.bind_eq_some_iff.mp H
      obtain ⟨t103, A70, H⟩ := H
      replace H : (if t103 = true then (if x3_1.length < 17592186044416 then (spec_tyBalls.l0 k1 (x3_1 ++ [x9_1]) l0_2 (l0_2.length : Int) (wrap64 (x9_1 + 1))) else (none)) else (spec_tyBalls.l0 k1 x3_1 l0_2 (l0_2.length : Int) (wrap64 (x9_1 + 1)))) = some r := H
      have A7 := am A70
      clear A70
      by_cases c8 : t103 = true
      ·subst c8
       have H1 : (if x3_1.length < 17592186044416 then (spec_tyBalls.l0 k1 (x3_1 ++ [x9_1]) l0_2 (l0_2.length : Int) (wrap64 (x9_1 + 1))) else (none)) = some r := by rw [if_pos rfl] at H; exact H
       clear H
       have H := H1
       clear H1
       by_cases c9 : x3_1.length < 17592186044416
       ·rw [if_pos c9] at H
        have LMc9 := am c9
        clear c9
        obtain ⟨y104, hy104⟩ : ∃ y_ : List Int, y_ = (x3_1 ++ [x9_1]) := ⟨_, rfl⟩
        replace H : (spec_tyBalls.l0 k1 y104 l0_2 (l0_2.length : Int) (wrap64 (x9_1 + 1))) = some r := by first | (rw [hy104]; with_reducible exact H) | (have H2_ := (Option.bind_some _ _).symm.trans H; rw [hy104]; with_reducible exact H2_) | (have H2_ := (Option.bind_some _ _).symm.trans H; with_reducible exact H2_) | with_reducible exact H | (rw [hy104]; exact H) | exact H
        have Ny104 := am hy104
        clear hy104
        have H' := am H
        clear H
        have p102 : 0 ≤ (x9_1 : Int) := of_decide_eq_true aq5
        have q102 : x9_1 < (l0_2.length : Int) := of_decide_eq_true aq5
        obtain ⟨ad102, e102, hx102_0⟩ := Kd.at_int HR0_2.out x9_1 p102 q102
        cases e102
        try replace hx102_0 := (HB.out.cell (World.block_lt_of_cell? w _ hx102_0)).trans hx102_0
        replace p102 := eq_true p102
        replace q102 := eq_true q102
        go_wp2_with (first | ((with_reducible refine gate_callee (f := 100) rfl ?_); refine goesL_ (some 15) rfl rfl Tryz.func100 (by kernel_rfl) rfl #[.int .u8 (rd l0_2 x9_1)] rfl aq4 ?_; (with_reducible refine (spec_tyBall.calls (rd l0_2 x9_1) true _ A7.out).mono ?_); rintro e w' ⟨rfl, ⟨nd, rfl⟩⟩; refine ⟨_, rfl, ?_⟩) | ((with_reducible refine gate_builtin (b := .append) (xs := #[.tmp 16, .tmp 18]) rfl ?_); at_builtin; refine Kd.R_append (Kd.int .i64) (w0 := w) w.heap.size rfl (.tmp 16) (.tmp 18) 28 3 (.int .i64 0) 8 rfl Tryz.underlying28 info3 rfl (by decide) (by omega) u3 x3_1 x9_1 [.int .i64 x9_1] (fun _ => True) (fun _ => False) rfl rfl ?aP (fun _ hk => hk.elim) ?aF ?aO ?aB ?aS ?aL ?_; (case aP => exact rfl); (case aB => exact aq0); (case aF => exact aq84); (case aO => exact aq50); (case aS => exact aq85); (case aL => have := LMc9.out; omega); intro v105 w10 ho hb hg hat; rw [← Ny104.out] at ho; have n0_ := am (blk_grown (g := gb101) (o := .cells #[.int .i64 a0_0, .int .i64 a0_1, .slice (some ad102) l0_2.length c0_2] 62 (0, 0)) aq2 hg (Kd.R_ne HO_3.out BK101.out (by decide))); have n1_ := am (hb); have n2_ := am (ho); clear BK101; clear HB; clear HO_3; have BK101 := n0_; have HB := n1_; have HO106 := n2_; clear n0_ n1_ n2_; clear ho hb hg hat))
        go_roundg k1
        case measure => have := HK1.out; omega
        case rel => exact ⟨(y104), (wrap64 (x9_1 + 1)), aq6, H', ⟨aq68⟩, ⟨aq73⟩, ⟨aq2⟩, ⟨aq0⟩⟩
       ·rw [if_neg c9] at H
        exact absurd H (by simp)
      ·replace c8 := Bool.eq_false_iff.mpr c8
       subst c8
       have H1 : (spec_tyBalls.l0 k1 x3_1 l0_2 (l0_2.length : Int) (wrap64 (x9_1 + 1))) = some r := by rw [if_neg (show ¬ (false = true) by decide)] at H; exact H
       clear H
       have H := H1
       clear H1
       have H' := am H
       clear H
       have p102 : 0 ≤ (x9_1 : Int) := of_decide_eq_true aq5
       have q102 : x9_1 < (l0_2.length : Int) := of_decide_eq_true aq5
       obtain ⟨ad102, e102, hx102_0⟩ := Kd.at_int HR0_2.out x9_1 p102 q102
       cases e102
       try replace hx102_0 := (HB.out.cell (World.block_lt_of_cell? w _ hx102_0)).trans hx102_0
       replace p102 := eq_true p102
       replace q102 := eq_true q102
       go_wp2_with (first | ((with_reducible refine gate_callee (f := 100) rfl ?_); refine goesL_ (some 15) rfl rfl Tryz.func100 (by kernel_rfl) rfl #[.int .u8 (rd l0_2 x9_1)] rfl aq4 ?_; (with_reducible refine (spec_tyBall.calls (rd l0_2 x9_1) false _ A7.out).mono ?_); rintro e w' ⟨rfl, ⟨nd, rfl⟩⟩; refine ⟨_, rfl, ?_⟩))
       go_roundg k1
       case measure => have := HK1.out; omega
       case rel => exact ⟨(x3_1), (wrap64 (x9_1 + 1)), aq6, H', ⟨aq68⟩, ⟨aq50⟩, ⟨aq2⟩, ⟨aq0⟩⟩
     ·rw [if_neg c6] at H
      exact absurd H (by simp)
    ·rw [if_neg c5] at H
     exact absurd H (by simp)
   ·rw [if_neg c4] at H
    have c4b0 : decide (x9_1 < (l0_2.length : Int)) = false := decide_eq_false c4
    clear c4
    obtain rfl := Option.some.inj H
    go_wp2
    go_ret
    exact ⟨_, aq7, aq50, aq0⟩
mutual
def spec_mcPermutation.l0 : Nat → ByteArray → List Int → List Int → List Int → Int → Int → Int → Int → List Int → Option (List Int × Bool)
 | 0, _, _, _, _, _, _, _, _, _ => none
 | k + 1, x1, x8, x9, x31, x32, x33, x102000, x102001, x102002 => if x33 < x32 then (if 0 ≤ x33 then (if x33 < (x31.length : Int) then ((spec_tyCopy.f x102000 x102001 x102002).bind fun bt116 => (spec_mcPermutation.l1 k x1 x8 x9 x33 (rd x31 x33) x31 x32 x33 x8 (x8.length : Int) 0 x102000 x102001 x102002 bt116.1 bt116.2.1 bt116.2.2)) else (none)) else (none)) else (some (x9, true))
def spec_mcPermutation.l1 : Nat → ByteArray → List Int → List Int → Int → Int → List Int → Int → Int → List Int → Int → Int → Int → Int → List Int → Int → Int → List Int → Option (List Int × Bool)
 | 0, _, _, _, _, _, _, _, _, _, _, _, _, _, _, _, _, _ => none
 | k + 1, x1, x8, x9, x10, x11, x31, x32, x33, x40, x41, x42, x102000, x102001, x102002, x122000, x122001, x122002 => if x42 < x41 then (if 0 ≤ x42 then (if x42 < (x40.length : Int) then (if 0 ≤ (rd x40 x42) then (if (rd x40 x42) < (x122002.length : Int) then (spec_mcPermutation.l1 k x1 x8 x9 x10 x11 x31 x32 x33 x40 x41 (wrap64 (x42 + 1)) x102000 x102001 x102002 x122000 x122001 (x122002.set ((rd x40 x42) : Int).toNat 111)) else (none)) else (none)) else (none)) else (none)) else (if 0 ≤ x11 then (if x11 < (x122002.length : Int) then ((spec_tiRun.f k x122000 x122001 (x122002.set (x11 : Int).toNat 97) x1).bind fun bt125 => ((spec_tiPlace.f k bt125.1 bt125.2.1 bt125.2.2 97).bind fun t130 => (spec_mcPermutation.l2 k x1 x8 x9 x10 t130 x31 x32 x33 x8 (x8.length : Int) 0 x102000 x102001 x102002))) else (none)) else (none))
def spec_mcPermutation.l2 : Nat → ByteArray → List Int → List Int → Int → Int → List Int → Int → Int → List Int → Int → Int → Int → Int → List Int → Option (List Int × Bool)
 | 0, _, _, _, _, _, _, _, _, _, _, _, _, _, _ => none
 | k + 1, x1, x8, x9, x10, x15, x31, x32, x33, x59, x60, x61, x102000, x102001, x102002 => if x61 < x60 then (if 0 ≤ x61 then (if x61 < (x59.length : Int) then (if (rd x59 x61) = x15 then (if 0 ≤ x10 then (if x10 < (x9.length : Int) then (spec_mcPermutation.l2 k x1 x8 (x9.set (x10 : Int).toNat x61) x10 x15 x31 x32 x33 x59 x60 (wrap64 (x61 + 1)) x102000 x102001 x102002) else (none)) else (none)) else (spec_mcPermutation.l2 k x1 x8 x9 x10 x15 x31 x32 x33 x59 x60 (wrap64 (x61 + 1)) x102000 x102001 x102002)) else (none)) else (none)) else (spec_mcPermutation.l0 k x1 x8 x9 x31 x32 (wrap64 (x33 + 1)) x102000 x102001 x102002)
end
def spec_mcPermutation.f (k : Nat) (a0_0 : Int) (a0_1 : Int) (l0_2 : List Int) (a1 : ByteArray) : Option (List Int × Bool) := (spec_mcBack.f k a0_0 a0_1 l0_2 a1).bind fun bt102 => (if bt102.2.2.2 = true then ((spec_tyBalls.f k a0_0 a0_1 l0_2).bind fun t109 => (if 0 ≤ (t109.length : Int) then (if ((t109.length : Int) : Int).toNat ≤ 35184372088832 then (spec_mcPermutation.l0 k a1 t109 (List.replicate ((t109.length : Int) : Int).toNat 0) t109 (t109.length : Int) 0 a0_0 a0_1 l0_2) else (none)) else (none))) else (some (([] : List Int), false)))
theorem spec_mcPermutation.mono_l : ∀ k, (∀ y0 y1 y2 y3 y4 y5 y6 y7 y8, LeO (spec_mcPermutation.l0 k y0 y1 y2 y3 y4 y5 y6 y7 y8) (spec_mcPermutation.l0 (k + 1) y0 y1 y2 y3 y4 y5 y6 y7 y8)) ∧ (∀ y0 y1 y2 y3 y4 y5 y6 y7 y8 y9 y10 y11 y12 y13 y14 y15 y16, LeO (spec_mcPermutation.l1 k y0 y1 y2 y3 y4 y5 y6 y7 y8 y9 y10 y11 y12 y13 y14 y15 y16) (spec_mcPermutation.l1 (k + 1) y0 y1 y2 y3 y4 y5 y6 y7 y8 y9 y10 y11 y12 y13 y14 y15 y16)) ∧ (∀ y0 y1 y2 y3 y4 y5 y6 y7 y8 y9 y10 y11 y12 y13, LeO (spec_mcPermutation.l2 k y0 y1 y2 y3 y4 y5 y6 y7 y8 y9 y10 y11 y12 y13) (spec_mcPermutation.l2 (k + 1) y0 y1 y2 y3 y4 y5 y6 y7 y8 y9 y10 y11 y12 y13))
 | 0 => ⟨fun _ _ _ _ _ _ _ _ _ r h => by simp [spec_mcPermutation.l0] at h, fun _ _ _ _ _ _ _ _ _ _ _ _ _ _ _ _ _ r h => by simp [spec_mcPermutation.l1] at h, fun _ _ _ _ _ _ _ _ _ _ _ _ _ _ r h => by simp [spec_mcPermutation.l2] at h⟩
 | k + 1 => by
  obtain ⟨ih0, ih1, ih2⟩ := spec_mcPermutation.mono_l k
  refine ⟨?_, ?_, ?_⟩
  ·intro y0 y1 y2 y3 y4 y5 y6 y7 y8
   unfold spec_mcPermutation.l0
   have im0 := @spec_mcBack.mono; have im1 := @spec_tiPlace.mono; have im2 := @spec_tiRun.mono; have im3 := @spec_tyBalls.mono; exact mo
  ·intro y0 y1 y2 y3 y4 y5 y6 y7 y8 y9 y10 y11 y12 y13 y14 y15 y16
   unfold spec_mcPermutation.l1
   have im0 := @spec_mcBack.mono; have im1 := @spec_tiPlace.mono; have im2 := @spec_tiRun.mono; have im3 := @spec_tyBalls.mono; exact mo
  ·intro y0 y1 y2 y3 y4 y5 y6 y7 y8 y9 y10 y11 y12 y13
   unfold spec_mcPermutation.l2
   have im0 := @spec_mcBack.mono; have im1 := @spec_tiPlace.mono; have im2 := @spec_tiRun.mono; have im3 := @spec_tyBalls.mono; exact mo
theorem spec_mcPermutation.mono : ∀ a0 a1 a2 a3 k, LeO (spec_mcPermutation.f k a0 a1 a2 a3) (spec_mcPermutation.f (k + 1) a0 a1 a2 a3) := by
 intro a0 a1 a2 a3 k
 obtain ⟨ih0, ih1, ih2⟩ := spec_mcPermutation.mono_l k
 unfold spec_mcPermutation.f
 have im0 := @spec_mcBack.mono; have im1 := @spec_tiPlace.mono; have im2 := @spec_tiRun.mono; have im3 := @spec_tyBalls.mono; exact mo
set_option maxHeartbeats 8000000 in
set_option maxRecDepth 100000 in
theorem spec_mcPermutation.calls (k : Nat) (a0_0 : Int) (a0_1 : Int) (A0_2 : Option Addr) (c0_2 : Nat) (l0_2 : List Int) (a1 : ByteArray) (r1 : List Int) (r2 : Bool) (w : World) (hr0_2 : Kd.C (Kd.int .u8) w A0_2 l0_2.length l0_2) (hc0_2 : l0_2.length ≤ c0_2) (h : spec_mcPermutation.f k a0_0 a0_1 l0_2 a1 = some (r1, r2)) :
  Calls Tryz.prog 118 #[.agg #[.int .i64 a0_0, .int .i64 a0_1, .slice A0_2 l0_2.length c0_2], .string a1] w fun e w' => ∃ v0_ : Value, e = .returned (.tuple #[v0_, .bool r2]) ∧ Kd.R (Kd.int .i64) 3 w' w.heap.size (fun _ => True) v0_ r1 ∧ Below w.heap.size w w' := by
 have hu62 := Tryz.underlying62
 have HR0_2 := am hr0_2
 have HC0_2 := am hc0_2
 clear hr0_2 hc0_2
 have HB := am (Below.refl w.heap.size w)
 have H : ((spec_mcBack.f k a0_0 a0_1 l0_2 a1).bind fun bt102 => (if bt102.2.2.2 = true then ((spec_tyBalls.f k a0_0 a0_1 l0_2).bind fun t109 => (if 0 ≤ (t109.length : Int) then (if ((t109.length : Int) : Int).toNat ≤ 35184372088832 then (spec_mcPermutation.l0 k a1 t109 (List.replicate ((t109.length : Int) : Int).toNat 0) t109 (t109.length : Int) 0 a0_0 a0_1 l0_2) else (none)) else (none))) else (some (([] : List Int), false)))) = some (r1, r2) := h
 clear h
 replace H := Option.bind_eq_some_iff.mp H
 obtain ⟨⟨t102, t103, t104, t107⟩, A30, H⟩ := H
 replace H : (if t107 = true then ((spec_tyBalls.f k a0_0 a0_1 l0_2).bind fun t109 => (if 0 ≤ (t109.length : Int) then (if ((t109.length : Int) : Int).toNat ≤ 35184372088832 then (spec_mcPermutation.l0 k a1 t109 (List.replicate ((t109.length : Int) : Int).toNat 0) t109 (t109.length : Int) 0 a0_0 a0_1 l0_2) else (none)) else (none))) else (some (([] : List Int), false))) = some (r1, r2) := H
 have A3 := am A30
 clear A30
 by_cases c4 : t107 = true
 ·subst c4
  have H1 : ((spec_tyBalls.f k a0_0 a0_1 l0_2).bind fun t109 => (if 0 ≤ (t109.length : Int) then (if ((t109.length : Int) : Int).toNat ≤ 35184372088832 then (spec_mcPermutation.l0 k a1 t109 (List.replicate ((t109.length : Int) : Int).toNat 0) t109 (t109.length : Int) 0 a0_0 a0_1 l0_2) else (none)) else (none))) = some (r1, r2) := by rw [if_pos rfl] at H; exact H
  clear H
  have H := H1
  clear H1
  replace H := Option.bind_eq_some_iff.mp H
  obtain ⟨t109, A50, H⟩ := H
  replace H : (if 0 ≤ (t109.length : Int) then (if ((t109.length : Int) : Int).toNat ≤ 35184372088832 then (spec_mcPermutation.l0 k a1 t109 (List.replicate ((t109.length : Int) : Int).toNat 0) t109 (t109.length : Int) 0 a0_0 a0_1 l0_2) else (none)) else (none)) = some (r1, r2) := H
  have A5 := am A50
  clear A50
  by_cases c6 : 0 ≤ (t109.length : Int)
  ·rw [if_pos c6] at H
   have c6b0 := eq_true c6
   have c6b1 : decide (0 ≤ (t109.length : Int)) = true := decide_eq_true c6
   clear c6
   by_cases c7 : ((t109.length : Int) : Int).toNat ≤ 35184372088832
   ·rw [if_pos c7] at H
    have c7b0 := eq_true c7
    have c7b1 : decide (((t109.length : Int) : Int).toNat ≤ 35184372088832) = true := decide_eq_true c7
    clear c7
    obtain ⟨y112, hy112⟩ : ∃ y_ : List Int, y_ = (List.replicate ((t109.length : Int) : Int).toNat 0) := ⟨_, rfl⟩
    replace H : (spec_mcPermutation.l0 k a1 t109 y112 t109 (t109.length : Int) 0 a0_0 a0_1 l0_2) = some (r1, r2) := by first | (rw [hy112]; with_reducible exact H) | (have H2_ := (Option.bind_some _ _).symm.trans H; rw [hy112]; with_reducible exact H2_) | (have H2_ := (Option.bind_some _ _).symm.trans H; with_reducible exact H2_) | with_reducible exact H | (rw [hy112]; exact H) | exact H
    have Ny112 := am hy112
    clear hy112
    have H' := am H
    clear H
    go_enter Tryz.func118, Tryz.ntmps118
    go_wp2_with (first | ((with_reducible refine gate_dst (N := 2) rfl ?_); refine box_event ?hg (N := 2) ?hd (cs := #[.int .i64 a0_0, .int .i64 a0_1, .slice A0_2 l0_2.length c0_2]) (t := 62) ?hr ?_; (case hd => rfl); (case hg => rfl); (case hr => exact aq15); intro gb101 hg w8 hbox hb; have n0_ := am (below_step aq1 hb); have n1_ := am (hbox); have n2_ := am ((by rw [hg]; exact (below_size aq1) : w.heap.size ≤ gb101)); have n3_ := am ((by rw [hg]; exact (below_size aq1) : w.heap.size ≤ gb101)); clear HB; have HB := n0_; have BK101 := n1_; have GW101 := n2_; have GE101 := n3_; clear n0_ n1_ n2_ n3_; clear hb hbox hg; have hcz9_0 : w8.cell? ⟨gb101, 0, none⟩ = some (.int .i64 a0_0) := (blk_cell BK101.out 0).trans rfl; have hcz9_1 : w8.cell? ⟨gb101, 1, none⟩ = some (.int .i64 a0_1) := (blk_cell BK101.out 1).trans rfl; have hcz9_2 : w8.cell? ⟨gb101, 2, none⟩ = some (.slice A0_2 l0_2.length c0_2) := (blk_cell BK101.out 2).trans rfl; have hfz9_0 := blk_frozen BK101.out 0; have hfz9_1 := blk_frozen BK101.out 1; have hfz9_2 := blk_frozen BK101.out 2) | ((with_reducible refine gate_callee (f := 54) rfl ?_); refine goesL_ (some 21) rfl rfl Tryz.func54 (by kernel_rfl) rfl #[.agg #[.int .i64 a0_0, .int .i64 a0_1, .slice A0_2 l0_2.length c0_2], .string a1] rfl aq4 ?_; (with_reducible refine (spec_mcBack.calls k a0_0 a0_1 (fun k_ => k_ < w.heap.size) _ _ l0_2 a1 t102 t103 t104 true _ ?side1 A3.out).mono ?_); (case side1 => exact Kd.V_mk HC0_2.out (Kd.F_below (Kd.C_F (Kd.heap_int .u8) HR0_2.out) aq0)); rintro e w10 ⟨v105, rfl, ho0, hb⟩; refine ⟨_, rfl, ?_⟩; have n0_ := am (Kd.V_lower (Kd.V_mono (ok' := fun k_ => k_ ≠ gb101) ho0 (fun k_ hk_ => Or.elim hk_ (fun hs_ => fun e_ => Nat.not_le.2 hs_ (by rw [e_]; exact GW101.out)) (fun hn_ => (Kd.freshB (g := gb101) (o := .cells #[.int .i64 a0_0, .int .i64 a0_1, .slice A0_2 l0_2.length c0_2] 62 (0, 0)) aq2 k_ hn_)))) (below_size aq0)); have n1_ := am (blk_below (g := gb101) (o := .cells #[.int .i64 a0_0, .int .i64 a0_1, .slice A0_2 l0_2.length c0_2] 62 (0, 0)) aq2 hb); have n2_ := am (below_step aq0 hb); clear BK101; clear HB; have HO106 := n0_; have BK101 := n1_; have HB := n2_; clear n0_ n1_ n2_; (try clear hb); (try clear hb2); (try clear hk); (try clear hi); (try clear ho0)) | ((with_reducible refine gate_dst (N := 6) rfl ?_); refine box_event ?hg (N := 6) ?hd (cs := #[.int .i64 0, .int .i64 0, .slice none 0 0]) (t := 62) ?hr ?_; (case hd => rfl); (case hg => rfl); (case hr => exact aq15); intro gb108 hg w11 hbox hb; have n0_ := am (Kd.V_below (Kd.V_elderB aq89 gb108 (Nat.le_of_eq hg.symm)) hb); have n1_ := am (blk_below (g := gb101) (o := .cells #[.int .i64 a0_0, .int .i64 a0_1, .slice A0_2 l0_2.length c0_2] 62 (0, 0)) aq2 hb); have n2_ := am (below_step aq0 hb); have n3_ := am (hbox); have n4_ := am ((by rw [hg]; exact (below_size aq0) : w.heap.size ≤ gb108)); have n5_ := am ((by rw [hg]; exact (below_size aq0) : w.heap.size ≤ gb108)); have n6_ := am ((by rw [hg]; exact Nat.ne_of_lt (blk_lt (g := gb101) (o := .cells #[.int .i64 a0_0, .int .i64 a0_1, .slice A0_2 l0_2.length c0_2] 62 (0, 0)) aq2) : gb101 ≠ gb108)); have n7_ := am ((by rw [hg]; exact Nat.ne_of_gt (blk_lt (g := gb101) (o := .cells #[.int .i64 a0_0, .int .i64 a0_1, .slice A0_2 l0_2.length c0_2] 62 (0, 0)) aq2) : gb108 ≠ gb101)); clear HO106; clear BK101; clear HB; have HO106 := n0_; have BK101 := n1_; have HB := n2_; have BK108 := n3_; have GW108 := n4_; have GE108 := n5_; have NB101_108 := n6_; have NB108_101 := n7_; clear n0_ n1_ n2_ n3_ n4_ n5_ n6_ n7_; clear hb hbox hg; have hnb12 := NB108_101.out; have hnc12 := NB101_108.out; have hcz13_0 : w11.cell? ⟨gb108, 0, none⟩ = some (.int .i64 0) := (blk_cell BK108.out 0).trans rfl; have hcz13_1 : w11.cell? ⟨gb108, 1, none⟩ = some (.int .i64 0) := (blk_cell BK108.out 1).trans rfl; have hcz13_2 : w11.cell? ⟨gb108, 2, none⟩ = some (.slice none 0 0) := (blk_cell BK108.out 2).trans rfl; have hfz13_0 := blk_frozen BK108.out 0; have hfz13_1 := blk_frozen BK108.out 1; have hfz13_2 := blk_frozen BK108.out 2; obtain ⟨Ao14, co14, eo14⟩ := Kd.V_slice HO106.out; subst eo14; have hcz15_0 : w11.cell? ⟨gb101, 0, none⟩ = some (.int .i64 a0_0) := (blk_cell BK101.out 0).trans rfl; have hcz15_1 : w11.cell? ⟨gb101, 1, none⟩ = some (.int .i64 a0_1) := (blk_cell BK101.out 1).trans rfl; have hcz15_2 : w11.cell? ⟨gb101, 2, none⟩ = some (.slice A0_2 l0_2.length c0_2) := (blk_cell BK101.out 2).trans rfl; have hfz15_0 := blk_frozen BK101.out 0; have hfz15_1 := blk_frozen BK101.out 1; have hfz15_2 := blk_frozen BK101.out 2) | ((with_reducible refine gate_callee (f := 153) rfl ?_); refine goesL_ (some 27) rfl rfl Tryz.func153 (by kernel_rfl) rfl #[.agg #[.int .i64 a0_0, .int .i64 a0_1, .slice A0_2 l0_2.length c0_2]] rfl aq4 ?_; (with_reducible refine (spec_tyBalls.calls k a0_0 a0_1 _ _ l0_2 t109 _ ?side1 ?side2 A5.out).mono ?_); (case side1 => exact Kd.C_below HR0_2.out aq10); (case side2 => exact HC0_2.out); rintro e w16 ⟨v110, rfl, ho0, hb⟩; refine ⟨_, rfl, ?_⟩; have n0_ := am (Kd.V_elder' (by (with_reducible repeat (first | apply Kd.V_alloc | apply Kd.V_drewN | apply Kd.V_drew)); exact (Kd.V_mono (Kd.V_far (p := ⟨gb108, 2, none⟩) (Kd.V_far (p := ⟨gb108, 1, none⟩) (Kd.V_far (p := ⟨gb108, 0, none⟩) (Kd.V_mono HO106.out (fun k_ hk => (⟨hk, hk.2⟩ : _ ∧ k_ ≠ gb108))) (fun _ hk => hk.2) (.int .i64 t102)) (fun _ hk => hk.2) (.int .i64 t103)) (fun _ hk => hk.2) (.slice Ao14 t104.length co14)) (fun _ h_ => h_.1))) (Kd.R_base ho0) hb); have n1_ := am (Kd.R_lower ho0 (below_size aq10)); have n2_ := am (blk_below (g := gb101) (o := .cells #[.int .i64 a0_0, .int .i64 a0_1, .slice A0_2 l0_2.length c0_2] 62 (0, 0)) aq34 hb); have n3_ := am (blk_below (g := gb108) (o := .cells #[.int .i64 t102, .int .i64 t103, .slice Ao14 t104.length co14] 62 (0, 0)) aq35 hb); have n4_ := am (below_step aq10 hb); clear HO106; clear BK101; clear BK108; clear HB; have HO106 := n0_; have HO111 := n1_; have BK101 := n2_; have BK108 := n3_; have HB := n4_; clear n0_ n1_ n2_ n3_ n4_; (try clear hb); (try clear hb2); (try clear hk); (try clear hi); (try clear ho0); obtain ⟨Ao17, co17, eo17⟩ := Kd.R_slice HO111.out; subst eo17) | ((with_reducible refine gate_dst (N := 30) rfl ?_); refine Kd.R_make (Kd.int .i64) _ 3 rfl (N := 30) rfl 28 _ _ rfl (t109.length : Int) rfl rfl Tryz.underlying28 (.int .i64 0) 8 info3 rfl (by decide) (by omega) 0 (ok := fun _ => True) (okp := fun _ => True) rfl (fun _ hk => hk) trivial (of_decide_eq_true aq5) (Nat.le_trans (Nat.mul_le_mul_right _ (of_decide_eq_true aq5 : (t109.length : Int).toNat ≤ 35184372088832)) (by omega)) (Below.refl _ _) (Nat.le_refl _) ?_; intro v113 w18 ho19 hb hg_ hnew_; clear hg_ hnew_; (first | rw [← Ny112.out] at ho19 | (simp only [Int.reduceToNat] at ho19; rw [← Ny112.out] at ho19)); have n0_ := am (Kd.V_elder' aq89 (Kd.R_base ho19) hb); have n1_ := am (Kd.R_elder' aq94 (Kd.R_base ho19) hb); have n2_ := am (Kd.R_lower (Kd.R_new' ho19 (Kd.R_lt aq94)) (below_size aq10)); have n3_ := am (blk_below (g := gb101) (o := .cells #[.int .i64 a0_0, .int .i64 a0_1, .slice A0_2 l0_2.length c0_2] 62 (0, 0)) aq2 hb); have n4_ := am (blk_below (g := gb108) (o := .cells #[.int .i64 t102, .int .i64 t103, .slice Ao14 t104.length co14] 62 (0, 0)) aq19 hb); have n5_ := am (below_step aq10 hb); clear HO106; clear HO111; clear BK101; clear BK108; clear HB; have HO106 := n0_; have HO111 := n1_; have HO114 := n2_; have BK101 := n3_; have BK108 := n4_; have HB := n5_; clear n0_ n1_ n2_ n3_ n4_ n5_; clear hb ho19))
    go_loopg [33] k (fun kq v33 w' => ∃ (x9_1 : List Int) (x33_1 : Int) (x109002_1 : List Int) (u109002 : Value), v33 = .int .i64 x33_1 ∧ Aside0 (spec_mcPermutation.l0 kq a1 t109 x9_1 t109 (t109.length : Int) x33_1 a0_0 a0_1 l0_2 = some (r1, r2)) ∧ Aside0 (kq ≤ k) ∧ Aside0 (Kd.R (Kd.int .i64) 3 w' w.heap.size (fun k_ => some k_ ≠ (v113 : Value).ownBlock) (.slice Ao17 t109.length co17) t109) ∧ Aside0 (Kd.R (Kd.int .i64) 3 w' w.heap.size (fun k_ => some k_ ≠ ((.slice Ao17 t109.length co17) : Value).ownBlock ∧ some k_ ≠ ((.slice Ao17 t109.length co17) : Value).ownBlock) v113 x9_1) ∧ Aside0 (Kd.R (Kd.int .i64) 3 w' w.heap.size (fun k_ => some k_ ≠ (v113 : Value).ownBlock) (.slice Ao17 t109.length co17) t109) ∧ Aside0 (Kd.V (Kd.int .u8) 5 w' w.heap.size (fun k_ => some k_ ≠ ((.slice Ao17 t109.length co17) : Value).ownBlock ∧ some k_ ≠ (v113 : Value).ownBlock ∧ some k_ ≠ ((.slice Ao17 t109.length co17) : Value).ownBlock ∧ k_ ≠ gb101 ∧ k_ ≠ gb108) u109002 x109002_1) ∧ Aside0 (w'.heap[gb101]? = some (.cells #[.int .i64 a0_0, .int .i64 a0_1, (.slice A0_2 l0_2.length c0_2)] 62 (0, 0))) ∧ Aside0 (w'.heap[gb108]? = some (.cells #[.int .i64 t102, .int .i64 t103, u109002] 62 (0, 0))) ∧ Aside0 (Below w.heap.size w w'))
    case atStart => exact ⟨(y112), (0), (t104), (.slice Ao14 t104.length co14), aq6, H', ⟨Nat.le_refl _⟩, ⟨aq126⟩, ⟨by (with_reducible repeat (first | apply Kd.R_alloc | apply Kd.R_drewN | apply Kd.R_drew)); exact Kd.R_mono HO114.out (fun _ hk => ⟨hk.2, hk.2⟩)⟩, ⟨aq126⟩, ⟨by (with_reducible repeat (first | apply Kd.V_alloc | apply Kd.V_drewN | apply Kd.V_drew)); exact Kd.V_mono HO106.out (fun _ hk => ⟨hk.1.2, ⟨hk.2, ⟨hk.1.2, ⟨hk.1.1.1, hk.1.1.2⟩⟩⟩⟩)⟩, ⟨aq2⟩, ⟨aq19⟩, ⟨aq10⟩⟩
    case round =>
     clear H'
     try clear c1
     try clear p2
     try clear c4
     try clear c5
     try clear c6
     try clear c6b0
     try clear c6b1
     try clear c7
     try clear c7b0
     try clear c7b1
     try clear c11
     try clear c12
     try clear c15
     try clear hcz13_0
     try clear hcz13_1
     try clear hcz13_2
     try clear hcz15_0
     try clear hcz15_1
     try clear hcz15_2
     try clear hcz9_0
     try clear hcz9_1
     try clear hcz9_2
     try clear hfz13_0
     try clear hfz13_1
     try clear hfz13_2
     try clear hfz15_0
     try clear hfz15_1
     try clear hfz15_2
     try clear hfz9_0
     try clear hfz9_1
     try clear hfz9_2
     obtain ⟨x9_1, x33_1, x109002_1, u109002, rfl, HA, HK1, HO_8, HO_9, HO_31, HO_109002, BK101, BK108, HB⟩ := hrel
     cases gk with
     | zero => exact absurd HA.out (by simp [spec_mcPermutation.l0])
     | succ k1 =>
      have H := HA.out
      clear HA
      simp only [spec_mcPermutation.l0] at H
      by_cases c20 : x33_1 < (t109.length : Int)
      ·rw [if_pos c20] at H
       have c20b0 : decide (x33_1 < (t109.length : Int)) = true := decide_eq_true c20
       clear c20
       by_cases c21 : 0 ≤ x33_1
       ·rw [if_pos c21] at H
        have c21b0 : decide (0 ≤ x33_1) = true := decide_eq_true c21
        clear c21
        by_cases c22 : x33_1 < (t109.length : Int)
        ·rw [if_pos c22] at H
         have c22b0 : decide (x33_1 < (t109.length : Int)) = true := decide_eq_true c22
         clear c22
         replace H := Option.bind_eq_some_iff.mp H
         obtain ⟨⟨t116, t117, t118⟩, A230, H⟩ := H
         replace H : (spec_mcPermutation.l1 k1 a1 t109 x9_1 x33_1 (rd t109 x33_1) t109 (t109.length : Int) x33_1 t109 (t109.length : Int) 0 a0_0 a0_1 l0_2 t116 t117 t118) = some (r1, r2) := H
         have A23 := am A230
         clear A230
         have H' := am H
         clear H
         have p115 : 0 ≤ (x33_1 : Int) := of_decide_eq_true aq5
         have q115 : x33_1 < (t109.length : Int) := of_decide_eq_true aq5
         obtain ⟨ad115, e115, hx115_0⟩ := Kd.at_int (Kd.R_reads' HO_31.out).2.2 x33_1 p115 q115
         cases e115
         replace p115 := eq_true p115
         replace q115 := eq_true q115
         have hnb24 := NB101_108.out
         have hnc24 := NB108_101.out
         have hcz25_0 : wr.cell? ⟨gb101, 0, none⟩ = some (.int .i64 a0_0) := (blk_cell BK101.out 0).trans rfl
         have hcz25_1 : wr.cell? ⟨gb101, 1, none⟩ = some (.int .i64 a0_1) := (blk_cell BK101.out 1).trans rfl
         have hcz25_2 : wr.cell? ⟨gb101, 2, none⟩ = some (.slice A0_2 l0_2.length c0_2) := (blk_cell BK101.out 2).trans rfl
         have hfz25_0 := blk_frozen BK101.out 0
         have hfz25_1 := blk_frozen BK101.out 1
         have hfz25_2 := blk_frozen BK101.out 2
         go_wp2_with (first | ((with_reducible refine gate_callee (f := 114) rfl ?_); refine goesL_ (some 39) rfl rfl Tryz.func114 (by kernel_rfl) rfl #[.agg #[.int .i64 a0_0, .int .i64 a0_1, .slice A0_2 l0_2.length c0_2]] rfl aq4 ?_; (with_reducible refine (spec_tyCopy.calls a0_0 a0_1 _ _ l0_2 t116 t117 t118 _ ?side1 ?side2 A23.out).mono ?_); (case side1 => exact aq9); (case side2 => exact HC0_2.out); rintro e w26 ⟨v119, rfl, ho0, hb⟩; refine ⟨_, rfl, ?_⟩; have n0_ := am (Kd.R_below aq13 hb); have n1_ := am (Kd.R_below aq14 hb); have n2_ := am (Kd.R_below aq27 hb); have n3_ := am (Kd.V_elder' aq55 (Kd.R_base ho0) hb); have n4_ := am (Kd.R_lower ho0 (below_size aq10)); have n5_ := am (blk_below (g := gb101) (o := .cells #[.int .i64 a0_0, .int .i64 a0_1, .slice A0_2 l0_2.length c0_2] 62 (0, 0)) aq2 hb); have n6_ := am (blk_below (g := gb108) (o := .cells #[.int .i64 t102, .int .i64 t103, u109002] 62 (0, 0)) aq19 hb); have n7_ := am (below_step aq10 hb); clear HO_8; clear HO_9; clear HO_31; clear HO_109002; clear BK101; clear BK108; clear HB; have HO_8 := n0_; have HO_9 := n1_; have HO_31 := n2_; have HO_109002 := n3_; have HO120 := n4_; have BK101 := n5_; have BK108 := n6_; have HB := n7_; clear n0_ n1_ n2_ n3_ n4_ n5_ n6_ n7_; (try clear hb); (try clear hb2); (try clear hk); (try clear hi); (try clear ho0)) | ((with_reducible refine gate_dst (N := 12) rfl ?_); refine box_event ?hg (N := 12) ?hd (cs := #[.int .i64 0, .int .i64 0, .slice none 0 0]) (t := 62) ?hr ?_; (case hd => rfl); (case hg => rfl); (case hr => exact aq15); intro gb121 hg w27 hbox hb; have n0_ := am (Kd.R_below aq13 hb); have n1_ := am (Kd.R_below aq14 hb); have n2_ := am (Kd.R_below aq27 hb); have n3_ := am (Kd.V_below (Kd.V_elderB aq55 gb121 (Nat.le_of_eq hg.symm)) hb); have n4_ := am (Kd.R_below (by (with_reducible repeat (first | apply Kd.R_alloc | apply Kd.R_drewN | apply Kd.R_drew)); exact HO120.out) hb); have n5_ := am (blk_below (g := gb101) (o := .cells #[.int .i64 a0_0, .int .i64 a0_1, .slice A0_2 l0_2.length c0_2] 62 (0, 0)) aq2 hb); have n6_ := am (blk_below (g := gb108) (o := .cells #[.int .i64 t102, .int .i64 t103, u109002] 62 (0, 0)) aq19 hb); have n7_ := am (below_step aq10 hb); have n8_ := am (hbox); have n9_ := am ((by rw [hg]; exact (below_size aq10) : w.heap.size ≤ gb121)); have n10_ := am ((by rw [hg]; exact (below_size aq10) : w.heap.size ≤ gb121)); have n11_ := am ((by rw [hg]; exact Nat.ne_of_lt (blk_lt (g := gb101) (o := .cells #[.int .i64 a0_0, .int .i64 a0_1, .slice A0_2 l0_2.length c0_2] 62 (0, 0)) aq2) : gb101 ≠ gb121)); have n12_ := am ((by rw [hg]; exact Nat.ne_of_gt (blk_lt (g := gb101) (o := .cells #[.int .i64 a0_0, .int .i64 a0_1, .slice A0_2 l0_2.length c0_2] 62 (0, 0)) aq2) : gb121 ≠ gb101)); have n13_ := am ((by rw [hg]; exact Nat.ne_of_lt (blk_lt (g := gb108) (o := .cells #[.int .i64 t102, .int .i64 t103, u109002] 62 (0, 0)) aq19) : gb108 ≠ gb121)); have n14_ := am ((by rw [hg]; exact Nat.ne_of_gt (blk_lt (g := gb108) (o := .cells #[.int .i64 t102, .int .i64 t103, u109002] 62 (0, 0)) aq19) : gb121 ≠ gb108)); clear HO_8; clear HO_9; clear HO_31; clear HO_109002; clear HO120; clear BK101; clear BK108; clear HB; have HO_8 := n0_; have HO_9 := n1_; have HO_31 := n2_; have HO_109002 := n3_; have HO120 := n4_; have BK101 := n5_; have BK108 := n6_; have HB := n7_; have BK121 := n8_; have GW121 := n9_; have GE121 := n10_; have NB101_121 := n11_; have NB121_101 := n12_; have NB108_121 := n13_; have NB121_108 := n14_; clear n0_ n1_ n2_ n3_ n4_ n5_ n6_ n7_ n8_ n9_ n10_ n11_ n12_ n13_ n14_; clear hb hbox hg; have hnb28 := NB121_101.out; have hnc28 := NB101_121.out; have hnb29 := NB121_108.out; have hnc29 := NB108_121.out; have hcz30_0 : w27.cell? ⟨gb121, 0, none⟩ = some (.int .i64 0) := (blk_cell BK121.out 0).trans rfl; have hcz30_1 : w27.cell? ⟨gb121, 1, none⟩ = some (.int .i64 0) := (blk_cell BK121.out 1).trans rfl; have hcz30_2 : w27.cell? ⟨gb121, 2, none⟩ = some (.slice none 0 0) := (blk_cell BK121.out 2).trans rfl; have hfz30_0 := blk_frozen BK121.out 0; have hfz30_1 := blk_frozen BK121.out 1; have hfz30_2 := blk_frozen BK121.out 2; obtain ⟨Ao31, co31, eo31⟩ := Kd.R_slice HO120.out; subst eo31))
         go_loopg [42] k1 (fun kq v42 w' => ∃ (x42_2 : Int) (x109002_2 : List Int) (x122002_2 : List Int) (u109002 : Value) (u122002 : Value), v42 = .int .i64 x42_2 ∧ Aside0 (spec_mcPermutation.l1 kq a1 t109 x9_1 x33_1 (rd t109 x33_1) t109 (t109.length : Int) x33_1 t109 (t109.length : Int) x42_2 a0_0 a0_1 l0_2 t116 t117 x122002_2 = some (r1, r2)) ∧ Aside0 (kq ≤ k1) ∧ Aside0 (Kd.R (Kd.int .i64) 3 w' w.heap.size (fun k_ => some k_ ≠ (v113 : Value).ownBlock) (.slice (some ad115) t109.length co17) t109) ∧ Aside0 (Kd.R (Kd.int .i64) 3 w' w.heap.size (fun k_ => some k_ ≠ ((.slice (some ad115) t109.length co17) : Value).ownBlock ∧ some k_ ≠ ((.slice (some ad115) t109.length co17) : Value).ownBlock ∧ some k_ ≠ ((.slice (some ad115) t109.length co17) : Value).ownBlock) v113 x9_1) ∧ Aside0 (Kd.R (Kd.int .i64) 3 w' w.heap.size (fun k_ => some k_ ≠ (v113 : Value).ownBlock) (.slice (some ad115) t109.length co17) t109) ∧ Aside0 (Kd.R (Kd.int .i64) 3 w' w.heap.size (fun k_ => some k_ ≠ (v113 : Value).ownBlock) (.slice (some ad115) t109.length co17) t109) ∧ Aside0 (Kd.V (Kd.int .u8) 5 w' w.heap.size (fun k_ => some k_ ≠ ((.slice (some ad115) t109.length co17) : Value).ownBlock ∧ some k_ ≠ (v113 : Value).ownBlock ∧ some k_ ≠ ((.slice (some ad115) t109.length co17) : Value).ownBlock ∧ some k_ ≠ ((.slice (some ad115) t109.length co17) : Value).ownBlock ∧ some k_ ≠ (u122002 : Value).ownBlock ∧ k_ ≠ gb101 ∧ k_ ≠ gb108 ∧ k_ ≠ gb121) u109002 x109002_2) ∧ Aside0 (Kd.R (Kd.int .u8) 5 w' w.heap.size (fun _ => True) u122002 x122002_2) ∧ Aside0 (w'.heap[gb101]? = some (.cells #[.int .i64 a0_0, .int .i64 a0_1, (.slice A0_2 l0_2.length c0_2)] 62 (0, 0))) ∧ Aside0 (w'.heap[gb108]? = some (.cells #[.int .i64 t102, .int .i64 t103, u109002] 62 (0, 0))) ∧ Aside0 (w'.heap[gb121]? = some (.cells #[.int .i64 t116, .int .i64 t117, u122002] 62 (0, 0))) ∧ Aside0 (Below w.heap.size w w'))
         case atStart => exact ⟨(0), (x109002_1), (t118), (u109002), (.slice Ao31 t118.length co31), aq6, H', ⟨Nat.le_refl _⟩, ⟨aq67⟩, ⟨by (with_reducible repeat (first | apply Kd.R_alloc | apply Kd.R_drewN | apply Kd.R_drew)); exact Kd.R_mono (Kd.R_far (p := ⟨gb121, 2, none⟩) (Kd.R_far (p := ⟨gb121, 1, none⟩) (Kd.R_far (p := ⟨gb121, 0, none⟩) (Kd.R_types HO_9.out BK121.out (by decide)) (fun _ hk => hk.2) (.int .i64 t116)) (fun _ hk => hk.2) (.int .i64 t117)) (fun _ hk => hk.2) (.slice Ao31 t118.length co31)) (fun _ hk => ⟨hk.1.1, ⟨hk.1.2, hk.1.1⟩⟩)⟩, ⟨by (with_reducible repeat (first | apply Kd.R_alloc | apply Kd.R_drewN | apply Kd.R_drew)); exact Kd.R_mono (Kd.R_far (p := ⟨gb121, 2, none⟩) (Kd.R_far (p := ⟨gb121, 1, none⟩) (Kd.R_far (p := ⟨gb121, 0, none⟩) (Kd.R_types HO_31.out BK121.out (by decide)) (fun _ hk => hk.2) (.int .i64 t116)) (fun _ hk => hk.2) (.int .i64 t117)) (fun _ hk => hk.2) (.slice Ao31 t118.length co31)) (fun _ hk => hk.1)⟩, ⟨aq67⟩, ⟨by (with_reducible repeat (first | apply Kd.V_alloc | apply Kd.V_drewN | apply Kd.V_drew)); exact Kd.V_mono (Kd.V_far (p := ⟨gb121, 2, none⟩) (Kd.V_far (p := ⟨gb121, 1, none⟩) (Kd.V_far (p := ⟨gb121, 0, none⟩) (Kd.V_mono HO_109002.out (fun k_ hk => (⟨hk, hk.2⟩ : _ ∧ k_ ≠ gb121))) (fun _ hk => hk.2) (.int .i64 t116)) (fun _ hk => hk.2) (.int .i64 t117)) (fun _ hk => hk.2) (.slice Ao31 t118.length co31)) (fun _ hk => ⟨hk.1.1.1.1, ⟨hk.1.1.1.2.1, ⟨hk.1.1.1.2.2.1, ⟨hk.1.1.1.1, ⟨hk.1.1.2, ⟨hk.1.1.1.2.2.2.1, ⟨hk.1.1.1.2.2.2.2, hk.1.2⟩⟩⟩⟩⟩⟩⟩)⟩, ⟨by (with_reducible repeat (first | apply Kd.R_alloc | apply Kd.R_drewN | apply Kd.R_drew)); exact Kd.R_mono (Kd.R_far (p := ⟨gb121, 2, none⟩) (Kd.R_far (p := ⟨gb121, 1, none⟩) (Kd.R_far (p := ⟨gb121, 0, none⟩) (Kd.R_types HO120.out BK121.out (by decide)) (fun _ hk => hk.2) (.int .i64 t116)) (fun _ hk => hk.2) (.int .i64 t117)) (fun _ hk => hk.2) (.slice Ao31 t118.length co31)) (fun _ hk => trivial)⟩, ⟨by (with_reducible repeat (first | refine blk_drewN ?_ _ | refine blk_drew ?_ | refine blk_alloc ?_ _)); refine blk_far ?_ NB101_121.out _; (with_reducible repeat (first | refine blk_drewN ?_ _ | refine blk_drew ?_ | refine blk_alloc ?_ _)); refine blk_far ?_ NB101_121.out _; (with_reducible repeat (first | refine blk_drewN ?_ _ | refine blk_drew ?_ | refine blk_alloc ?_ _)); refine blk_far ?_ NB101_121.out _; (with_reducible repeat (first | refine blk_drewN ?_ _ | refine blk_drew ?_ | refine blk_alloc ?_ _)); exact BK101.out⟩, ⟨by (with_reducible repeat (first | refine blk_drewN ?_ _ | refine blk_drew ?_ | refine blk_alloc ?_ _)); refine blk_far ?_ NB108_121.out _; (with_reducible repeat (first | refine blk_drewN ?_ _ | refine blk_drew ?_ | refine blk_alloc ?_ _)); refine blk_far ?_ NB108_121.out _; (with_reducible repeat (first | refine blk_drewN ?_ _ | refine blk_drew ?_ | refine blk_alloc ?_ _)); refine blk_far ?_ NB108_121.out _; (with_reducible repeat (first | refine blk_drewN ?_ _ | refine blk_drew ?_ | refine blk_alloc ?_ _)); exact BK108.out⟩, ⟨by (with_reducible repeat (first | refine blk_drewN ?_ _ | refine blk_drew ?_ | refine blk_alloc ?_ _)); refine blk_put (cs := #[.int .i64 t116, .int .i64 t117, .slice none 0 0]) ?_ 2 _ rfl; (with_reducible repeat (first | refine blk_drewN ?_ _ | refine blk_drew ?_ | refine blk_alloc ?_ _)); refine blk_put (cs := #[.int .i64 t116, .int .i64 0, .slice none 0 0]) ?_ 1 _ rfl; (with_reducible repeat (first | refine blk_drewN ?_ _ | refine blk_drew ?_ | refine blk_alloc ?_ _)); refine blk_put (cs := #[.int .i64 0, .int .i64 0, .slice none 0 0]) ?_ 0 _ rfl; (with_reducible repeat (first | refine blk_drewN ?_ _ | refine blk_drew ?_ | refine blk_alloc ?_ _)); exact BK121.out⟩, ⟨aq17⟩⟩
         case round =>
          clear H'
          try clear c1
          try clear p1
          try clear q1
          try clear hx1
          try clear c2
          try clear p2
          try clear c4
          try clear c5
          try clear c6
          try clear c6b0
          try clear c6b1
          try clear c7
          try clear c7b0
          try clear c7b1
          try clear c11
          try clear p11
          try clear q11
          try clear hx11
          try clear c12
          try clear c15
          try clear c20
          try clear c20b0
          try clear c21
          try clear c21b0
          try clear c22
          try clear c22b0
          try clear c24
          try clear c28
          try clear c29
          try clear hcz13_0
          try clear hcz13_1
          try clear hcz13_2
          try clear hcz15_0
          try clear hcz15_1
          try clear hcz15_2
          try clear hcz25_0
          try clear hcz25_1
          try clear hcz25_2
          try clear hcz30_0
          try clear hcz30_1
          try clear hcz30_2
          try clear hcz9_0
          try clear hcz9_1
          try clear hcz9_2
          try clear hfz13_0
          try clear hfz13_1
          try clear hfz13_2
          try clear hfz15_0
          try clear hfz15_1
          try clear hfz15_2
          try clear hfz25_0
          try clear hfz25_1
          try clear hfz25_2
          try clear hfz30_0
          try clear hfz30_1
          try clear hfz30_2
          try clear hfz9_0
          try clear hfz9_1
          try clear hfz9_2
          try clear hx115_0
          try clear p115
          try clear p2
          try clear q115
          obtain ⟨x42_2, x109002_2, x122002_2, u109002, u122002, rfl, HA, HK2, HO_8, HO_9, HO_31, HO_40, HO_109002, HO_122002, BK101, BK108, BK121, HB⟩ := hrel
          cases gk with
          | zero => exact absurd HA.out (by simp [spec_mcPermutation.l1])
          | succ k2 =>
           have H := HA.out
           clear HA
           simp only [spec_mcPermutation.l1] at H
           by_cases c32 : x42_2 < (t109.length : Int)
           ·rw [if_pos c32] at H
            have c32b0 : decide (x42_2 < (t109.length : Int)) = true := decide_eq_true c32
            clear c32
            by_cases c33 : 0 ≤ x42_2
            ·rw [if_pos c33] at H
             have c33b0 : decide (0 ≤ x42_2) = true := decide_eq_true c33
             clear c33
             by_cases c34 : x42_2 < (t109.length : Int)
             ·rw [if_pos c34] at H
              have c34b0 : decide (x42_2 < (t109.length : Int)) = true := decide_eq_true c34
              clear c34
              by_cases c35 : 0 ≤ (rd t109 x42_2)
              ·rw [if_pos c35] at H
               have c35b0 : decide (0 ≤ (rd t109 x42_2)) = true := decide_eq_true c35
               clear c35
               by_cases c36 : (rd t109 x42_2) < (x122002_2.length : Int)
               ·rw [if_pos c36] at H
                have c36b0 : decide ((rd t109 x42_2) < (x122002_2.length : Int)) = true := decide_eq_true c36
                clear c36
                obtain ⟨y123, hy123⟩ : ∃ y_ : List Int, y_ = (x122002_2.set ((rd t109 x42_2) : Int).toNat 111) := ⟨_, rfl⟩
                replace H : (spec_mcPermutation.l1 k2 a1 t109 x9_1 x33_1 (rd t109 x33_1) t109 (t109.length : Int) x33_1 t109 (t109.length : Int) (wrap64 (x42_2 + 1)) a0_0 a0_1 l0_2 t116 t117 y123) = some (r1, r2) := by first | (rw [hy123]; with_reducible exact H) | (have H2_ := (Option.bind_some _ _).symm.trans H; rw [hy123]; with_reducible exact H2_) | (have H2_ := (Option.bind_some _ _).symm.trans H; with_reducible exact H2_) | with_reducible exact H | (rw [hy123]; exact H) | exact H
                have Ny123 := am hy123
                clear hy123
                have H' := am H
                clear H
                have p122 : 0 ≤ (x42_2 : Int) := of_decide_eq_true aq5
                have q122 : x42_2 < (t109.length : Int) := of_decide_eq_true aq5
                obtain ⟨ad122, e122, hx122_0⟩ := Kd.at_int (Kd.R_reads' HO_40.out).2.2 x42_2 p122 q122
                obtain rfl : ad115 = ad122 := (by injection e122)
                replace p122 := eq_true p122
                replace q122 := eq_true q122
                have hnb38 := NB121_101.out
                have hnc38 := NB101_121.out
                have hnb39 := NB121_108.out
                have hnc39 := NB108_121.out
                have hcz40_0 : wr.cell? ⟨gb121, 0, none⟩ = some (.int .i64 t116) := (blk_cell BK121.out 0).trans rfl
                have hcz40_1 : wr.cell? ⟨gb121, 1, none⟩ = some (.int .i64 t117) := (blk_cell BK121.out 1).trans rfl
                have hcz40_2 : wr.cell? ⟨gb121, 2, none⟩ = some (u122002) := (blk_cell BK121.out 2).trans rfl
                have hfz40_0 := blk_frozen BK121.out 0
                have hfz40_1 := blk_frozen BK121.out 1
                have hfz40_2 := blk_frozen BK121.out 2
                have p37 : 0 ≤ ((rd t109 x42_2) : Int) := of_decide_eq_true aq5
                have q37 : ((rd t109 x42_2) : Int) < ((x122002_2.length : Int) : Int) := of_decide_eq_true aq5
                obtain ⟨go37, co37, eo37, gb37, gl37, cl37, HG37⟩ := Kd.R_form HO_122002.out (by omega)
                (first | cases eo37 | (injection eo37 with ea_ en_ ec_; (first | subst ea_ | (injection ea_ with ea_; subst ea_)); subst ec_; clear en_))
                have GB37 := am gb37
                have GG37 := am HG37
                clear gb37 gl37 HG37
                obtain ⟨hx37_0, hf37_0⟩ := Kd.R_celln 0 HO_122002.out ((rd t109 x42_2) : Int) p37 q37
                replace p37 := eq_true p37
                replace q37 := eq_true q37
                have HP41 := Kd.R_putg HO_122002.out ((rd t109 x42_2) : Int) 111
                go_wp2_with (first | ((with_reducible refine gate_store (t := 5) (p := 49) rfl ?_); refine store_event (t := 5) (p := 49) (v := ?vo_w42) (w1 := (wr.setCell ⟨go37, ((rd t109 x42_2) : Int).toNat, none⟩ (.int .u8 111))) ?hg ?ho ?hn ?hr ?_; (case ho => rfl); (case hg => rfl); (case hn => rfl); (case hr => exact aq15); intro w42 hw; have hg : wr.grownBy w42 (some go37) := (by rw [hw]; exact HP41.2); have hp_ : Kd.R (Kd.int .u8) 5 w42 w.heap.size (fun _ => True) (.slice (some ⟨go37, 0, none⟩) x122002_2.length co37) y123 := (by rw [hw, Ny123.out]; exact HP41.1); clear HP41; have n0_ := am (Kd.R_over' (v := (.slice (some ⟨go37, 0, none⟩) x122002_2.length co37)) aq13 (Kd.R_typed HO_122002.out) (by decide) hg); have n1_ := am (Kd.R_over' (v := (.slice (some ⟨go37, 0, none⟩) x122002_2.length co37)) aq14 (Kd.R_typed HO_122002.out) (by decide) hg); have n2_ := am (Kd.R_over' (v := (.slice (some ⟨go37, 0, none⟩) x122002_2.length co37)) aq27 (Kd.R_typed HO_122002.out) (by decide) hg); have n3_ := am (Kd.R_over' (v := (.slice (some ⟨go37, 0, none⟩) x122002_2.length co37)) aq47 (Kd.R_typed HO_122002.out) (by decide) hg); have n4_ := am (Kd.V_afterv (v := (.slice (some ⟨go37, 0, none⟩) x122002_2.length co37)) (v1 := (.slice (some ⟨go37, 0, none⟩) x122002_2.length co37)) (ok := (fun k_ => some k_ ≠ (.slice (some ad115) t109.length co17 : Value).ownBlock ∧ some k_ ≠ (v113 : Value).ownBlock ∧ some k_ ≠ (.slice (some ad115) t109.length co17 : Value).ownBlock ∧ some k_ ≠ (.slice (some ad115) t109.length co17 : Value).ownBlock ∧ k_ ≠ gb101 ∧ k_ ≠ gb108 ∧ k_ ≠ gb121)) aq86 hg (.inl rfl)); have n5_ := am (hp_); have n6_ := am (blk_grown (g := gb101) (o := .cells #[.int .i64 a0_0, .int .i64 a0_1, .slice A0_2 l0_2.length c0_2] 62 (0, 0)) aq2 hg (Kd.R_ne HO_122002.out BK101.out (by decide))); have n7_ := am (blk_grown (g := gb108) (o := .cells #[.int .i64 t102, .int .i64 t103, u109002] 62 (0, 0)) aq19 hg (Kd.R_ne HO_122002.out BK108.out (by decide))); have n8_ := am (blk_grown (g := gb121) (o := .cells #[.int .i64 t116, .int .i64 t117, .slice (some ⟨go37, 0, none⟩) x122002_2.length co37] 62 (0, 0)) aq29 hg (Kd.R_ne HO_122002.out BK121.out (by decide))); have n9_ := am ((by rw [hw]; exact below_set (HB.out) GB37.out : Below w.heap.size w w42)); clear HO_8; clear HO_9; clear HO_31; clear HO_40; clear HO_109002; clear HO_122002; clear BK101; clear BK108; clear BK121; clear HB; have HO_8 := n0_; have HO_9 := n1_; have HO_31 := n2_; have HO_40 := n3_; have HO_109002 := n4_; have HO_122002 := n5_; have BK101 := n6_; have BK108 := n7_; have BK121 := n8_; have HB := n9_; clear n0_ n1_ n2_ n3_ n4_ n5_ n6_ n7_ n8_ n9_; clear hg hw hp_))
                go_roundg k2
                case measure => have := HK1.out; have := HK2.out; omega
                case rel => exact ⟨(wrap64 (x42_2 + 1)), (x109002_2), (y123), (u109002), (.slice (some ⟨go37, 0, none⟩) x122002_2.length co37), aq6, H', ⟨aq45⟩, ⟨aq13⟩, ⟨aq14⟩, ⟨aq27⟩, ⟨aq47⟩, ⟨by (with_reducible repeat (first | apply Kd.V_alloc | apply Kd.V_drewN | apply Kd.V_drew)); exact Kd.V_mono HO_109002.out (fun _ hk => ⟨hk.1.1, ⟨hk.1.2.1, ⟨hk.1.2.2.1, ⟨hk.1.2.2.2.1, ⟨hk.2, ⟨hk.1.2.2.2.2.1, ⟨hk.1.2.2.2.2.2.1, hk.1.2.2.2.2.2.2⟩⟩⟩⟩⟩⟩⟩)⟩, ⟨aq56⟩, ⟨aq2⟩, ⟨aq19⟩, ⟨aq29⟩, ⟨aq17⟩⟩
               ·rw [if_neg c36] at H
                exact absurd H (by simp)
              ·rw [if_neg c35] at H
               exact absurd H (by simp)
             ·rw [if_neg c34] at H
              exact absurd H (by simp)
            ·rw [if_neg c33] at H
             exact absurd H (by simp)
           ·rw [if_neg c32] at H
            have c32b0 : decide (x42_2 < (t109.length : Int)) = false := decide_eq_false c32
            clear c32
            by_cases c43 : 0 ≤ (rd t109 x33_1)
            ·rw [if_pos c43] at H
             have c43b0 : decide (0 ≤ (rd t109 x33_1)) = true := decide_eq_true c43
             clear c43
             by_cases c44 : (rd t109 x33_1) < (x122002_2.length : Int)
             ·rw [if_pos c44] at H
              have c44b0 : decide ((rd t109 x33_1) < (x122002_2.length : Int)) = true := decide_eq_true c44
              clear c44
              obtain ⟨y124, hy124⟩ : ∃ y_ : List Int, y_ = (x122002_2.set ((rd t109 x33_1) : Int).toNat 97) := ⟨_, rfl⟩
              replace H : ((spec_tiRun.f k2 t116 t117 y124 a1).bind fun bt125 => ((spec_tiPlace.f k2 bt125.1 bt125.2.1 bt125.2.2 97).bind fun t130 => (spec_mcPermutation.l2 k2 a1 t109 x9_1 x33_1 t130 t109 (t109.length : Int) x33_1 t109 (t109.length : Int) 0 a0_0 a0_1 l0_2))) = some (r1, r2) := by first | (rw [hy124]; with_reducible exact H) | (have H2_ := (Option.bind_some _ _).symm.trans H; rw [hy124]; with_reducible exact H2_) | (have H2_ := (Option.bind_some _ _).symm.trans H; with_reducible exact H2_) | with_reducible exact H | (rw [hy124]; exact H) | exact H
              have Ny124 := am hy124
              clear hy124
              replace H := Option.bind_eq_some_iff.mp H
              obtain ⟨⟨t125, t126, t127⟩, A460, H⟩ := H
              replace H : ((spec_tiPlace.f k2 t125 t126 t127 97).bind fun t130 => (spec_mcPermutation.l2 k2 a1 t109 x9_1 x33_1 t130 t109 (t109.length : Int) x33_1 t109 (t109.length : Int) 0 a0_0 a0_1 l0_2)) = some (r1, r2) := H
              have A46 := am A460
              clear A460
              replace H := Option.bind_eq_some_iff.mp H
              obtain ⟨t130, A470, H⟩ := H
              replace H : (spec_mcPermutation.l2 k2 a1 t109 x9_1 x33_1 t130 t109 (t109.length : Int) x33_1 t109 (t109.length : Int) 0 a0_0 a0_1 l0_2) = some (r1, r2) := H
              have A47 := am A470
              clear A470
              have H' := am H
              clear H
              have hnb48 := NB121_101.out
              have hnc48 := NB101_121.out
              have hnb49 := NB121_108.out
              have hnc49 := NB108_121.out
              have hcz50_0 : wr.cell? ⟨gb121, 0, none⟩ = some (.int .i64 t116) := (blk_cell BK121.out 0).trans rfl
              have hcz50_1 : wr.cell? ⟨gb121, 1, none⟩ = some (.int .i64 t117) := (blk_cell BK121.out 1).trans rfl
              have hcz50_2 : wr.cell? ⟨gb121, 2, none⟩ = some (u122002) := (blk_cell BK121.out 2).trans rfl
              have hfz50_0 := blk_frozen BK121.out 0
              have hfz50_1 := blk_frozen BK121.out 1
              have hfz50_2 := blk_frozen BK121.out 2
              have p45 : 0 ≤ ((rd t109 x33_1) : Int) := of_decide_eq_true aq5
              have q45 : ((rd t109 x33_1) : Int) < ((x122002_2.length : Int) : Int) := of_decide_eq_true aq5
              obtain ⟨go45, co45, eo45, gb45, gl45, cl45, HG45⟩ := Kd.R_form HO_122002.out (by omega)
              (first | cases eo45 | (injection eo45 with ea_ en_ ec_; (first | subst ea_ | (injection ea_ with ea_; subst ea_)); subst ec_; clear en_))
              have GB45 := am gb45
              have GG45 := am HG45
              clear gb45 gl45 HG45
              obtain ⟨hx45_0, hf45_0⟩ := Kd.R_celln 0 HO_122002.out ((rd t109 x33_1) : Int) p45 q45
              replace p45 := eq_true p45
              replace q45 := eq_true q45
              have HP51 := Kd.R_putg HO_122002.out ((rd t109 x33_1) : Int) 97
              go_wp2_with (first | ((with_reducible refine gate_store (t := 5) (p := 54) rfl ?_); refine store_event (t := 5) (p := 54) (v := ?vo_w52) (w1 := (wr.setCell ⟨go45, ((rd t109 x33_1) : Int).toNat, none⟩ (.int .u8 97))) ?hg ?ho ?hn ?hr ?_; (case ho => rfl); (case hg => rfl); (case hn => rfl); (case hr => exact aq15); intro w52 hw; have hg : wr.grownBy w52 (some go45) := (by rw [hw]; exact HP51.2); have hp_ : Kd.R (Kd.int .u8) 5 w52 w.heap.size (fun _ => True) (.slice (some ⟨go45, 0, none⟩) x122002_2.length co45) y124 := (by rw [hw, Ny124.out]; exact HP51.1); clear HP51; have n0_ := am (Kd.R_over' (v := (.slice (some ⟨go45, 0, none⟩) x122002_2.length co45)) aq13 (Kd.R_typed HO_122002.out) (by decide) hg); have n1_ := am (Kd.R_over' (v := (.slice (some ⟨go45, 0, none⟩) x122002_2.length co45)) aq14 (Kd.R_typed HO_122002.out) (by decide) hg); have n2_ := am (Kd.R_over' (v := (.slice (some ⟨go45, 0, none⟩) x122002_2.length co45)) aq27 (Kd.R_typed HO_122002.out) (by decide) hg); have n3_ := am (Kd.R_over' (v := (.slice (some ⟨go45, 0, none⟩) x122002_2.length co45)) aq47 (Kd.R_typed HO_122002.out) (by decide) hg); have n4_ := am (Kd.V_afterv (v := (.slice (some ⟨go45, 0, none⟩) x122002_2.length co45)) (v1 := (.slice (some ⟨go45, 0, none⟩) x122002_2.length co45)) (ok := (fun k_ => some k_ ≠ (.slice (some ad115) t109.length co17 : Value).ownBlock ∧ some k_ ≠ (v113 : Value).ownBlock ∧ some k_ ≠ (.slice (some ad115) t109.length co17 : Value).ownBlock ∧ some k_ ≠ (.slice (some ad115) t109.length co17 : Value).ownBlock ∧ k_ ≠ gb101 ∧ k_ ≠ gb108 ∧ k_ ≠ gb121)) aq86 hg (.inl rfl)); have n5_ := am (hp_); have n6_ := am (blk_grown (g := gb101) (o := .cells #[.int .i64 a0_0, .int .i64 a0_1, .slice A0_2 l0_2.length c0_2] 62 (0, 0)) aq2 hg (Kd.R_ne HO_122002.out BK101.out (by decide))); have n7_ := am (blk_grown (g := gb108) (o := .cells #[.int .i64 t102, .int .i64 t103, u109002] 62 (0, 0)) aq19 hg (Kd.R_ne HO_122002.out BK108.out (by decide))); have n8_ := am (blk_grown (g := gb121) (o := .cells #[.int .i64 t116, .int .i64 t117, .slice (some ⟨go45, 0, none⟩) x122002_2.length co45] 62 (0, 0)) aq29 hg (Kd.R_ne HO_122002.out BK121.out (by decide))); have n9_ := am ((by rw [hw]; exact below_set (HB.out) GB45.out : Below w.heap.size w w52)); clear HO_8; clear HO_9; clear HO_31; clear HO_40; clear HO_109002; clear HO_122002; clear BK101; clear BK108; clear BK121; clear HB; have HO_8 := n0_; have HO_9 := n1_; have HO_31 := n2_; have HO_40 := n3_; have HO_109002 := n4_; have HO_122002 := n5_; have BK101 := n6_; have BK108 := n7_; have BK121 := n8_; have HB := n9_; clear n0_ n1_ n2_ n3_ n4_ n5_ n6_ n7_ n8_ n9_; clear hg hw hp_; have hcz53_0 : w52.cell? ⟨gb121, 0, none⟩ = some (.int .i64 t116) := (blk_cell BK121.out 0).trans rfl; have hcz53_1 : w52.cell? ⟨gb121, 1, none⟩ = some (.int .i64 t117) := (blk_cell BK121.out 1).trans rfl; have hcz53_2 : w52.cell? ⟨gb121, 2, none⟩ = some (.slice (some ⟨go45, 0, none⟩) x122002_2.length co45) := (blk_cell BK121.out 2).trans rfl; have hfz53_0 := blk_frozen BK121.out 0; have hfz53_1 := blk_frozen BK121.out 1; have hfz53_2 := blk_frozen BK121.out 2) | ((with_reducible refine gate_callee (f := 99) rfl ?_); refine goesL_ (some 57) rfl rfl Tryz.func99 (by kernel_rfl) rfl #[.agg #[.int .i64 t116, .int .i64 t117, .slice (some ⟨go45, 0, none⟩) y124.length co45], .string a1] rfl (by (try simp only [List.map_toArray, List.map_cons, List.map_nil]); first | done | (rw [show y124.length = x122002_2.length from (Kd.R_reads' HO_122002.out).1.symm] <;> rfl) | rfl | (simp only [List.length_drop, List.length_take]; rfl)) ?_; (with_reducible refine (spec_tiRun.calls k2 t116 t117 (fun k_ => some k_ = (.slice (some ⟨go45, 0, none⟩) x122002_2.length co45 : Value).ownBlock) _ _ y124 a1 t125 t126 t127 _ ?side1 A46.out).mono ?_); (case side1 => rw [show y124.length = x122002_2.length from (Kd.R_reads' HO_122002.out).1.symm]; exact Kd.R_V (Kd.R_tight rfl (Kd.R_types (Kd.R_types (Kd.R_types (Kd.R_apart' (Kd.R_apart' (Kd.R_apart' (Kd.R_apart' (HO_122002.out) (Kd.R_typed HO_8.out) (by decide)) (Kd.R_typed HO_9.out) (by decide)) (Kd.R_typed HO_31.out) (by decide)) (Kd.R_typed HO_40.out) (by decide)) BK101.out (by decide)) BK108.out (by decide)) BK121.out (by decide)))); rintro e w54 ⟨v128, rfl, ho0, hb⟩; refine ⟨_, rfl, ?_⟩; have n0_ := am (Kd.R_below aq13 hb); have n1_ := am (Kd.R_below aq14 hb); have n2_ := am (Kd.R_below aq27 hb); have n3_ := am (Kd.R_below aq47 hb); have n4_ := am (Kd.V_below aq55 hb); have n5_ := am (Kd.R_below aq56 hb); have n6_ := am (Kd.V_lower (Kd.V_mono (ok' := fun k_ => some k_ ≠ (.slice (some ad115) t109.length co17 : Value).ownBlock ∧ some k_ ≠ (v113 : Value).ownBlock ∧ some k_ ≠ (.slice (some ad115) t109.length co17 : Value).ownBlock ∧ some k_ ≠ (.slice (some ad115) t109.length co17 : Value).ownBlock ∧ k_ ≠ gb101 ∧ k_ ≠ gb108 ∧ k_ ≠ gb121) ho0 (fun k_ hk_ => ⟨Or.elim hk_ (fun hs_ => ((Kd.R_types (Kd.R_types (Kd.R_types (Kd.R_apart' (Kd.R_apart' (Kd.R_apart' (Kd.R_apart' (HO_122002.out) (Kd.R_typed HO_8.out) (by decide)) (Kd.R_typed HO_9.out) (by decide)) (Kd.R_typed HO_31.out) (by decide)) (Kd.R_typed HO_40.out) (by decide)) BK101.out (by decide)) BK108.out (by decide)) BK121.out (by decide)).1 k_ hs_.symm).1.1.1.1.1.1.2) (fun hn_ => (Kd.fresh' (Kd.R_lt aq13) k_ hn_)), Or.elim hk_ (fun hs_ => ((Kd.R_types (Kd.R_types (Kd.R_types (Kd.R_apart' (Kd.R_apart' (Kd.R_apart' (Kd.R_apart' (HO_122002.out) (Kd.R_typed HO_8.out) (by decide)) (Kd.R_typed HO_9.out) (by decide)) (Kd.R_typed HO_31.out) (by decide)) (Kd.R_typed HO_40.out) (by decide)) BK101.out (by decide)) BK108.out (by decide)) BK121.out (by decide)).1 k_ hs_.symm).1.1.1.1.1.2) (fun hn_ => (Kd.fresh' (Kd.R_lt aq14) k_ hn_)), Or.elim hk_ (fun hs_ => ((Kd.R_types (Kd.R_types (Kd.R_types (Kd.R_apart' (Kd.R_apart' (Kd.R_apart' (Kd.R_apart' (HO_122002.out) (Kd.R_typed HO_8.out) (by decide)) (Kd.R_typed HO_9.out) (by decide)) (Kd.R_typed HO_31.out) (by decide)) (Kd.R_typed HO_40.out) (by decide)) BK101.out (by decide)) BK108.out (by decide)) BK121.out (by decide)).1 k_ hs_.symm).1.1.1.1.2) (fun hn_ => (Kd.fresh' (Kd.R_lt aq27) k_ hn_)), Or.elim hk_ (fun hs_ => ((Kd.R_types (Kd.R_types (Kd.R_types (Kd.R_apart' (Kd.R_apart' (Kd.R_apart' (Kd.R_apart' (HO_122002.out) (Kd.R_typed HO_8.out) (by decide)) (Kd.R_typed HO_9.out) (by decide)) (Kd.R_typed HO_31.out) (by decide)) (Kd.R_typed HO_40.out) (by decide)) BK101.out (by decide)) BK108.out (by decide)) BK121.out (by decide)).1 k_ hs_.symm).1.1.1.2) (fun hn_ => (Kd.fresh' (Kd.R_lt aq47) k_ hn_)), Or.elim hk_ (fun hs_ => ((Kd.R_types (Kd.R_types (Kd.R_types (Kd.R_apart' (Kd.R_apart' (Kd.R_apart' (Kd.R_apart' (HO_122002.out) (Kd.R_typed HO_8.out) (by decide)) (Kd.R_typed HO_9.out) (by decide)) (Kd.R_typed HO_31.out) (by decide)) (Kd.R_typed HO_40.out) (by decide)) BK101.out (by decide)) BK108.out (by decide)) BK121.out (by decide)).1 k_ hs_.symm).1.1.2) (fun hn_ => (Kd.freshB (g := gb101) (o := .cells #[.int .i64 a0_0, .int .i64 a0_1, .slice A0_2 l0_2.length c0_2] 62 (0, 0)) aq2 k_ hn_)), Or.elim hk_ (fun hs_ => ((Kd.R_types (Kd.R_types (Kd.R_types (Kd.R_apart' (Kd.R_apart' (Kd.R_apart' (Kd.R_apart' (HO_122002.out) (Kd.R_typed HO_8.out) (by decide)) (Kd.R_typed HO_9.out) (by decide)) (Kd.R_typed HO_31.out) (by decide)) (Kd.R_typed HO_40.out) (by decide)) BK101.out (by decide)) BK108.out (by decide)) BK121.out (by decide)).1 k_ hs_.symm).1.2) (fun hn_ => (Kd.freshB (g := gb108) (o := .cells #[.int .i64 t102, .int .i64 t103, u109002] 62 (0, 0)) aq19 k_ hn_)), Or.elim hk_ (fun hs_ => ((Kd.R_types (Kd.R_types (Kd.R_types (Kd.R_apart' (Kd.R_apart' (Kd.R_apart' (Kd.R_apart' (HO_122002.out) (Kd.R_typed HO_8.out) (by decide)) (Kd.R_typed HO_9.out) (by decide)) (Kd.R_typed HO_31.out) (by decide)) (Kd.R_typed HO_40.out) (by decide)) BK101.out (by decide)) BK108.out (by decide)) BK121.out (by decide)).1 k_ hs_.symm).2) (fun hn_ => (Kd.freshB (g := gb121) (o := .cells #[.int .i64 t116, .int .i64 t117, .slice (some ⟨go45, 0, none⟩) x122002_2.length co45] 62 (0, 0)) aq29 k_ hn_))⟩)) (below_size aq17)); have n7_ := am (blk_below (g := gb101) (o := .cells #[.int .i64 a0_0, .int .i64 a0_1, .slice A0_2 l0_2.length c0_2] 62 (0, 0)) aq2 hb); have n8_ := am (blk_below (g := gb108) (o := .cells #[.int .i64 t102, .int .i64 t103, u109002] 62 (0, 0)) aq19 hb); have n9_ := am (blk_below (g := gb121) (o := .cells #[.int .i64 t116, .int .i64 t117, .slice (some ⟨go45, 0, none⟩) x122002_2.length co45] 62 (0, 0)) aq29 hb); have n10_ := am (below_step aq17 hb); clear HO_8; clear HO_9; clear HO_31; clear HO_40; clear HO_109002; clear HO_122002; clear BK101; clear BK108; clear BK121; clear HB; have HO_8 := n0_; have HO_9 := n1_; have HO_31 := n2_; have HO_40 := n3_; have HO_109002 := n4_; have HO_122002 := n5_; have HO129 := n6_; have BK101 := n7_; have BK108 := n8_; have BK121 := n9_; have HB := n10_; clear n0_ n1_ n2_ n3_ n4_ n5_ n6_ n7_ n8_ n9_ n10_; (try clear hb); (try clear hb2); (try clear hk); (try clear hi); (try clear ho0); obtain ⟨Ao55, co55, eo55⟩ := Kd.V_slice HO129.out; subst eo55) | ((with_reducible refine gate_callee (f := 123) rfl ?_); refine goesL_ (some 58) rfl rfl Tryz.func123 (by kernel_rfl) rfl #[.agg #[.int .i64 t125, .int .i64 t126, .slice Ao55 t127.length co55], .int .u8 97] rfl aq4 ?_; (with_reducible refine (spec_tiPlace.calls k2 t125 t126 _ _ t127 97 t130 _ ?side1 ?side2 A47.out).mono ?_); (case side1 => repeat (first | exact (Kd.V_reads' HO129.out).2.2 | (with_reducible refine Kd.C_alloc ?_ _) | (with_reducible refine Kd.C_drewN ?_ _) | (with_reducible refine Kd.C_drew ?_))); (case side2 => exact (Kd.V_reads' HO129.out).2.1); rintro e w56 ⟨rfl, hb⟩; refine ⟨_, rfl, ?_⟩; have n0_ := am (Kd.R_below aq13 hb); have n1_ := am (Kd.R_below aq14 hb); have n2_ := am (Kd.R_below aq27 hb); have n3_ := am (Kd.R_below aq47 hb); have n4_ := am (Kd.V_below aq55 hb); have n5_ := am (Kd.R_below aq56 hb); have n6_ := am (Kd.V_below (by (with_reducible repeat (first | apply Kd.V_alloc | apply Kd.V_drewN | apply Kd.V_drew)); exact HO129.out) hb); have n7_ := am (blk_below (g := gb101) (o := .cells #[.int .i64 a0_0, .int .i64 a0_1, .slice A0_2 l0_2.length c0_2] 62 (0, 0)) aq2 hb); have n8_ := am (blk_below (g := gb108) (o := .cells #[.int .i64 t102, .int .i64 t103, u109002] 62 (0, 0)) aq19 hb); have n9_ := am (blk_below (g := gb121) (o := .cells #[.int .i64 t116, .int .i64 t117, .slice (some ⟨go45, 0, none⟩) x122002_2.length co45] 62 (0, 0)) aq29 hb); have n10_ := am (below_step aq17 hb); clear HO_8; clear HO_9; clear HO_31; clear HO_40; clear HO_109002; clear HO_122002; clear HO129; clear BK101; clear BK108; clear BK121; clear HB; have HO_8 := n0_; have HO_9 := n1_; have HO_31 := n2_; have HO_40 := n3_; have HO_109002 := n4_; have HO_122002 := n5_; have HO129 := n6_; have BK101 := n7_; have BK108 := n8_; have BK121 := n9_; have HB := n10_; clear n0_ n1_ n2_ n3_ n4_ n5_ n6_ n7_ n8_ n9_ n10_; (try clear hb); (try clear hb2); (try clear hk); (try clear hi)))
              go_loopg [61] k2 (fun kq v61 w' => ∃ (x9_3 : List Int) (x61_3 : Int), v61 = .int .i64 x61_3 ∧ Aside0 (spec_mcPermutation.l2 kq a1 t109 x9_3 x33_1 t130 t109 (t109.length : Int) x33_1 t109 (t109.length : Int) x61_3 a0_0 a0_1 l0_2 = some (r1, r2)) ∧ Aside0 (kq ≤ k2) ∧ Aside0 (Kd.R (Kd.int .i64) 3 w' w.heap.size (fun k_ => some k_ ≠ (v113 : Value).ownBlock) (.slice (some ad115) t109.length co17) t109) ∧ Aside0 (Kd.R (Kd.int .i64) 3 w' w.heap.size (fun k_ => some k_ ≠ ((.slice (some ad115) t109.length co17) : Value).ownBlock ∧ some k_ ≠ ((.slice (some ad115) t109.length co17) : Value).ownBlock ∧ some k_ ≠ ((.slice (some ad115) t109.length co17) : Value).ownBlock) v113 x9_3) ∧ Aside0 (Kd.R (Kd.int .i64) 3 w' w.heap.size (fun k_ => some k_ ≠ (v113 : Value).ownBlock) (.slice (some ad115) t109.length co17) t109) ∧ Aside0 (Kd.R (Kd.int .i64) 3 w' w.heap.size (fun k_ => some k_ ≠ (v113 : Value).ownBlock) (.slice (some ad115) t109.length co17) t109) ∧ Aside0 (Kd.V (Kd.int .u8) 5 w' w.heap.size (fun k_ => some k_ ≠ ((.slice (some ad115) t109.length co17) : Value).ownBlock ∧ some k_ ≠ (v113 : Value).ownBlock ∧ some k_ ≠ ((.slice (some ad115) t109.length co17) : Value).ownBlock ∧ some k_ ≠ ((.slice (some ad115) t109.length co17) : Value).ownBlock ∧ some k_ ≠ ((.slice (some ⟨go45, 0, none⟩) x122002_2.length co45) : Value).ownBlock ∧ k_ ≠ gb101 ∧ k_ ≠ gb108 ∧ k_ ≠ gb121) u109002 x109002_2) ∧ Aside0 (Kd.R (Kd.int .u8) 5 w' w.heap.size (fun _ => True) (.slice (some ⟨go45, 0, none⟩) x122002_2.length co45) y124) ∧ Aside0 (w'.heap[gb101]? = some (.cells #[.int .i64 a0_0, .int .i64 a0_1, (.slice A0_2 l0_2.length c0_2)] 62 (0, 0))) ∧ Aside0 (w'.heap[gb108]? = some (.cells #[.int .i64 t102, .int .i64 t103, u109002] 62 (0, 0))) ∧ Aside0 (w'.heap[gb121]? = some (.cells #[.int .i64 t116, .int .i64 t117, (.slice (some ⟨go45, 0, none⟩) x122002_2.length co45)] 62 (0, 0))) ∧ Aside0 (Below w.heap.size w w'))
              case atStart => exact ⟨(x9_1), (0), aq6, H', ⟨Nat.le_refl _⟩, ⟨aq13⟩, ⟨by (with_reducible repeat (first | apply Kd.R_alloc | apply Kd.R_drewN | apply Kd.R_drew)); exact Kd.R_mono HO_9.out (fun _ hk => ⟨hk.1, ⟨hk.2.1, hk.1⟩⟩)⟩, ⟨aq27⟩, ⟨aq13⟩, ⟨by (with_reducible repeat (first | apply Kd.V_alloc | apply Kd.V_drewN | apply Kd.V_drew)); exact Kd.V_mono HO_109002.out (fun _ hk => ⟨hk.1.1, ⟨hk.1.2.1, ⟨hk.1.2.2.1, ⟨hk.1.1, ⟨hk.2, ⟨hk.1.2.2.2.2.1, ⟨hk.1.2.2.2.2.2.1, hk.1.2.2.2.2.2.2⟩⟩⟩⟩⟩⟩⟩)⟩, ⟨aq56⟩, ⟨aq2⟩, ⟨aq19⟩, ⟨aq29⟩, ⟨aq17⟩⟩
              case round =>
               clear H'
               try clear c1
               try clear p1
               try clear q1
               try clear hx1
               try clear c2
               try clear p2
               try clear c3
               try clear p3
               try clear q3
               try clear hx3
               try clear hf3
               try clear c4
               try clear p4
               try clear q4
               try clear hx4
               try clear hf4
               try clear c5
               try clear c6
               try clear c6b0
               try clear c6b1
               try clear p6
               try clear c7
               try clear c7b0
               try clear c7b1
               try clear c9
               try clear c11
               try clear p11
               try clear q11
               try clear hx11
               try clear c12
               try clear p12
               try clear q12
               try clear hx12
               try clear c15
               try clear c20
               try clear c20b0
               try clear c21
               try clear c21b0
               try clear c22
               try clear c22b0
               try clear c24
               try clear c28
               try clear c29
               try clear c32
               try clear c32b0
               try clear c33
               try clear c33b0
               try clear c34
               try clear c34b0
               try clear c35
               try clear c35b0
               try clear c36
               try clear c36b0
               try clear p37
               try clear q37
               try clear hx37
               try clear hf37
               try clear c38
               try clear c39
               try clear c43
               try clear c43b0
               try clear c44
               try clear c44b0
               try clear p45
               try clear q45
               try clear hx45
               try clear hf45
               try clear c48
               try clear c49
               try clear c54
               try clear hcz13_0
               try clear hcz13_1
               try clear hcz13_2
               try clear hcz15_0
               try clear hcz15_1
               try clear hcz15_2
               try clear hcz25_0
               try clear hcz25_1
               try clear hcz25_2
               try clear hcz30_0
               try clear hcz30_1
               try clear hcz30_2
               try clear hcz40_0
               try clear hcz40_1
               try clear hcz40_2
               try clear hcz50_0
               try clear hcz50_1
               try clear hcz50_2
               try clear hcz53_0
               try clear hcz53_1
               try clear hcz53_2
               try clear hcz9_0
               try clear hcz9_1
               try clear hcz9_2
               try clear hfz13_0
               try clear hfz13_1
               try clear hfz13_2
               try clear hfz15_0
               try clear hfz15_1
               try clear hfz15_2
               try clear hfz25_0
               try clear hfz25_1
               try clear hfz25_2
               try clear hfz30_0
               try clear hfz30_1
               try clear hfz30_2
               try clear hfz40_0
               try clear hfz40_1
               try clear hfz40_2
               try clear hfz50_0
               try clear hfz50_1
               try clear hfz50_2
               try clear hfz53_0
               try clear hfz53_1
               try clear hfz53_2
               try clear hfz9_0
               try clear hfz9_1
               try clear hfz9_2
               try clear hx115_0
               try clear hx122_0
               try clear hx37_0
               try clear hx45_0
               try clear p1
               try clear p11
               try clear p115
               try clear p122
               try clear p2
               try clear p37
               try clear p45
               try clear q1
               try clear q11
               try clear q115
               try clear q122
               try clear q37
               try clear q45
               obtain ⟨x9_3, x61_3, rfl, HA, HK3, HO_8, HO_9, HO_31, HO_59, HO_109002, HO_122002, BK101, BK108, BK121, HB⟩ := hrel
               have hl122002_3 := (Kd.R_reads' HO_122002.out).1
               rw [hl122002_3] at HO_122002
               (try simp only [hl122002_3])
               (try simp only [hl122002_3] at BK101)
               (try simp only [hl122002_3] at BK108)
               (try simp only [hl122002_3] at BK121)
               (try simp only [hl122002_3] at HO_8)
               (try simp only [hl122002_3] at HO_9)
               (try simp only [hl122002_3] at HO_31)
               (try simp only [hl122002_3] at HO_59)
               (try simp only [hl122002_3] at HO_109002)
               cases gk with
               | zero => exact absurd HA.out (by simp [spec_mcPermutation.l2])
               | succ k3 =>
                have H := HA.out
                clear HA
                simp only [spec_mcPermutation.l2] at H
                by_cases c57 : x61_3 < (t109.length : Int)
                ·rw [if_pos c57] at H
                 have c57b0 : decide (x61_3 < (t109.length : Int)) = true := decide_eq_true c57
                 clear c57
                 by_cases c58 : 0 ≤ x61_3
                 ·rw [if_pos c58] at H
                  have c58b0 : decide (0 ≤ x61_3) = true := decide_eq_true c58
                  clear c58
                  by_cases c59 : x61_3 < (t109.length : Int)
                  ·rw [if_pos c59] at H
                   have c59b0 : decide (x61_3 < (t109.length : Int)) = true := decide_eq_true c59
                   clear c59
                   by_cases c60 : (rd t109 x61_3) = t130
                   ·rw [if_pos c60] at H
                    have c60b0 : ((rd t109 x61_3) == t130) = true := beq_iff_eq.mpr c60
                    have c60b1 : ((rd t109 x61_3) != t130) = false := bne_eq_false_iff_eq.mpr c60
                    clear c60
                    by_cases c61 : 0 ≤ x33_1
                    ·rw [if_pos c61] at H
                     have c61b0 : decide (0 ≤ x33_1) = true := decide_eq_true c61
                     clear c61
                     by_cases c62 : x33_1 < (x9_3.length : Int)
                     ·rw [if_pos c62] at H
                      have c62b0 : decide (x33_1 < (x9_3.length : Int)) = true := decide_eq_true c62
                      clear c62
                      obtain ⟨y132, hy132⟩ : ∃ y_ : List Int, y_ = (x9_3.set (x33_1 : Int).toNat x61_3) := ⟨_, rfl⟩
                      replace H : (spec_mcPermutation.l2 k3 a1 t109 y132 x33_1 t130 t109 (t109.length : Int) x33_1 t109 (t109.length : Int) (wrap64 (x61_3 + 1)) a0_0 a0_1 l0_2) = some (r1, r2) := by first | (rw [hy132]; with_reducible exact H) | (have H2_ := (Option.bind_some _ _).symm.trans H; rw [hy132]; with_reducible exact H2_) | (have H2_ := (Option.bind_some _ _).symm.trans H; with_reducible exact H2_) | with_reducible exact H | (rw [hy132]; exact H) | exact H
                      have Ny132 := am hy132
                      clear hy132
                      have H' := am H
                      clear H
                      have p131 : 0 ≤ (x61_3 : Int) := of_decide_eq_true aq5
                      have q131 : x61_3 < (t109.length : Int) := of_decide_eq_true aq5
                      obtain ⟨ad131, e131, hx131_0⟩ := Kd.at_int (Kd.R_reads' HO_59.out).2.2 x61_3 p131 q131
                      obtain rfl : ad115 = ad131 := (by injection e131)
                      replace p131 := eq_true p131
                      replace q131 := eq_true q131
                      have p63 : 0 ≤ (x33_1 : Int) := of_decide_eq_true aq5
                      have q63 : (x33_1 : Int) < ((x9_3.length : Int) : Int) := of_decide_eq_true aq5
                      obtain ⟨go63, co63, eo63, gb63, gl63, cl63, HG63⟩ := Kd.R_form HO_9.out (by omega)
                      (first | cases eo63 | (injection eo63 with ea_ en_ ec_; (first | subst ea_ | (injection ea_ with ea_; subst ea_)); subst ec_; clear en_))
                      have GB63 := am gb63
                      have GG63 := am HG63
                      clear gb63 gl63 HG63
                      obtain ⟨hx63_0, hf63_0⟩ := Kd.R_celln 0 HO_9.out (x33_1 : Int) p63 q63
                      replace p63 := eq_true p63
                      replace q63 := eq_true q63
                      have HP64 := Kd.R_putg HO_9.out (x33_1 : Int) x61_3
                      go_wp2_with (first | ((with_reducible refine gate_store (t := 3) (p := 72) rfl ?_); refine store_event (t := 3) (p := 72) (v := ?vo_w65) (w1 := (wr.setCell ⟨go63, (x33_1 : Int).toNat, none⟩ (.int .i64 x61_3))) ?hg ?ho ?hn ?hr ?_; (case ho => rfl); (case hg => rfl); (case hn => rfl); (case hr => exact aq15); intro w65 hw; have hg : wr.grownBy w65 (some go63) := (by rw [hw]; exact HP64.2); have hp_ : Kd.R (Kd.int .i64) 3 w65 w.heap.size (fun k_ => some k_ ≠ (.slice (some ad115) t109.length co17 : Value).ownBlock ∧ some k_ ≠ (.slice (some ad115) t109.length co17 : Value).ownBlock ∧ some k_ ≠ (.slice (some ad115) t109.length co17 : Value).ownBlock) (.slice (some ⟨go63, 0, none⟩) x9_3.length co63) y132 := (by rw [hw, Ny132.out]; exact HP64.1); clear HP64; have n0_ := am (Kd.R_after (v := (.slice (some ⟨go63, 0, none⟩) x9_3.length co63)) (v1 := (.slice (some ⟨go63, 0, none⟩) x9_3.length co63)) (ok := (fun _ => True)) (by (with_reducible repeat (first | apply Kd.R_alloc | apply Kd.R_drewN | apply Kd.R_drew)); exact Kd.R_mono HO_8.out (fun _ hk => ⟨trivial, hk⟩)) hg (.inl rfl)); have n1_ := am (hp_); have n2_ := am (Kd.R_after (v := (.slice (some ⟨go63, 0, none⟩) x9_3.length co63)) (v1 := (.slice (some ⟨go63, 0, none⟩) x9_3.length co63)) (ok := (fun _ => True)) (by (with_reducible repeat (first | apply Kd.R_alloc | apply Kd.R_drewN | apply Kd.R_drew)); exact Kd.R_mono HO_31.out (fun _ hk => ⟨trivial, hk⟩)) hg (.inl rfl)); have n3_ := am (Kd.R_after (v := (.slice (some ⟨go63, 0, none⟩) x9_3.length co63)) (v1 := (.slice (some ⟨go63, 0, none⟩) x9_3.length co63)) (ok := (fun _ => True)) (by (with_reducible repeat (first | apply Kd.R_alloc | apply Kd.R_drewN | apply Kd.R_drew)); exact Kd.R_mono HO_59.out (fun _ hk => ⟨trivial, hk⟩)) hg (.inl rfl)); have n4_ := am (Kd.V_afterv (v := (.slice (some ⟨go63, 0, none⟩) x9_3.length co63)) (v1 := (.slice (some ⟨go63, 0, none⟩) x9_3.length co63)) (ok := (fun k_ => some k_ ≠ (.slice (some ad115) t109.length co17 : Value).ownBlock ∧ some k_ ≠ (.slice (some ad115) t109.length co17 : Value).ownBlock ∧ some k_ ≠ (.slice (some ad115) t109.length co17 : Value).ownBlock ∧ some k_ ≠ (.slice (some ⟨go45, 0, none⟩) y124.length co45 : Value).ownBlock ∧ k_ ≠ gb101 ∧ k_ ≠ gb108 ∧ k_ ≠ gb121)) (by (with_reducible repeat (first | apply Kd.V_alloc | apply Kd.V_drewN | apply Kd.V_drew)); exact Kd.V_mono HO_109002.out (fun _ hk => ⟨⟨hk.1, ⟨hk.2.2.1, ⟨hk.2.2.2.1, ⟨hk.2.2.2.2.1, ⟨hk.2.2.2.2.2.1, ⟨hk.2.2.2.2.2.2.1, hk.2.2.2.2.2.2.2⟩⟩⟩⟩⟩⟩, hk.2.1⟩)) hg (.inl rfl)); have n5_ := am (Kd.R_over' (v := (.slice (some ⟨go63, 0, none⟩) x9_3.length co63)) aq56 (Kd.R_typed HO_9.out) (by decide) hg); have n6_ := am (blk_grown (g := gb101) (o := .cells #[.int .i64 a0_0, .int .i64 a0_1, .slice A0_2 l0_2.length c0_2] 62 (0, 0)) aq2 hg (Kd.R_ne HO_9.out BK101.out (by decide))); have n7_ := am (blk_grown (g := gb108) (o := .cells #[.int .i64 t102, .int .i64 t103, u109002] 62 (0, 0)) aq19 hg (Kd.R_ne HO_9.out BK108.out (by decide))); have n8_ := am (blk_grown (g := gb121) (o := .cells #[.int .i64 t116, .int .i64 t117, .slice (some ⟨go45, 0, none⟩) y124.length co45] 62 (0, 0)) aq29 hg (Kd.R_ne HO_9.out BK121.out (by decide))); have n9_ := am ((by rw [hw]; exact below_set (HB.out) GB63.out : Below w.heap.size w w65)); clear HO_8; clear HO_9; clear HO_31; clear HO_59; clear HO_109002; clear HO_122002; clear BK101; clear BK108; clear BK121; clear HB; have HO_8 := n0_; have HO_9 := n1_; have HO_31 := n2_; have HO_59 := n3_; have HO_109002 := n4_; have HO_122002 := n5_; have BK101 := n6_; have BK108 := n7_; have BK121 := n8_; have HB := n9_; clear n0_ n1_ n2_ n3_ n4_ n5_ n6_ n7_ n8_ n9_; clear hg hw hp_))
                      (try simp only [← hl122002_3])
                      go_roundg k3
                      case measure => have := HK1.out; have := HK2.out; have := HK3.out; omega
                      case rel => exact ⟨(y132), (wrap64 (x61_3 + 1)), aq6, H', ⟨by have := HK1.out; have := HK2.out; have := HK3.out; omega⟩, ⟨by (try simp only [hl122002_3]); (with_reducible repeat (first | apply Kd.R_alloc | apply Kd.R_drewN | apply Kd.R_drew)); exact Kd.R_mono HO_8.out (fun _ hk => hk.2)⟩, ⟨aq127⟩, ⟨by (try simp only [hl122002_3]); (with_reducible repeat (first | apply Kd.R_alloc | apply Kd.R_drewN | apply Kd.R_drew)); exact Kd.R_mono HO_31.out (fun _ hk => hk.2)⟩, ⟨by (try simp only [hl122002_3]); (with_reducible repeat (first | apply Kd.R_alloc | apply Kd.R_drewN | apply Kd.R_drew)); exact Kd.R_mono HO_59.out (fun _ hk => hk.2)⟩, ⟨by (try simp only [hl122002_3]); (with_reducible repeat (first | apply Kd.V_alloc | apply Kd.V_drewN | apply Kd.V_drew)); exact Kd.V_mono HO_109002.out (fun _ hk => ⟨hk.1.1, ⟨hk.2, ⟨hk.1.2.1, ⟨hk.1.2.2.1, ⟨hk.1.2.2.2.1, ⟨hk.1.2.2.2.2.1, ⟨hk.1.2.2.2.2.2.1, hk.1.2.2.2.2.2.2⟩⟩⟩⟩⟩⟩⟩)⟩, ⟨aq122⟩, ⟨aq79⟩, ⟨aq78⟩, ⟨aq115⟩, ⟨aq17⟩⟩
                     ·rw [if_neg c62] at H
                      exact absurd H (by simp)
                    ·rw [if_neg c61] at H
                     exact absurd H (by simp)
                   ·rw [if_neg c60] at H
                    have c60b0 : ((rd t109 x61_3) == t130) = false := beq_eq_false_iff_ne.mpr c60
                    have c60b1 : ((rd t109 x61_3) != t130) = true := bne_iff_ne.mpr c60
                    have H' := am H
                    clear H
                    have p131 : 0 ≤ (x61_3 : Int) := of_decide_eq_true aq5
                    have q131 : x61_3 < (t109.length : Int) := of_decide_eq_true aq5
                    obtain ⟨ad131, e131, hx131_0⟩ := Kd.at_int (Kd.R_reads' HO_59.out).2.2 x61_3 p131 q131
                    obtain rfl : ad115 = ad131 := (by injection e131)
                    replace p131 := eq_true p131
                    replace q131 := eq_true q131
                    go_wp2
                    (try simp only [← hl122002_3])
                    go_roundg k3
                    case measure => have := HK1.out; have := HK2.out; have := HK3.out; omega
                    case rel => exact ⟨(x9_3), (wrap64 (x61_3 + 1)), aq6, H', ⟨by have := HK1.out; have := HK2.out; have := HK3.out; omega⟩, ⟨aq128⟩, ⟨aq127⟩, ⟨aq125⟩, ⟨by (try simp only [hl122002_3]); (with_reducible repeat (first | apply Kd.R_alloc | apply Kd.R_drewN | apply Kd.R_drew)); exact HO_59.out⟩, ⟨by (try simp only [hl122002_3]); (with_reducible repeat (first | apply Kd.V_alloc | apply Kd.V_drewN | apply Kd.V_drew)); exact HO_109002.out⟩, ⟨aq122⟩, ⟨aq79⟩, ⟨aq78⟩, ⟨aq115⟩, ⟨aq17⟩⟩
                  ·rw [if_neg c59] at H
                   exact absurd H (by simp)
                 ·rw [if_neg c58] at H
                  exact absurd H (by simp)
                ·rw [if_neg c57] at H
                 have c57b0 : decide (x61_3 < (t109.length : Int)) = false := decide_eq_false c57
                 clear c57
                 have H' := am H
                 clear H
                 go_wp2
                 (try simp only [← hl122002_3])
                 go_roundg k3
                 case measure => have := HK1.out; have := HK2.out; have := HK3.out; omega
                 case rel => exact ⟨(x9_3), (wrap64 (x33_1 + 1)), (x109002_2), (u109002), aq6, H', ⟨by have := HK1.out; have := HK2.out; have := HK3.out; omega⟩, ⟨aq128⟩, ⟨by (try simp only [hl122002_3]); (with_reducible repeat (first | apply Kd.R_alloc | apply Kd.R_drewN | apply Kd.R_drew)); exact Kd.R_mono HO_9.out (fun _ hk => ⟨hk.1, hk.2.1⟩)⟩, ⟨aq125⟩, ⟨by (try simp only [hl122002_3]); (with_reducible repeat (first | apply Kd.V_alloc | apply Kd.V_drewN | apply Kd.V_drew)); exact Kd.V_mono HO_109002.out (fun _ hk => ⟨hk.1, ⟨hk.2.1, ⟨hk.2.2.1, ⟨hk.2.2.2.2.2.1, hk.2.2.2.2.2.2.1⟩⟩⟩⟩)⟩, ⟨aq79⟩, ⟨aq78⟩, ⟨aq17⟩⟩
             ·rw [if_neg c44] at H
              exact absurd H (by simp)
            ·rw [if_neg c43] at H
             exact absurd H (by simp)
        ·rw [if_neg c22] at H
         exact absurd H (by simp)
       ·rw [if_neg c21] at H
        exact absurd H (by simp)
      ·rw [if_neg c20] at H
       have c20b0 : decide (x33_1 < (t109.length : Int)) = false := decide_eq_false c20
       clear c20
       simp only [Option.some.injEq, Prod.mk.injEq] at H
       obtain ⟨rfl, rfl⟩ := H
       go_wp2
       go_ret2
       exact ⟨_, aq7, by (with_reducible repeat (first | apply Kd.R_alloc | apply Kd.R_drewN | apply Kd.R_drew)); exact Kd.R_mono HO_9.out (fun _ hk => trivial), aq10⟩
   ·rw [if_neg c7] at H
    exact absurd H (by simp)
  ·rw [if_neg c6] at H
   exact absurd H (by simp)
 ·replace c4 := Bool.eq_false_iff.mpr c4
  subst c4
  have H1 : (some (([] : List Int), false)) = some (r1, r2) := by rw [if_neg (show ¬ (false = true) by decide)] at H; exact H
  clear H
  have H := H1
  clear H1
  simp only [Option.some.injEq, Prod.mk.injEq] at H
  obtain ⟨rfl, rfl⟩ := H
  go_enter Tryz.func118, Tryz.ntmps118
  go_wp2_with (first | ((with_reducible refine gate_dst (N := 2) rfl ?_); refine box_event ?hg (N := 2) ?hd (cs := #[.int .i64 a0_0, .int .i64 a0_1, .slice A0_2 l0_2.length c0_2]) (t := 62) ?hr ?_; (case hd => rfl); (case hg => rfl); (case hr => exact aq15); intro gb101 hg w66 hbox hb; have n0_ := am (below_step aq1 hb); have n1_ := am (hbox); have n2_ := am ((by rw [hg]; exact (below_size aq1) : w.heap.size ≤ gb101)); have n3_ := am ((by rw [hg]; exact (below_size aq1) : w.heap.size ≤ gb101)); clear HB; have HB := n0_; have BK101 := n1_; have GW101 := n2_; have GE101 := n3_; clear n0_ n1_ n2_ n3_; clear hb hbox hg; have hcz67_0 : w66.cell? ⟨gb101, 0, none⟩ = some (.int .i64 a0_0) := (blk_cell BK101.out 0).trans rfl; have hcz67_1 : w66.cell? ⟨gb101, 1, none⟩ = some (.int .i64 a0_1) := (blk_cell BK101.out 1).trans rfl; have hcz67_2 : w66.cell? ⟨gb101, 2, none⟩ = some (.slice A0_2 l0_2.length c0_2) := (blk_cell BK101.out 2).trans rfl; have hfz67_0 := blk_frozen BK101.out 0; have hfz67_1 := blk_frozen BK101.out 1; have hfz67_2 := blk_frozen BK101.out 2) | ((with_reducible refine gate_callee (f := 54) rfl ?_); refine goesL_ (some 21) rfl rfl Tryz.func54 (by kernel_rfl) rfl #[.agg #[.int .i64 a0_0, .int .i64 a0_1, .slice A0_2 l0_2.length c0_2], .string a1] rfl aq4 ?_; (with_reducible refine (spec_mcBack.calls k a0_0 a0_1 (fun k_ => k_ < w.heap.size) _ _ l0_2 a1 t102 t103 t104 false _ ?side1 A3.out).mono ?_); (case side1 => exact Kd.V_mk HC0_2.out (Kd.F_below (Kd.C_F (Kd.heap_int .u8) HR0_2.out) aq0)); rintro e w68 ⟨v105, rfl, ho0, hb⟩; refine ⟨_, rfl, ?_⟩; have n0_ := am (Kd.V_lower (Kd.V_mono (ok' := fun k_ => k_ ≠ gb101) ho0 (fun k_ hk_ => Or.elim hk_ (fun hs_ => fun e_ => Nat.not_le.2 hs_ (by rw [e_]; exact GW101.out)) (fun hn_ => (Kd.freshB (g := gb101) (o := .cells #[.int .i64 a0_0, .int .i64 a0_1, .slice A0_2 l0_2.length c0_2] 62 (0, 0)) aq2 k_ hn_)))) (below_size aq0)); have n1_ := am (blk_below (g := gb101) (o := .cells #[.int .i64 a0_0, .int .i64 a0_1, .slice A0_2 l0_2.length c0_2] 62 (0, 0)) aq2 hb); have n2_ := am (below_step aq0 hb); clear BK101; clear HB; have HO106 := n0_; have BK101 := n1_; have HB := n2_; clear n0_ n1_ n2_; (try clear hb); (try clear hb2); (try clear hk); (try clear hi); (try clear ho0)) | ((with_reducible refine gate_dst (N := 6) rfl ?_); refine box_event ?hg (N := 6) ?hd (cs := #[.int .i64 0, .int .i64 0, .slice none 0 0]) (t := 62) ?hr ?_; (case hd => rfl); (case hg => rfl); (case hr => exact aq15); intro gb108 hg w69 hbox hb; have n0_ := am (Kd.V_below (Kd.V_elderB aq89 gb108 (Nat.le_of_eq hg.symm)) hb); have n1_ := am (blk_below (g := gb101) (o := .cells #[.int .i64 a0_0, .int .i64 a0_1, .slice A0_2 l0_2.length c0_2] 62 (0, 0)) aq2 hb); have n2_ := am (below_step aq0 hb); have n3_ := am (hbox); have n4_ := am ((by rw [hg]; exact (below_size aq0) : w.heap.size ≤ gb108)); have n5_ := am ((by rw [hg]; exact (below_size aq0) : w.heap.size ≤ gb108)); have n6_ := am ((by rw [hg]; exact Nat.ne_of_lt (blk_lt (g := gb101) (o := .cells #[.int .i64 a0_0, .int .i64 a0_1, .slice A0_2 l0_2.length c0_2] 62 (0, 0)) aq2) : gb101 ≠ gb108)); have n7_ := am ((by rw [hg]; exact Nat.ne_of_gt (blk_lt (g := gb101) (o := .cells #[.int .i64 a0_0, .int .i64 a0_1, .slice A0_2 l0_2.length c0_2] 62 (0, 0)) aq2) : gb108 ≠ gb101)); clear HO106; clear BK101; clear HB; have HO106 := n0_; have BK101 := n1_; have HB := n2_; have BK108 := n3_; have GW108 := n4_; have GE108 := n5_; have NB101_108 := n6_; have NB108_101 := n7_; clear n0_ n1_ n2_ n3_ n4_ n5_ n6_ n7_; clear hb hbox hg; have hnb70 := NB108_101.out; have hnc70 := NB101_108.out; have hcz71_0 : w69.cell? ⟨gb108, 0, none⟩ = some (.int .i64 0) := (blk_cell BK108.out 0).trans rfl; have hcz71_1 : w69.cell? ⟨gb108, 1, none⟩ = some (.int .i64 0) := (blk_cell BK108.out 1).trans rfl; have hcz71_2 : w69.cell? ⟨gb108, 2, none⟩ = some (.slice none 0 0) := (blk_cell BK108.out 2).trans rfl; have hfz71_0 := blk_frozen BK108.out 0; have hfz71_1 := blk_frozen BK108.out 1; have hfz71_2 := blk_frozen BK108.out 2; obtain ⟨Ao72, co72, eo72⟩ := Kd.V_slice HO106.out; subst eo72))
  go_ret2
  exact ⟨_, aq7, aq16, aq10⟩
def spec_mcAsked.f (k : Nat) (a0 : ByteArray) (a1 : ByteArray) : Option (List Int × Bool) := (spec_mcRead.f k a0 a1).bind fun bt101 => (if bt101.2.2.2 = true then ((spec_mcPermutation.f k bt101.1 bt101.2.1 bt101.2.2.1 a1).bind fun bt108 => (some (bt108.1, bt108.2))) else (some (([] : List Int), false)))
theorem spec_mcAsked.mono : ∀ a0 a1 k, LeO (spec_mcAsked.f k a0 a1) (spec_mcAsked.f (k + 1) a0 a1) := by
 intro a0 a1 k
 unfold spec_mcAsked.f
 have im0 := @spec_mcPermutation.mono; have im1 := @spec_mcRead.mono; exact mo
set_option maxHeartbeats 8000000 in
set_option maxRecDepth 100000 in
theorem spec_mcAsked.calls (k : Nat) (a0 : ByteArray) (a1 : ByteArray) (r1 : List Int) (r2 : Bool) (w : World) (h : spec_mcAsked.f k a0 a1 = some (r1, r2)) :
  Calls Tryz.prog 67 #[.string a0, .string a1] w fun e w' => ∃ v0_ : Value, e = .returned (.tuple #[v0_, .bool r2]) ∧ Kd.R (Kd.int .i64) 3 w' w.heap.size (fun _ => True) v0_ r1 ∧ Below w.heap.size w w' := by
 have hu62 := Tryz.underlying62
 have HB := am (Below.refl w.heap.size w)
 have H : ((spec_mcRead.f k a0 a1).bind fun bt101 => (if bt101.2.2.2 = true then ((spec_mcPermutation.f k bt101.1 bt101.2.1 bt101.2.2.1 a1).bind fun bt108 => (some (bt108.1, bt108.2))) else (some (([] : List Int), false)))) = some (r1, r2) := h
 clear h
 replace H := Option.bind_eq_some_iff.mp H
 obtain ⟨⟨t101, t102, t103, t106⟩, A30, H⟩ := H
 replace H : (if t106 = true then ((spec_mcPermutation.f k t101 t102 t103 a1).bind fun bt108 => (some (bt108.1, bt108.2))) else (some (([] : List Int), false))) = some (r1, r2) := H
 have A3 := am A30
 clear A30
 by_cases c4 : t106 = true
 ·subst c4
  have H1 : ((spec_mcPermutation.f k t101 t102 t103 a1).bind fun bt108 => (some (bt108.1, bt108.2))) = some (r1, r2) := by rw [if_pos rfl] at H; exact H
  clear H
  have H := H1
  clear H1
  replace H := Option.bind_eq_some_iff.mp H
  obtain ⟨⟨t108, t111⟩, A50, H⟩ := H
  replace H : (some (t108, t111)) = some (r1, r2) := H
  have A5 := am A50
  clear A50
  simp only [Option.some.injEq, Prod.mk.injEq] at H
  obtain ⟨rfl, rfl⟩ := H
  go_enter Tryz.func67, Tryz.ntmps67
  go_wp2_with (first | ((with_reducible refine gate_callee (f := 112) rfl ?_); refine goesL_ (some 11) rfl rfl Tryz.func112 (by kernel_rfl) rfl #[.string a0, .string a1] rfl aq4 ?_; (with_reducible refine (spec_mcRead.calls k a0 a1 t101 t102 t103 true _ A3.out).mono ?_); rintro e w6 ⟨v104, rfl, ho0, hb⟩; refine ⟨_, rfl, ?_⟩; have n0_ := am (Kd.R_lower ho0 (below_size aq1)); have n1_ := am (below_step aq1 hb); clear HB; have HO105 := n0_; have HB := n1_; clear n0_ n1_; (try clear hb); (try clear hb2); (try clear hk); (try clear hi); (try clear ho0)) | ((with_reducible refine gate_dst (N := 6) rfl ?_); refine box_event ?hg (N := 6) ?hd (cs := #[.int .i64 0, .int .i64 0, .slice none 0 0]) (t := 62) ?hr ?_; (case hd => rfl); (case hg => rfl); (case hr => exact aq15); intro gb107 hg w7 hbox hb; have n0_ := am (Kd.R_below aq74 hb); have n1_ := am (below_step aq1 hb); have n2_ := am (hbox); have n3_ := am ((by rw [hg]; exact (below_size aq1) : w.heap.size ≤ gb107)); have n4_ := am ((by rw [hg]; exact (below_size aq1) : w.heap.size ≤ gb107)); clear HO105; clear HB; have HO105 := n0_; have HB := n1_; have BK107 := n2_; have GW107 := n3_; have GE107 := n4_; clear n0_ n1_ n2_ n3_ n4_; clear hb hbox hg; have hcz8_0 : w7.cell? ⟨gb107, 0, none⟩ = some (.int .i64 0) := (blk_cell BK107.out 0).trans rfl; have hcz8_1 : w7.cell? ⟨gb107, 1, none⟩ = some (.int .i64 0) := (blk_cell BK107.out 1).trans rfl; have hcz8_2 : w7.cell? ⟨gb107, 2, none⟩ = some (.slice none 0 0) := (blk_cell BK107.out 2).trans rfl; have hfz8_0 := blk_frozen BK107.out 0; have hfz8_1 := blk_frozen BK107.out 1; have hfz8_2 := blk_frozen BK107.out 2; obtain ⟨Ao9, co9, eo9⟩ := Kd.R_slice HO105.out; subst eo9) | ((with_reducible refine gate_callee (f := 118) rfl ?_); refine goesL_ (some 18) rfl rfl Tryz.func118 (by kernel_rfl) rfl #[.agg #[.int .i64 t101, .int .i64 t102, .slice Ao9 t103.length co9], .string a1] rfl aq4 ?_; (with_reducible refine (spec_mcPermutation.calls k t101 t102 _ _ t103 a1 t108 t111 _ ?side1 ?side2 A5.out).mono ?_); (case side1 => refine (Kd.R_reads' (e := 5) (base := w.heap.size) (ok := fun k_ => True) (n := t103.length) (c := co9) ?_).2.2; exact aq66); (case side2 => exact (Kd.R_reads' HO105.out).2.1); rintro e w10 ⟨v109, rfl, ho0, hb⟩; refine ⟨_, rfl, ?_⟩; have n0_ := am (Kd.R_below aq66 hb); have n1_ := am (Kd.R_lower ho0 (below_size aq52)); have n2_ := am (blk_below (g := gb107) (o := .cells #[.int .i64 t101, .int .i64 t102, .slice Ao9 t103.length co9] 62 (0, 0)) (by (with_reducible repeat (first | refine blk_drewN ?_ _ | refine blk_drew ?_ | refine blk_alloc ?_ _)); refine blk_put (cs := #[.int .i64 t101, .int .i64 t102, .slice none 0 0]) ?_ 2 _ rfl; (with_reducible repeat (first | refine blk_drewN ?_ _ | refine blk_drew ?_ | refine blk_alloc ?_ _)); refine blk_put (cs := #[.int .i64 t101, .int .i64 0, .slice none 0 0]) ?_ 1 _ rfl; (with_reducible repeat (first | refine blk_drewN ?_ _ | refine blk_drew ?_ | refine blk_alloc ?_ _)); refine blk_put (cs := #[.int .i64 0, .int .i64 0, .slice none 0 0]) ?_ 0 _ rfl; (with_reducible repeat (first | refine blk_drewN ?_ _ | refine blk_drew ?_ | refine blk_alloc ?_ _)); exact BK107.out) hb); have n3_ := am (below_step aq52 hb); clear HO105; clear BK107; clear HB; have HO105 := n0_; have HO110 := n1_; have BK107 := n2_; have HB := n3_; clear n0_ n1_ n2_ n3_; (try clear hb); (try clear hb2); (try clear hk); (try clear hi); (try clear ho0)))
  go_ret2
  exact ⟨_, aq7, aq42, aq52⟩
 ·replace c4 := Bool.eq_false_iff.mpr c4
  subst c4
  have H1 : (some (([] : List Int), false)) = some (r1, r2) := by rw [if_neg (show ¬ (false = true) by decide)] at H; exact H
  clear H
  have H := H1
  clear H1
  simp only [Option.some.injEq, Prod.mk.injEq] at H
  obtain ⟨rfl, rfl⟩ := H
  go_enter Tryz.func67, Tryz.ntmps67
  go_wp2_with (first | ((with_reducible refine gate_callee (f := 112) rfl ?_); refine goesL_ (some 11) rfl rfl Tryz.func112 (by kernel_rfl) rfl #[.string a0, .string a1] rfl aq4 ?_; (with_reducible refine (spec_mcRead.calls k a0 a1 t101 t102 t103 false _ A3.out).mono ?_); rintro e w11 ⟨v104, rfl, ho0, hb⟩; refine ⟨_, rfl, ?_⟩; have n0_ := am (Kd.R_lower ho0 (below_size aq1)); have n1_ := am (below_step aq1 hb); clear HB; have HO105 := n0_; have HB := n1_; clear n0_ n1_; (try clear hb); (try clear hb2); (try clear hk); (try clear hi); (try clear ho0)) | ((with_reducible refine gate_dst (N := 6) rfl ?_); refine box_event ?hg (N := 6) ?hd (cs := #[.int .i64 0, .int .i64 0, .slice none 0 0]) (t := 62) ?hr ?_; (case hd => rfl); (case hg => rfl); (case hr => exact aq15); intro gb107 hg w12 hbox hb; have n0_ := am (Kd.R_below aq74 hb); have n1_ := am (below_step aq1 hb); have n2_ := am (hbox); have n3_ := am ((by rw [hg]; exact (below_size aq1) : w.heap.size ≤ gb107)); have n4_ := am ((by rw [hg]; exact (below_size aq1) : w.heap.size ≤ gb107)); clear HO105; clear HB; have HO105 := n0_; have HB := n1_; have BK107 := n2_; have GW107 := n3_; have GE107 := n4_; clear n0_ n1_ n2_ n3_ n4_; clear hb hbox hg; have hcz13_0 : w12.cell? ⟨gb107, 0, none⟩ = some (.int .i64 0) := (blk_cell BK107.out 0).trans rfl; have hcz13_1 : w12.cell? ⟨gb107, 1, none⟩ = some (.int .i64 0) := (blk_cell BK107.out 1).trans rfl; have hcz13_2 : w12.cell? ⟨gb107, 2, none⟩ = some (.slice none 0 0) := (blk_cell BK107.out 2).trans rfl; have hfz13_0 := blk_frozen BK107.out 0; have hfz13_1 := blk_frozen BK107.out 1; have hfz13_2 := blk_frozen BK107.out 2; obtain ⟨Ao14, co14, eo14⟩ := Kd.R_slice HO105.out; subst eo14))
  go_ret2
  exact ⟨_, aq7, aq16, aq52⟩
def impl_isRun.f (k : Nat) (a0 : ByteArray) (a1 : ByteArray) : Option (Bool) := (impl_IsTray.f k a0).bind fun t101 => (if t101 = true then ((impl_IsWord.f a1).bind fun t102 => (some t102)) else (some false))
theorem impl_isRun.mono : ∀ a0 a1 k, LeO (impl_isRun.f k a0 a1) (impl_isRun.f (k + 1) a0 a1) := by
 intro a0 a1 k
 unfold impl_isRun.f
 have im0 := @impl_IsTray.mono; exact mo
set_option maxHeartbeats 8000000 in
set_option maxRecDepth 100000 in
theorem impl_isRun.calls (k : Nat) (a0 : ByteArray) (a1 : ByteArray) (r : Bool) (w : World) (h : impl_isRun.f k a0 a1 = some r) :
  Calls Tryz.prog 119 #[.string a0, .string a1] w fun e w' => e = .returned (.bool r) ∧ Below w.heap.size w w' := by
 have HB := am (Below.refl w.heap.size w)
 have H : ((impl_IsTray.f k a0).bind fun t101 => (if t101 = true then ((impl_IsWord.f a1).bind fun t102 => (some t102)) else (some false))) = some r := h
 clear h
 replace H := Option.bind_eq_some_iff.mp H
 obtain ⟨t101, A30, H⟩ := H
 replace H : (if t101 = true then ((impl_IsWord.f a1).bind fun t102 => (some t102)) else (some false)) = some r := H
 have A3 := am A30
 clear A30
 by_cases c4 : t101 = true
 ·subst c4
  have H1 : ((impl_IsWord.f a1).bind fun t102 => (some t102)) = some r := by rw [if_pos rfl] at H; exact H
  clear H
  have H := H1
  clear H1
  replace H := Option.bind_eq_some_iff.mp H
  obtain ⟨t102, A50, H⟩ := H
  replace H : (some t102) = some r := H
  have A5 := am A50
  clear A50
  obtain rfl := Option.some.inj H
  go_enter Tryz.func119, Tryz.ntmps119
  go_wp2_with (first | ((with_reducible refine gate_callee (f := 55) rfl ?_); refine goesL_ (some 6) rfl rfl Tryz.func55 (by kernel_rfl) rfl #[.string a0] rfl aq4 ?_; (with_reducible refine (impl_IsTray.calls k a0 true _ A3.out).mono ?_); rintro e w6 ⟨rfl, hb⟩; refine ⟨_, rfl, ?_⟩; have n0_ := am (below_step aq1 hb); clear HB; have HB := n0_; clear n0_; (try clear hb); (try clear hb2); (try clear hk); (try clear hi)) | (go_at_call 65; (with_reducible refine (impl_IsWord.calls a1 t102 _ A5.out).mono ?_); rintro e w7 ⟨rfl, hb⟩; have n0_ := am (below_step aq1 hb); clear HB; have HB := n0_; clear n0_; (try clear hb); (try clear hb2); (try clear hk); (try clear hi)))
  go_ret
  exact ⟨aq7, aq1⟩
 ·replace c4 := Bool.eq_false_iff.mpr c4
  subst c4
  have H1 : (some false) = some r := by rw [if_neg (show ¬ (false = true) by decide)] at H; exact H
  clear H
  have H := H1
  clear H1
  obtain rfl := Option.some.inj H
  go_enter Tryz.func119, Tryz.ntmps119
  go_wp2_with (first | ((with_reducible refine gate_callee (f := 55) rfl ?_); refine goesL_ (some 6) rfl rfl Tryz.func55 (by kernel_rfl) rfl #[.string a0] rfl aq4 ?_; (with_reducible refine (impl_IsTray.calls k a0 false _ A3.out).mono ?_); rintro e w8 ⟨rfl, hb⟩; refine ⟨_, rfl, ?_⟩; have n0_ := am (below_step aq1 hb); clear HB; have HB := n0_; clear n0_; (try clear hb); (try clear hb2); (try clear hk); (try clear hi)))
  go_ret
  exact ⟨aq7, aq1⟩
def impl_PermutationOf.f (k : Nat) (a0 : ByteArray) (a1 : ByteArray) : Option (List Int × Bool) := (impl_isRun.f k a0 a1).bind fun t101 => (if t101 = true then ((impl_comesBack.f k a0 a1).bind fun bt102 => (if bt102.2 = true then (some (bt102.1, true)) else (some (([] : List Int), false)))) else (some (([] : List Int), false)))
theorem impl_PermutationOf.mono : ∀ a0 a1 k, LeO (impl_PermutationOf.f k a0 a1) (impl_PermutationOf.f (k + 1) a0 a1) := by
 intro a0 a1 k
 unfold impl_PermutationOf.f
 have im0 := @impl_comesBack.mono; have im1 := @impl_isRun.mono; exact mo
set_option maxHeartbeats 8000000 in
set_option maxRecDepth 100000 in
theorem impl_PermutationOf.calls (k : Nat) (a0 : ByteArray) (a1 : ByteArray) (r1 : List Int) (r2 : Bool) (w : World) (h : impl_PermutationOf.f k a0 a1 = some (r1, r2)) :
  Calls Tryz.prog 75 #[.string a0, .string a1] w fun e w' => ∃ v0_ : Value, e = .returned (.tuple #[v0_, .bool r2]) ∧ Kd.R (Kd.int .i64) 3 w' w.heap.size (fun _ => True) v0_ r1 ∧ Below w.heap.size w w' := by
 have HB := am (Below.refl w.heap.size w)
 have H : ((impl_isRun.f k a0 a1).bind fun t101 => (if t101 = true then ((impl_comesBack.f k a0 a1).bind fun bt102 => (if bt102.2 = true then (some (bt102.1, true)) else (some (([] : List Int), false)))) else (some (([] : List Int), false)))) = some (r1, r2) := h
 clear h
 replace H := Option.bind_eq_some_iff.mp H
 obtain ⟨t101, A30, H⟩ := H
 replace H : (if t101 = true then ((impl_comesBack.f k a0 a1).bind fun bt102 => (if bt102.2 = true then (some (bt102.1, true)) else (some (([] : List Int), false)))) else (some (([] : List Int), false))) = some (r1, r2) := H
 have A3 := am A30
 clear A30
 by_cases c4 : t101 = true
 ·subst c4
  have H1 : ((impl_comesBack.f k a0 a1).bind fun bt102 => (if bt102.2 = true then (some (bt102.1, true)) else (some (([] : List Int), false)))) = some (r1, r2) := by rw [if_pos rfl] at H; exact H
  clear H
  have H := H1
  clear H1
  replace H := Option.bind_eq_some_iff.mp H
  obtain ⟨⟨t102, t103⟩, A50, H⟩ := H
  replace H : (if t103 = true then (some (t102, true)) else (some (([] : List Int), false))) = some (r1, r2) := H
  have A5 := am A50
  clear A50
  by_cases c6 : t103 = true
  ·subst c6
   have H1 : (some (t102, true)) = some (r1, r2) := by rw [if_pos rfl] at H; exact H
   clear H
   have H := H1
   clear H1
   simp only [Option.some.injEq, Prod.mk.injEq] at H
   obtain ⟨rfl, rfl⟩ := H
   go_enter Tryz.func75, Tryz.ntmps75
   go_wp2_with (first | ((with_reducible refine gate_callee (f := 119) rfl ?_); refine goesL_ (some 10) rfl rfl Tryz.func119 (by kernel_rfl) rfl #[.string a0, .string a1] rfl aq4 ?_; (with_reducible refine (impl_isRun.calls k a0 a1 true _ A3.out).mono ?_); rintro e w7 ⟨rfl, hb⟩; refine ⟨_, rfl, ?_⟩; have n0_ := am (below_step aq1 hb); clear HB; have HB := n0_; clear n0_; (try clear hb); (try clear hb2); (try clear hk); (try clear hi)) | ((with_reducible refine gate_callee (f := 60) rfl ?_); refine goesL_ (some 15) rfl rfl Tryz.func60 (by kernel_rfl) rfl #[.string a0, .string a1] rfl aq4 ?_; (with_reducible refine (impl_comesBack.calls k a0 a1 t102 true _ A5.out).mono ?_); rintro e w8 ⟨v104, rfl, ho0, hb⟩; refine ⟨_, rfl, ?_⟩; have n0_ := am (Kd.R_lower ho0 (below_size aq1)); have n1_ := am (below_step aq1 hb); clear HB; have HO105 := n0_; have HB := n1_; clear n0_ n1_; (try clear hb); (try clear hb2); (try clear hk); (try clear hi); (try clear ho0)))
   go_ret2
   exact ⟨_, aq7, aq74, aq1⟩
  ·replace c6 := Bool.eq_false_iff.mpr c6
   subst c6
   have H1 : (some (([] : List Int), false)) = some (r1, r2) := by rw [if_neg (show ¬ (false = true) by decide)] at H; exact H
   clear H
   have H := H1
   clear H1
   simp only [Option.some.injEq, Prod.mk.injEq] at H
   obtain ⟨rfl, rfl⟩ := H
   go_enter Tryz.func75, Tryz.ntmps75
   go_wp2_with (first | ((with_reducible refine gate_callee (f := 119) rfl ?_); refine goesL_ (some 10) rfl rfl Tryz.func119 (by kernel_rfl) rfl #[.string a0, .string a1] rfl aq4 ?_; (with_reducible refine (impl_isRun.calls k a0 a1 true _ A3.out).mono ?_); rintro e w9 ⟨rfl, hb⟩; refine ⟨_, rfl, ?_⟩; have n0_ := am (below_step aq1 hb); clear HB; have HB := n0_; clear n0_; (try clear hb); (try clear hb2); (try clear hk); (try clear hi)) | ((with_reducible refine gate_callee (f := 60) rfl ?_); refine goesL_ (some 15) rfl rfl Tryz.func60 (by kernel_rfl) rfl #[.string a0, .string a1] rfl aq4 ?_; (with_reducible refine (impl_comesBack.calls k a0 a1 t102 false _ A5.out).mono ?_); rintro e w10 ⟨v104, rfl, ho0, hb⟩; refine ⟨_, rfl, ?_⟩; have n0_ := am (Kd.R_lower ho0 (below_size aq1)); have n1_ := am (below_step aq1 hb); clear HB; have HO105 := n0_; have HB := n1_; clear n0_ n1_; (try clear hb); (try clear hb2); (try clear hk); (try clear hi); (try clear ho0)))
   go_ret2
   exact ⟨_, aq7, aq16, aq1⟩
 ·replace c4 := Bool.eq_false_iff.mpr c4
  subst c4
  have H1 : (some (([] : List Int), false)) = some (r1, r2) := by rw [if_neg (show ¬ (false = true) by decide)] at H; exact H
  clear H
  have H := H1
  clear H1
  simp only [Option.some.injEq, Prod.mk.injEq] at H
  obtain ⟨rfl, rfl⟩ := H
  go_enter Tryz.func75, Tryz.ntmps75
  go_wp2_with (first | ((with_reducible refine gate_callee (f := 119) rfl ?_); refine goesL_ (some 10) rfl rfl Tryz.func119 (by kernel_rfl) rfl #[.string a0, .string a1] rfl aq4 ?_; (with_reducible refine (impl_isRun.calls k a0 a1 false _ A3.out).mono ?_); rintro e w11 ⟨rfl, hb⟩; refine ⟨_, rfl, ?_⟩; have n0_ := am (below_step aq1 hb); clear HB; have HB := n0_; clear n0_; (try clear hb); (try clear hb2); (try clear hk); (try clear hi)))
  go_ret2
  exact ⟨_, aq7, aq16, aq1⟩
end Go.Proofs.YtdffgeoegdkiaaaGreatDoor.F

namespace Go.Proofs.YtdffgeoegdkiaaaGreatDoor.F
open Go.RowKit Go.Proofs.YtdffgeoegdkiaaaGreatDoor Go.Proofs.YtdffgeoegdkiaaaGreatDoorW.PrintWords Go.Proofs.YtdffgeoegdkiaaaGreatDoorW.PrintMore
theorem tyBallsZ_l0 {cs : List Int} (hl : cs.length ≤ 1000) : ∀ (d i : Nat), i + d = cs.length → Ev (fun k => spec_tyBalls.l0 k (castsI (idxTo isBallC cs i)) cs (cs.length : Int) i) (castsI (idxs isBallC cs))
  | 0, i, hi => by
    obtain rfl : i = cs.length := by omega
    refine Ev.step (f := fun _ => some (castsI (idxs isBallC cs))) (fun k => ?_) (Ev.now _)
    rw [spec_tyBalls.l0, if_neg (by omega), idxTo_all]
  | d + 1, i, hi => by
    have ih := tyBallsZ_l0 hl d (i + 1) (by omega)
    have hlen : (castsI (idxTo isBallC cs i)).length < 17592186044416 := by rw [castsI_length]; have := idxTo_lenZ isBallC cs i; omega
    have HW : Aside0 (wrap64 ((i : Int) + 1) = ((i + 1 : Nat) : Int)) := ⟨by rw [w64 (by omega) (by omega)]; rfl⟩
    refine Ev.step (fun k => ?_) ih
    rw [spec_tyBalls.l0, if_pos (by omega), if_pos (by omega), if_pos (by omega), rdN, spec_tyBall_is, Option.bind_some, if_pos hlen, HW.out, idxTo_succZ]
    exact ite_argZ _ (fun l => spec_tyBalls.l0 k l cs (cs.length : Int) ((i + 1 : Nat) : Int)) _ _
theorem tyBallsZ_ev (a b : Int) {cs : List Int} (hl : cs.length ≤ 1000) : Ev (fun k => spec_tyBalls.f k a b cs) (castsI (idxs isBallC cs)) := tyBallsZ_l0 hl cs.length 0 (by omega)
theorem mcBack_l0 {cs ds : List Int} (hl : cs.length ≤ 1000) (hd : ds.length = cs.length) (W H : Int) : ∀ (n i : Nat), i + n = cs.length →
    Ev (fun k => spec_mcBack.l0 k cs (cs.length : Int) (i : Int) W H ds) (W, H, ds, decide (∀ j, j < cs.length → i ≤ j → ballAt cs j = ballAt ds j))
  | 0, i, hi => by
    rw [decide_eq_true (show ∀ j, j < cs.length → i ≤ j → ballAt cs j = ballAt ds j from fun j h1 h2 => by omega)]
    exact Ev.step (f := fun _ => some (W, H, ds, true)) (fun k => by rw [spec_mcBack.l0, if_neg (by omega)]) (Ev.now _)
  | n + 1, i, hi => by
    have HW : Aside0 (wrap64 ((i : Int) + 1) = ((i + 1 : Nat) : Int)) := ⟨by rw [w64 (by omega) (by omega)]; rfl⟩
    have b1 : spec_tyBall.f (rd cs (i : Int)) = some (ballAt cs i) := by rw [spec_tyBall_is, rdN]; rfl
    have b2 : spec_tyBall.f (rd ds (i : Int)) = some (ballAt ds i) := by rw [spec_tyBall_is, rdN]; rfl
    by_cases he : ballAt cs i = ballAt ds i
    · have ih := mcBack_l0 hl hd W H n (i + 1) (by omega)
      have e : decide (∀ j, j < cs.length → i ≤ j → ballAt cs j = ballAt ds j) = decide (∀ j, j < cs.length → i + 1 ≤ j → ballAt cs j = ballAt ds j) := by
        rw [decide_eq_decide]
        refine ⟨fun q j h1 h2 => q j h1 (by omega), fun q j h1 h2 => ?_⟩
        by_cases ej : j = i
        · subst ej; exact he
        · exact q j h1 (by omega)
      rw [e]
      refine Ev.step (fun k => ?_) ih
      rw [spec_mcBack.l0, if_pos (by omega), if_pos (by omega), if_pos (by omega), b1, Option.bind_some, if_pos (by omega), b2, Option.bind_some, he, bne_self_eq_false, if_neg Bool.false_ne_true, HW.out]
    · rw [decide_eq_false (show ¬ ∀ j, j < cs.length → i ≤ j → ballAt cs j = ballAt ds j from fun q => he (q i (by omega) (Nat.le_refl _)))]
      refine Ev.step (f := fun _ => some (W, H, ds, false)) (fun k => ?_) (Ev.now _)
      rw [spec_mcBack.l0, if_pos (by omega), if_pos (by omega), if_pos (by omega), b1, Option.bind_some, if_pos (by omega), b2, Option.bind_some, if_pos (bne_iff_ne.2 he)]
def setO (cs : List Int) (l : List Nat) : List Int := l.foldl (fun a i => a.set i 111) cs
theorem setO_snoc (cs : List Int) (l : List Nat) (i : Nat) : setO cs (l ++ [i]) = (setO cs l).set i 111 := by unfold setO; rw [List.foldl_append]; rfl
theorem setO_length : ∀ (l : List Nat) (cs : List Int), (setO cs l).length = cs.length
  | [], cs => rfl
  | a :: l, cs => by
    show (setO (cs.set a 111) l).length = _
    rw [setO_length l, List.length_set]
theorem setO_get (x : Nat) : ∀ (l : List Nat) (cs : List Int), x < cs.length → (setO cs l).getD x 0 = if x ∈ l then 111 else cs.getD x 0
  | [], cs, hx => by rw [if_neg (by simp)]; rfl
  | a :: l, cs, hx => by
    show (setO (cs.set a 111) l).getD x 0 = _
    rw [setO_get x l (cs.set a 111) (by rw [List.length_set]; exact hx), getD_set]
    by_cases h1 : x ∈ l
    · rw [if_pos h1, if_pos (List.mem_cons_of_mem _ h1)]
    · rw [if_neg h1]
      by_cases h2 : a = x
      · subst h2; rw [if_pos ⟨rfl, hx⟩, if_pos List.mem_cons_self]
      · rw [if_neg (fun q => h2 q.1), if_neg (fun q => (List.mem_cons.1 q).elim (fun e => h2 e.symm) h1)]
theorem setO_all (cs : List Int) : setO cs (idxs isBallC cs) = cs.map fun c => if isBallC c = true then 111 else c := by
  refine List.ext_getElem (by rw [setO_length, List.length_map]) fun x h1 h2 => ?_
  have hx : x < cs.length := by rwa [setO_length] at h1
  have e := setO_get x (idxs isBallC cs) cs hx
  rw [getD_at h1] at e
  rw [e, List.getElem_map, getD_at hx]
  have hm : x ∈ idxs isBallC cs ↔ isBallC cs[x] = true := by rw [mem_idxs, getD_at hx]; exact ⟨fun q => q.2, fun q => ⟨hx, q⟩⟩
  by_cases hb : isBallC cs[x] = true
  · rw [if_pos (hm.2 hb), if_pos hb]
  · rw [if_neg (fun q => hb (hm.1 q)), if_neg hb]
theorem oneD_eq (cs : List Int) (i : Nat) : (setO cs (idxs isBallC cs)).set i 97 = oneD cs i := by rw [setO_all]; rfl
def setP (out : List Int) (k p : Nat) (bl : List Nat) (n : Nat) : List Int := if p ∈ bl.take n then out.set k ((bl.findIdx (· == p) : Nat) : Int) else out
theorem setP_length (out : List Int) (k p : Nat) (bl : List Nat) (n : Nat) : (setP out k p bl n).length = out.length := by unfold setP; split <;> simp
theorem setP_step {out : List Int} {k p : Nat} {bl : List Nat} (hn : bl.Nodup) {n : Nat} (h : n < bl.length) : (if bl[n]'h = p then (setP out k p bl n).set k ((n : Nat) : Int) else setP out k p bl n) = setP out k p bl (n + 1) := by
  unfold setP
  rw [List.take_succ_eq_append_getElem h]
  by_cases he : bl[n]'h = p
  · have hno : p ∉ bl.take n := fun q => by
      obtain ⟨j, hj, e⟩ := List.getElem_of_mem q
      rw [List.length_take] at hj
      rw [List.getElem_take] at e
      have := (List.getElem_inj hn).1 (e.trans he.symm)
      omega
    have hf : bl.findIdx (· == p) = n := by
      rw [List.findIdx_eq h]
      refine ⟨by rw [he]; exact beq_self_eq_true _, fun j hj => ?_⟩
      have : bl[j]'(by omega) ≠ p := fun e => hno (List.mem_iff_getElem.2 ⟨j, by rw [List.length_take]; omega, by rw [List.getElem_take]; exact e⟩)
      simpa using this
    rw [if_pos he, if_neg hno, if_pos (by rw [he]; simp), hf]
  · rw [if_neg he]
    by_cases hm : p ∈ bl.take n
    · rw [if_pos hm, if_pos (List.mem_append_left _ hm)]
    · rw [if_neg hm, if_neg (fun q => (List.mem_append.1 q).elim hm fun q => he (List.mem_singleton.1 q).symm)]
section
variable {w h : Nat} (hw : 1 ≤ w ∧ w ≤ 7) (hh : 1 ≤ h ∧ h ≤ 7) {cs : List Int} (hl : cs.length = w * h) {wd : ByteArray} (hs : isWordB (bytesOf wd) = true)
theorem perm_l2 {bl : List Nat} (hn : bl.Nodup) (hbl : bl.length ≤ 1000) {out : List Int} {k0 p : Nat} (hk : k0 < out.length) {x31 : List Int} {x32 x33 a b : Int} {R : List Int × Bool}
    (hend : Ev (fun k => spec_mcPermutation.l0 k wd (castsI bl) (setP out k0 p bl bl.length) x31 x32 (wrap64 (x33 + 1)) a b cs) R) : ∀ (d n : Nat), n + d = bl.length →
    Ev (fun k => spec_mcPermutation.l2 k wd (castsI bl) (setP out k0 p bl n) (k0 : Int) (p : Int) x31 x32 x33 (castsI bl) (bl.length : Int) (n : Int) a b cs) R
  | 0, n, hi => by
    obtain rfl : n = bl.length := by omega
    exact Ev.step (fun k => by rw [spec_mcPermutation.l2, if_neg (by omega)]) hend
  | d + 1, n, hi => by
    have hil : n < bl.length := by omega
    have HW : Aside0 (wrap64 ((n : Int) + 1) = ((n + 1 : Nat) : Int)) := ⟨by rw [w64 (by omega) (by omega)]; rfl⟩
    have hrd : rd (castsI bl) (n : Int) = ((bl[n]'hil : Nat) : Int) := by rw [rdN, List.getD_eq_getElem?_getD, castsI_getD bl n hil]; rfl
    have ih := perm_l2 hn hbl hk hend d (n + 1) (by omega)
    have hst := setP_step (out := out) (k := k0) (p := p) hn hil
    refine Ev.step (fun k => ?_) ih
    rw [spec_mcPermutation.l2, if_pos (by omega), if_pos (by omega), if_pos (by rw [castsI_length]; omega), hrd, HW.out]
    by_cases he : bl[n]'hil = p
    · rw [if_pos he] at hst
      rw [if_pos (by omega), if_pos (by omega), if_pos (by rw [setP_length]; omega), Int.toNat_natCast, hst]
    · rw [if_neg he] at hst
      rw [if_neg (by omega), hst]
theorem perm_l1 {bl : List Nat} (hbl : bl.length ≤ 1000) (hin : ∀ i ∈ bl, i < cs.length) {x9 x31 : List Int} {x10 x11 x32 x33 a b A B : Int} {R : List Int × Bool}
    (hend : Ev (fun k => spec_mcPermutation.l1 k wd (castsI bl) x9 x10 x11 x31 x32 x33 (castsI bl) (bl.length : Int) (bl.length : Int) a b cs A B (setO cs bl)) R) : ∀ (d n : Nat), n + d = bl.length →
    Ev (fun k => spec_mcPermutation.l1 k wd (castsI bl) x9 x10 x11 x31 x32 x33 (castsI bl) (bl.length : Int) (n : Int) a b cs A B (setO cs (bl.take n))) R
  | 0, n, hi => by
    obtain rfl : n = bl.length := by omega
    rw [List.take_of_length_le (Nat.le_refl _)]
    exact hend
  | d + 1, n, hi => by
    have hil : n < bl.length := by omega
    have HW : Aside0 (wrap64 ((n : Int) + 1) = ((n + 1 : Nat) : Int)) := ⟨by rw [w64 (by omega) (by omega)]; rfl⟩
    have hrd : rd (castsI bl) (n : Int) = ((bl[n]'hil : Nat) : Int) := by rw [rdN, List.getD_eq_getElem?_getD, castsI_getD bl n hil]; rfl
    have hx := hin _ (List.getElem_mem hil)
    have ih := perm_l1 hbl hin hend d (n + 1) (by omega)
    rw [List.take_succ_eq_append_getElem hil, setO_snoc] at ih
    refine Ev.step (fun k => ?_) ih
    rw [spec_mcPermutation.l1, if_pos (by omega), if_pos (by omega), if_pos (by rw [castsI_length]; omega), hrd, if_pos (by omega), if_pos (by rw [setO_length]; omega), Int.toNat_natCast, HW.out]
def mixP (pm : List Nat) (k : Nat) : List Int := castsI (pm.take k) ++ List.replicate (pm.length - k) 0
theorem mixP_length (pm : List Nat) (k : Nat) (h : k ≤ pm.length) : (mixP pm k).length = pm.length := by
  unfold mixP; rw [List.length_append, castsI_length, List.length_take, List.length_replicate]; omega
theorem mixP_set {pm : List Nat} {k : Nat} (h : k < pm.length) : (mixP pm k).set k ((pm[k]'h : Nat) : Int) = mixP pm (k + 1) := by
  have hA : (castsI (pm.take k)).length = k := by rw [castsI_length, List.length_take]; omega
  unfold mixP
  rw [List.set_append_right _ _ (by omega), hA, Nat.sub_self, show pm.length - k = (pm.length - (k + 1)) + 1 by omega, List.replicate_succ, List.set_cons_zero, List.take_succ_eq_append_getElem h, casts_app, List.append_assoc]
  rfl
include hw hh hl hs
theorem perm_l0 (hc : comesD w h cs (wordD wd) = true) : ∀ (d n : Nat), n + d = (idxs isBallC cs).length →
    Ev (fun k => spec_mcPermutation.l0 k wd (castsI (idxs isBallC cs)) (mixP (permD w h cs (wordD wd)) n) (castsI (idxs isBallC cs)) ((idxs isBallC cs).length : Int) (n : Int) w h cs) (castsI (permD w h cs (wordD wd)), true)
  | 0, n, hi => by
    have hpl := permD_length w h cs (wordD wd)
    refine Ev.step (f := fun _ => some (castsI (permD w h cs (wordD wd)), true)) (fun k => ?_) (Ev.now _)
    rw [spec_mcPermutation.l0, if_neg (by omega)]
    unfold mixP
    rw [List.take_of_length_le (by omega), show (permD w h cs (wordD wd)).length - n = 0 by omega, List.replicate_zero, List.append_nil]
  | d + 1, n, hi => by
    have hil : n < (idxs isBallC cs).length := by omega
    have h49 : w * h ≤ 49 := Nat.mul_le_mul hw.2 hh.2
    have hbl : (idxs isBallC cs).length ≤ 49 := by refine Nat.le_trans (List.length_filter_le _ _) ?_; rw [List.length_range]; omega
    have HW : Aside0 (wrap64 ((n : Int) + 1) = ((n + 1 : Nat) : Int)) := ⟨by rw [w64 (by omega) (by omega)]; rfl⟩
    have hrd : rd (castsI (idxs isBallC cs)) (n : Int) = (((idxs isBallC cs)[n]'hil : Nat) : Int) := by rw [rdN, List.getD_eq_getElem?_getD, castsI_getD _ n hil]; rfl
    have hin : ∀ i ∈ idxs isBallC cs, i < cs.length := fun i hi => (mem_idxs.1 hi).1
    have hx := hin _ (List.getElem_mem hil)
    have hpl := permD_length w h cs (wordD wd)
    have hnl : (nowB w h cs (wordD wd)).length = (idxs isBallC cs).length := by unfold nowB; rw [nowD_length]
    have hp := nowB_perm hl (wordD_lt wd)
    have ih := perm_l0 hc d (n + 1) (by omega)
    -- the place
    have hpl1 := one_place (ds := wordD wd) hl (wordD_lt wd) hil
    generalize hpp : (nowB w h cs (wordD wd)).getD n 0 = p at *
    have hpm : p ∈ nowB w h cs (wordD wd) := by rw [← hpp, List.getD_eq_getElem?_getD, List.getElem?_eq_getElem (by omega)]; exact List.getElem_mem _
    have hpi : p ∈ idxs isBallC cs := by have := List.all_eq_true.1 hc p hpm; simpa using this
    have hpn : (permD w h cs (wordD wd))[n]'(by omega) = (idxs isBallC cs).findIdx (· == p) := by
      unfold permD
      rw [List.getElem_map]
      have : (nowB w h cs (wordD wd))[n]'(by omega) = p := by rw [← hpp, List.getD_eq_getElem?_getD, List.getElem?_eq_getElem (by omega)]; rfl
      rw [this]
    have hend2 := perm_l2 (cs := cs) (wd := wd) (bl := idxs isBallC cs) (List.nodup_range.filter _) (by omega) (out := mixP (permD w h cs (wordD wd)) n) (k0 := n) (p := p) (by rw [mixP_length _ _ (by omega)]; omega) (x31 := castsI (idxs isBallC cs)) (x32 := ((idxs isBallC cs).length : Int)) (x33 := (n : Int)) (a := w) (b := h) (R := (castsI (permD w h cs (wordD wd)), true))
      (by
        have e : setP (mixP (permD w h cs (wordD wd)) n) n p (idxs isBallC cs) (idxs isBallC cs).length = mixP (permD w h cs (wordD wd)) (n + 1) := by
          unfold setP
          rw [List.take_of_length_le (Nat.le_refl _), if_pos hpi, ← hpn, mixP_set (by omega)]
        rw [e, HW.out]; exact ih) (idxs isBallC cs).length 0 (by omega)
    have hR := tiRun_ev hw hh hs (cs := oneD cs ((idxs isBallC cs)[n]'hil)) (by rw [oneD_length]; exact hl)
    have hrl : (runD w h (oneD cs ((idxs isBallC cs)[n]'hil)) (wordD wd)).length = cs.length := by rw [runD_length, oneD_length]
    have hplt : p < cs.length := hin p hpi
    have hP := tiPlace_ev (cs := runD w h (oneD cs ((idxs isBallC cs)[n]'hil)) (wordD wd)) (by omega) (w : Int) (h : Int) 97
    have hfa : firstAt (runD w h (oneD cs ((idxs isBallC cs)[n]'hil)) (wordD wd)) 97 = p := hpl1
    rw [hfa, if_pos (by omega)] at hP
    have hsp0 : setP (mixP (permD w h cs (wordD wd)) n) n p (idxs isBallC cs) 0 = mixP (permD w h cs (wordD wd)) n := by unfold setP; rw [List.take_zero, if_neg (by simp)]
    rw [hsp0] at hend2
    have hend1 := perm_l1 (cs := cs) (wd := wd) (bl := idxs isBallC cs) (by omega) hin (x9 := mixP (permD w h cs (wordD wd)) n) (x10 := (n : Int)) (x11 := (((idxs isBallC cs)[n]'hil : Nat) : Int)) (x31 := castsI (idxs isBallC cs)) (x32 := ((idxs isBallC cs).length : Int)) (x33 := (n : Int)) (a := w) (b := h) (A := w) (B := h) (R := (castsI (permD w h cs (wordD wd)), true))
      (Ev.step (f := fun k => (spec_tiRun.f k w h (oneD cs ((idxs isBallC cs)[n]'hil)) wd).bind fun bt125 => (spec_tiPlace.f k bt125.1 bt125.2.1 bt125.2.2 97).bind fun t130 => spec_mcPermutation.l2 k wd (castsI (idxs isBallC cs)) (mixP (permD w h cs (wordD wd)) n) (n : Int) t130 (castsI (idxs isBallC cs)) ((idxs isBallC cs).length : Int) (n : Int) (castsI (idxs isBallC cs)) ((idxs isBallC cs).length : Int) 0 w h cs)
        (fun k => by
          rw [spec_mcPermutation.l1, if_neg (by omega), if_pos (by omega), if_pos (by rw [setO_length]; omega), Int.toNat_natCast, oneD_eq, castsI_length])
        (Ev.bind hR (Ev.bind hP hend2))) (idxs isBallC cs).length 0 (by omega)
    have hcp : spec_tyCopy.f (w : Int) (h : Int) cs = some ((w : Int), (h : Int), cs) := by
      unfold spec_tyCopy.f
      rw [Option.bind_some, if_pos (by rw [List.length_nil]; omega), List.nil_append]
    refine Ev.step (fun k => ?_) hend1
    rw [spec_mcPermutation.l0, if_pos (by omega), if_pos (by omega), if_pos (by rw [castsI_length]; omega), hcp, Option.bind_some, hrd, castsI_length]
    rfl
theorem mcPermutation_ev : Ev (fun k => spec_mcPermutation.f k w h cs wd) (if comesD w h cs (wordD wd) = true then (castsI (permD w h cs (wordD wd)), true) else ([], false)) := by
  have h49 : w * h ≤ 49 := Nat.mul_le_mul hw.2 hh.2
  have hbl : (idxs isBallC cs).length ≤ 49 := by refine Nat.le_trans (List.length_filter_le _ _) ?_; rw [List.length_range]; omega
  have hB := mcBack_l0 (cs := cs) (ds := runD w h cs (wordD wd)) (by omega) (runD_length _ _ _ _) (w : Int) (h : Int) cs.length 0 (by omega)
  have hf : decide (∀ j, j < cs.length → 0 ≤ j → ballAt cs j = ballAt (runD w h cs (wordD wd)) j) = comesD w h cs (wordD wd) := by
    rw [Bool.eq_iff_iff, decide_eq_true_iff, comes_iff hl (wordD_lt wd), hl]
    exact ⟨fun q j hj => q j hj (Nat.zero_le _), fun q j hj _ => q j hj⟩
  rw [hf] at hB
  have hback : Ev (fun k => spec_mcBack.f k w h cs wd) ((w : Int), (h : Int), runD w h cs (wordD wd), comesD w h cs (wordD wd)) := Ev.bind (tiRun_ev hw hh hs hl) hB
  unfold spec_mcPermutation.f
  refine Ev.bind hback ?_
  by_cases hc : comesD w h cs (wordD wd) = true
  · rw [if_pos hc]
    refine Ev.congr (fun k => if_pos hc) (Ev.bind (tyBallsZ_ev (w : Int) (h : Int) (cs := cs) (by omega)) ?_)
    have h0 := perm_l0 hw hh hl hs hc (idxs isBallC cs).length 0 (by omega)
    refine Ev.congr (fun k => ?_) h0
    rw [if_pos (by omega), if_pos (by rw [castsI_length]; omega), castsI_length, Int.toNat_natCast]
    unfold mixP
    rw [List.take_zero, permD_length, Nat.sub_zero]
    rfl
  · rw [if_neg hc]
    exact Ev.congr (fun k => if_neg hc) (Ev.now _)
end
def permA (t wd : ByteArray) : List Nat × Bool := match tyGrid (bytesOf t) with
  | none => ([], false)
  | some g => if isWordB (bytesOf wd) = true ∧ comesD g.1 g.2.1 g.2.2 (wordD wd) = true then (permD g.1 g.2.1 g.2.2 (wordD wd), true) else ([], false)
theorem impl_perm_ev (t wd : ByteArray) (ht : t.size < 4294967281) : Ev (fun k => impl_PermutationOf.f k t wd) (castsI (permA t wd).1, (permA t wd).2) := by
  have hT := impl_IsTray_ev t ht
  unfold permA impl_PermutationOf.f impl_isRun.f
  cases hg : tyGrid (bytesOf t) with
  | none =>
    rw [hg] at hT
    exact Ev.bind (Ev.bind hT (Ev.congr (fun k => if_neg (by simp)) (Ev.now _))) (Ev.congr (fun k => if_neg Bool.false_ne_true) (Ev.now _))
  | some g =>
    rw [hg] at hT
    obtain ⟨w, h, cs⟩ := g
    refine Ev.bind (Ev.bind hT (Ev.congr (fun k => by rw [if_pos (by simp), impl_IsWord_eq, Option.bind_some]) (Ev.now _))) ?_
    simp only
    by_cases hs : isWordB (bytesOf wd) = true
    · refine Ev.congr (fun k => if_pos hs) (Ev.bind (comes_ev hg hs) ?_)
      simp only
      by_cases hc : comesD w h cs (wordD wd) = true
      · rw [if_pos (show isWordB (bytesOf wd) = true ∧ comesD w h cs (wordD wd) = true from ⟨hs, hc⟩)]
        refine Ev.congr (fun k => if_pos hc) ?_
        rw [permZ_good hc]
        exact Ev.now _
      · rw [if_neg (show ¬ (isWordB (bytesOf wd) = true ∧ comesD w h cs (wordD wd) = true) from fun q => hc q.2)]
        exact Ev.congr (fun k => if_neg hc) (Ev.now _)
    · rw [if_neg (show ¬ (isWordB (bytesOf wd) = true ∧ comesD w h cs (wordD wd) = true) from fun q => hs q.1)]
      exact Ev.congr (fun k => if_neg hs) (Ev.now _)
theorem spec_perm_ev (t wd : ByteArray) : Ev (fun k => spec_mcAsked.f k t wd) (castsI (permA t wd).1, (permA t wd).2) := by
  have hT := spec_tyRead_ev t
  unfold permA spec_mcAsked.f spec_mcRead.f
  cases hg : tyGrid (bytesOf t) with
  | none =>
    rw [hg] at hT
    exact Ev.bind (Ev.bind hT (Ev.congr (fun k => if_neg (by simp [ansT])) (Ev.now _))) (Ev.congr (fun k => if_neg Bool.false_ne_true) (Ev.now _))
  | some g =>
    rw [hg] at hT
    obtain ⟨w, h, cs⟩ := g
    obtain ⟨hw, hh, hl, _⟩ := tyGrid_some hg
    refine Ev.bind (Ev.bind hT (Ev.congr (fun k => if_pos rfl) (Ev.bind (spec_tiWord_ev wd) (Ev.now _)))) ?_
    simp only
    by_cases hs : isWordB (bytesOf wd) = true
    · refine Ev.congr (fun k => if_pos hs) (Ev.bind (mcPermutation_ev hw hh hl hs) ?_)
      by_cases hc : comesD w h cs (wordD wd) = true
      · rw [if_pos hc, if_pos (show isWordB (bytesOf wd) = true ∧ comesD w h cs (wordD wd) = true from ⟨hs, hc⟩)]; exact Ev.now _
      · rw [if_neg hc, if_neg (show ¬ (isWordB (bytesOf wd) = true ∧ comesD w h cs (wordD wd) = true) from fun q => hc q.2)]; exact Ev.now _
    · rw [if_neg (show ¬ (isWordB (bytesOf wd) = true ∧ comesD w h cs (wordD wd) = true) from fun q => hs q.1)]
      exact Ev.congr (fun k => if_neg hs) (Ev.now _)
theorem permA_lt (t wd : ByteArray) : (permA t wd).1.length ≤ 49 ∧ ∀ x ∈ (permA t wd).1, x < (permA t wd).1.length := by
  unfold permA
  cases hg : tyGrid (bytesOf t) with
  | none => exact ⟨Nat.zero_le _, fun x hx => by cases hx⟩
  | some g =>
    obtain ⟨w, h, cs⟩ := g
    obtain ⟨hw, hh, hl, _⟩ := tyGrid_some hg
    have h49 : w * h ≤ 49 := Nat.mul_le_mul hw.2 hh.2
    have hbl : (idxs isBallC cs).length ≤ 49 := by refine Nat.le_trans (List.length_filter_le _ _) ?_; rw [List.length_range]; omega
    simp only
    split
    · rename_i hc
      refine ⟨by rw [permD_length]; exact hbl, fun x hx => ?_⟩
      have := permD_lt hc.2 x hx
      rw [permD_length]; exact this
    · exact ⟨Nat.zero_le _, fun x hx => by cases hx⟩
end Go.Proofs.YtdffgeoegdkiaaaGreatDoor.F
