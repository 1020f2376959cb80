/- The proof that the law's row holds, part 4: the kit's words, the printed walks and the plain law. No conditions beyond the card's own. -/
import Derived.Lib.SlicesCompact
import Derived.Test.YtdffgeoegdkiaaaGreatDoorM0
import Derived.Test.YtdffgeoegdkiaaaGreatDoorM1
import Derived.Test.YtdffgeoegdkiaaaGreatDoorM2
import Derived.Test.YtdffgeoegdkiaaaGreatDoorM3
set_option linter.unusedVariables false
set_option linter.unusedSimpArgs false
namespace Go.Proofs.YtdffgeoegdkiaaaGreatDoor.F
open Go.Proofs.YtdffgeoegdkiaaaGreatDoor
open Go.RowKit Go.Proofs.YtdffgeoegdkiaaaGreatDoorW.PrintWords Go.Proofs.YtdffgeoegdkiaaaGreatDoorW.PrintLast Go.Proofs.YtdffgeoegdkiaaaGreatDoorW.PrintMore
attribute [local go_sem] max2_int min2_int max_two min_two max_three min_three max_four min_four
mutual
def impl_comesBack.l0 : Nat → List Int → List Int → List Int → Int → Int → Int → Int → List Int → Option (List Int × Bool)
 | 0, _, _, _, _, _, _, _, _ => none
 | k + 1, x7, x8, x24, x25, x26, x107000, x107001, x107002 => if x26 < x25 then (if 0 ≤ x26 then (if x26 < (x24.length : Int) then ((impl_slideZ.f x107000 x107001 x107002 (rd x24 x26)).bind fun t117 => (impl_comesBack.l1 k x7 x8 (rd x24 x26) t117 x24 x25 x26 (x8.length : Int) 0 x107000 x107001 x107002)) else (none)) else (none)) else (impl_comesBack.l2 k x7 (([] : List Int)) x8 (x8.length : Int) 0)
def impl_comesBack.l1 : Nat → List Int → List Int → Int → List (Nat × Nat) → List Int → Int → Int → Int → Int → Int → Int → List Int → Option (List Int × Bool)
 | 0, _, _, _, _, _, _, _, _, _, _, _, _ => none
 | k + 1, x7, x8, x10, x11, x24, x25, x26, x34, x35, x107000, x107001, x107002 => if x35 < x34 then (if 0 ≤ x35 then (if x35 < (x8.length : Int) then (if 0 ≤ (rd x8 x35) ∧ (rd x8 x35) < 65536 then (impl_comesBack.l1 k x7 (x8.set (x35 : Int).toNat (lookZ (rd x8 x35) x11)) x10 x11 x24 x25 x26 x34 (wrap64 (x35 + 1)) x107000 x107001 x107002) else none) else (none)) else (none)) else ((impl_tray_tilted.f x107000 x107001 x107002 x10).bind fun bt120 => (impl_comesBack.l0 k x7 x8 x24 x25 (wrap64 (x26 + 1)) bt120.1 bt120.2.1 bt120.2.2))
def impl_comesBack.l2 : Nat → List Int → List Int → List Int → Int → Int → Option (List Int × Bool)
 | 0, _, _, _, _, _ => none
 | k + 1, x7, x14, x52, x53, x54 => if x54 < x53 then (if 0 ≤ x54 then (if x54 < (x52.length : Int) then ((slices_Index_int_int.f k x7 (rd x52 x54)).bind fun t129 => (if x14.length < 17592186044416 then (impl_comesBack.l2 k x7 (x14 ++ [t129]) x52 x53 (wrap64 (x54 + 1))) else (none))) else (none)) else (none)) else ((slices_Contains_int_int.f k x14 (-1)).bind fun t133 => (some (x14, !t133)))
end
def impl_comesBack.f (k : Nat) (a0 : ByteArray) (a1 : ByteArray) : Option (List Int × Bool) := (impl_read.f a0).bind fun bt101 => ((impl_tray_indices__impl_isBall.f k bt101.1 bt101.2.1 bt101.2.2).bind fun t107 => ((slices_Clone_int.f t107).bind fun t110 => ((conv_bytes.f a1).bind fun t113 => (impl_comesBack.l0 k t107 t110 t113 (t113.length : Int) 0 bt101.1 bt101.2.1 bt101.2.2))))
theorem impl_comesBack.mono_l : ∀ k, (∀ y0 y1 y2 y3 y4 y5 y6 y7, LeO (impl_comesBack.l0 k y0 y1 y2 y3 y4 y5 y6 y7) (impl_comesBack.l0 (k + 1) y0 y1 y2 y3 y4 y5 y6 y7)) ∧ (∀ y0 y1 y2 y3 y4 y5 y6 y7 y8 y9 y10 y11, LeO (impl_comesBack.l1 k y0 y1 y2 y3 y4 y5 y6 y7 y8 y9 y10 y11) (impl_comesBack.l1 (k + 1) y0 y1 y2 y3 y4 y5 y6 y7 y8 y9 y10 y11)) ∧ (∀ y0 y1 y2 y3 y4, LeO (impl_comesBack.l2 k y0 y1 y2 y3 y4) (impl_comesBack.l2 (k + 1) y0 y1 y2 y3 y4))
 | 0 => ⟨fun _ _ _ _ _ _ _ _ r h => by simp [impl_comesBack.l0] at h, fun _ _ _ _ _ _ _ _ _ _ _ _ r h => by simp [impl_comesBack.l1] at h, fun _ _ _ _ _ r h => by simp [impl_comesBack.l2] at h⟩
 | k + 1 => by
  obtain ⟨ih0, ih1, ih2⟩ := impl_comesBack.mono_l k
  refine ⟨?_, ?_, ?_⟩
  ·intro y0 y1 y2 y3 y4 y5 y6 y7
   unfold impl_comesBack.l0
   have im0 := @impl_tray_indices__impl_isBall.mono; have im1 := @slices_Contains_int_int.mono; have im2 := @slices_Index_int_int.mono; exact mo
  ·intro y0 y1 y2 y3 y4 y5 y6 y7 y8 y9 y10 y11
   unfold impl_comesBack.l1
   have im0 := @impl_tray_indices__impl_isBall.mono; have im1 := @slices_Contains_int_int.mono; have im2 := @slices_Index_int_int.mono; exact mo
  ·intro y0 y1 y2 y3 y4
   unfold impl_comesBack.l2
   have im0 := @impl_tray_indices__impl_isBall.mono; have im1 := @slices_Contains_int_int.mono; have im2 := @slices_Index_int_int.mono; exact mo
theorem impl_comesBack.mono : ∀ a0 a1 k, LeO (impl_comesBack.f k a0 a1) (impl_comesBack.f (k + 1) a0 a1) := by
 intro a0 a1 k
 obtain ⟨ih0, ih1, ih2⟩ := impl_comesBack.mono_l k
 unfold impl_comesBack.f
 have im0 := @impl_tray_indices__impl_isBall.mono; have im1 := @slices_Contains_int_int.mono; have im2 := @slices_Index_int_int.mono; exact mo
set_option maxHeartbeats 8000000 in
set_option maxRecDepth 100000 in
theorem impl_comesBack.calls (k : Nat) (a0 : ByteArray) (a1 : ByteArray) (r1 : List Int) (r2 : Bool) (w : World) (h : impl_comesBack.f k a0 a1 = some (r1, r2)) :
  Calls Tryz.prog 60 #[.string a0, .string a1] w fun e w' => ∃ v0_ : Value, e = .returned (.tuple #[v0_, .bool r2]) ∧ Kd.R (Kd.int .i64) 3 w' w.heap.size (fun _ => True) v0_ r1 ∧ Below w.heap.size w w' := by
 have hu93 := Tryz.underlying93
 have HB := am (Below.refl w.heap.size w)
 have H : ((impl_read.f a0).bind fun bt101 => ((impl_tray_indices__impl_isBall.f k bt101.1 bt101.2.1 bt101.2.2).bind fun t107 => ((slices_Clone_int.f t107).bind fun t110 => ((conv_bytes.f a1).bind fun t113 => (impl_comesBack.l0 k t107 t110 t113 (t113.length : Int) 0 bt101.1 bt101.2.1 bt101.2.2))))) = some (r1, r2) := h
 clear h
 replace H := Option.bind_eq_some_iff.mp H
 obtain ⟨⟨t101, t102, t103⟩, A30, H⟩ := H
 replace H : ((impl_tray_indices__impl_isBall.f k t101 t102 t103).bind fun t107 => ((slices_Clone_int.f t107).bind fun t110 => ((conv_bytes.f a1).bind fun t113 => (impl_comesBack.l0 k t107 t110 t113 (t113.length : Int) 0 t101 t102 t103)))) = some (r1, r2) := H
 have A3 := am A30
 clear A30
 obtain ⟨t107, A40, H⟩ := Option.bind_eq_some_iff.mp H
 have A4 := am A40
 clear A40
 obtain ⟨t110, A50, H⟩ := Option.bind_eq_some_iff.mp H
 have A5 := am A50
 clear A50
 obtain ⟨t113, A60, H⟩ := Option.bind_eq_some_iff.mp H
 have A6 := am A60
 clear A60
 have H' := am H
 clear H
 go_enter Tryz.func60, Tryz.ntmps60
 go_wp2_with (first | ((with_reducible refine gate_callee (f := 89) rfl ?_); refine goesL_ (some 18) rfl rfl Tryz.func89 (by kernel_rfl) rfl #[.string a0] rfl aq5 ?_; (with_reducible refine (impl_read.calls a0 t101 t102 t103 _ A3.out).mono ?_); rintro e w7 ⟨v104, rfl, ho0, hb⟩; refine ⟨_, rfl, ?_⟩; have n0_ := am (Kd.V_lower (Kd.V_mono (ok' := fun k_ => True) ho0 (fun k_ hk_ => trivial)) (below_size aq1)); have n1_ := am (below_step aq1 hb); clear HB; have HO105 := n0_; have HB := n1_; clear n0_ n1_; (try clear hb); (try clear hb2); (try clear hk); (try clear hi); (try clear ho0)) | ((with_reducible refine gate_dst (N := 6) rfl ?_); refine box_event ?hg (N := 6) ?hd (cs := #[.int .i64 0, .int .i64 0, .slice none 0 0]) (t := 93) ?hr ?_; (case hd => rfl); (case hg => rfl); (case hr => exact aq15); intro gb106 hg w8 hbox hb; have n0_ := am (Kd.V_below (Kd.V_elderB aq74 gb106 (Nat.le_of_eq hg.symm)) hb); have n1_ := am (below_step aq1 hb); have n2_ := am (hbox); have n3_ := am ((by rw [hg]; exact (below_size aq1) : w.heap.size ≤ gb106)); have n4_ := am ((by rw [hg]; exact (below_size aq1) : w.heap.size ≤ gb106)); clear HO105; clear HB; have HO105 := n0_; have HB := n1_; have BK106 := n2_; have GW106 := n3_; have GE106 := n4_; clear n0_ n1_ n2_ n3_ n4_; clear hb hbox hg; obtain ⟨hcz9_0, hcz9_1, hcz9_2, hfz9_0, hfz9_1, hfz9_2⟩ := blk3_ BK106.out; obtain ⟨Ao10, co10, eo10⟩ := Kd.V_slice HO105.out; subst eo10) | ((with_reducible refine gate_callee (f := 106) rfl ?_); refine goesL_ (some 20) rfl rfl Tryz.func106 (by kernel_rfl) rfl #[.agg #[.int .i64 t101, .int .i64 t102, .slice Ao10 t103.length co10], .func (.func 107) #[] #[]] rfl aq5 ?_; (with_reducible refine (impl_tray_indices__impl_isBall.calls k t101 t102 _ _ t103  t107 _ ?side1 ?side2 A4.out).mono ?_); (case side1 => refine (Kd.V_reads' (e := 5) (base := w.heap.size) (ok := fun k_ => (True ∧ k_ ≠ gb106)) (n := t103.length) (c := co10) ?_).2.2; exact aq53); (case side2 => exact (Kd.V_reads' HO105.out).2.1); rintro e w11 ⟨v108, rfl, ho0, hb⟩; refine ⟨_, rfl, ?_⟩; have n0_ := am (Kd.V_elder' aq53 (Kd.R_base ho0) hb); have n1_ := am (Kd.R_lower ho0 (below_size aq11)); have n2_ := am (blk_below (g := gb106) (o := .cells #[.int .i64 t101, .int .i64 t102, .slice Ao10 t103.length co10] 93 (0, 0)) (by (with_reducible repeat (first | refine blk_drewN ?_ _ | refine blk_drew ?_ | refine blk_alloc ?_ _)); refine blk_put (cs := #[.int .i64 t101, .int .i64 t102, .slice none 0 0]) ?_ 2 _ rfl; (with_reducible repeat (first | refine blk_drewN ?_ _ | refine blk_drew ?_ | refine blk_alloc ?_ _)); refine blk_put (cs := #[.int .i64 t101, .int .i64 0, .slice none 0 0]) ?_ 1 _ rfl; (with_reducible repeat (first | refine blk_drewN ?_ _ | refine blk_drew ?_ | refine blk_alloc ?_ _)); refine blk_put (cs := #[.int .i64 0, .int .i64 0, .slice none 0 0]) ?_ 0 _ rfl; (with_reducible repeat (first | refine blk_drewN ?_ _ | refine blk_drew ?_ | refine blk_alloc ?_ _)); exact BK106.out) hb); have n3_ := am (below_step aq11 hb); clear HO105; clear BK106; clear HB; have HO105 := n0_; have HO109 := n1_; have BK106 := n2_; have HB := n3_; clear n0_ n1_ n2_ n3_; (try clear hb); (try clear hb2); (try clear hk); (try clear hi); (try clear ho0); obtain ⟨Ao12, co12, eo12⟩ := Kd.R_slice HO109.out; subst eo12) | ((with_reducible refine gate_callee (f := 82) rfl ?_); refine goesL_ (some 22) rfl rfl Tryz.func82 (by kernel_rfl) rfl #[.slice Ao12 t107.length co12] rfl aq5 ?_; (with_reducible refine (slices_Clone_int.calls _ _ t107 t110 _ ?side1 ?side2 A5.out).mono ?_); (case side1 => repeat (first | exact (Kd.R_reads' HO109.out).2.2 | (with_reducible refine Kd.C_alloc ?_ _) | (with_reducible refine Kd.C_drewN ?_ _) | (with_reducible refine Kd.C_drew ?_))); (case side2 => exact (Kd.R_reads' HO109.out).2.1); rintro e w13 ⟨v111, rfl, ho0, hb⟩; refine ⟨_, rfl, ?_⟩; have n0_ := am (Kd.V_elder' aq74 (Kd.R_base ho0) hb); have n1_ := am (Kd.R_elder' aq49 (Kd.R_base ho0) hb); have n2_ := am (Kd.R_lower (Kd.R_new' ho0 (Kd.R_lt aq49)) (below_size aq11)); have n3_ := am (blk_below (g := gb106) (o := .cells #[.int .i64 t101, .int .i64 t102, .slice Ao10 t103.length co10] 93 (0, 0)) aq23 hb); have n4_ := am (below_step aq11 hb); clear HO105; clear HO109; clear BK106; clear HB; have HO105 := n0_; have HO109 := n1_; have HO112 := n2_; have BK106 := n3_; have HB := n4_; clear n0_ n1_ n2_ n3_ n4_; (try clear hb); (try clear hb2); (try clear hk); (try clear hi); (try clear ho0)) | ((with_reducible refine gate_dst (N := 24) rfl ?_); refine conv_event rfl (N := 24) rfl 9 60 5 _ rfl a1 rfl Tryz.underlying9 Tryz.underlying60 Tryz.underlying5 t113 A6.out ?_; intro v114 w14 ho0 hb; have n0_ := am (Kd.V_below aq74 hb); have n1_ := am (Kd.R_below aq49 hb); have n2_ := am (Kd.R_below (by (with_reducible repeat (first | apply Kd.R_alloc | apply Kd.R_drewN | apply Kd.R_drew)); exact HO112.out) hb); have n3_ := am (Kd.V_lower (Kd.V_mono (ok' := fun k_ => some k_ ≠ (.slice Ao12 t107.length co12 : Value).ownBlock ∧ some k_ ≠ (v111 : Value).ownBlock ∧ k_ ≠ gb106) ho0 (fun k_ hk_ => ⟨(Kd.fresh' (Kd.R_lt aq49) k_ hk_), (Kd.fresh' (Kd.R_lt (by (with_reducible repeat (first | apply Kd.R_alloc | apply Kd.R_drewN | apply Kd.R_drew)); exact HO112.out)) k_ hk_), (Kd.freshB (g := gb106) (o := .cells #[.int .i64 t101, .int .i64 t102, .slice Ao10 t103.length co10] 93 (0, 0)) aq23 k_ hk_)⟩)) (below_size aq11)); have n4_ := am (blk_below (g := gb106) (o := .cells #[.int .i64 t101, .int .i64 t102, .slice Ao10 t103.length co10] 93 (0, 0)) aq23 hb); have n5_ := am (below_step aq11 hb); clear HO105; clear HO109; clear HO112; clear BK106; clear HB; have HO105 := n0_; have HO109 := n1_; have HO112 := n2_; have HO115 := n3_; have BK106 := n4_; have HB := n5_; clear n0_ n1_ n2_ n3_ n4_ n5_; (try clear hb); (try clear hb2); (try clear hk); (try clear hi); (try clear ho0); obtain ⟨Ao15, co15, eo15⟩ := Kd.V_slice HO115.out; subst eo15))
 go_loopg [26] k (fun kq v26 w' => ∃ (x8_1 : List Int) (x26_1 : Int) (x107000_1 : Int) (x107001_1 : Int) (x107002_1 : List Int) (u107002 : Value), v26 = .int .i64 x26_1 ∧ Aside0 (impl_comesBack.l0 kq t107 x8_1 t113 (t113.length : Int) x26_1 x107000_1 x107001_1 x107002_1 = some (r1, r2)) ∧ Aside0 (kq ≤ k) ∧ Aside0 (Kd.R (Kd.int .i64) 3 w' w.heap.size (fun k_ => some k_ ≠ (v111 : Value).ownBlock) (.slice Ao12 t107.length co12) t107) ∧ Aside0 (Kd.R (Kd.int .i64) 3 w' w.heap.size (fun k_ => some k_ ≠ ((.slice Ao12 t107.length co12) : Value).ownBlock) v111 x8_1) ∧ Aside0 (Kd.V (Kd.int .u8) 5 w' w.heap.size (fun k_ => some k_ ≠ ((.slice Ao12 t107.length co12) : Value).ownBlock ∧ some k_ ≠ (v111 : Value).ownBlock ∧ k_ ≠ gb106) (.slice Ao15 t113.length co15) t113) ∧ Aside0 (Kd.V (Kd.int .u8) 5 w' w.heap.size (fun k_ => some k_ ≠ ((.slice Ao12 t107.length co12) : Value).ownBlock ∧ some k_ ≠ (v111 : Value).ownBlock ∧ k_ ≠ gb106) u107002 x107002_1) ∧ Aside0 (w'.heap[gb106]? = some (.cells #[.int .i64 x107000_1, .int .i64 x107001_1, u107002] 93 (0, 0))) ∧ Aside0 (Below w.heap.size w w'))
 case atStart => exact ⟨(t110), (0), (t101), (t102), (t103), (.slice Ao10 t103.length co10), aq7, H', ⟨Nat.le_refl _⟩, ⟨by (with_reducible repeat (first | apply Kd.R_alloc | apply Kd.R_drewN | apply Kd.R_drew)); exact Kd.R_mono HO109.out (fun _ hk => hk.2)⟩, ⟨by (with_reducible repeat (first | apply Kd.R_alloc | apply Kd.R_drewN | apply Kd.R_drew)); exact Kd.R_mono HO112.out (fun _ hk => hk.2)⟩, ⟨by (with_reducible repeat (first | apply Kd.V_alloc | apply Kd.V_drewN | apply Kd.V_drew)); exact HO115.out⟩, ⟨by (with_reducible repeat (first | apply Kd.V_alloc | apply Kd.V_drewN | apply Kd.V_drew)); exact Kd.V_mono HO105.out (fun _ hk => ⟨hk.1.2, ⟨hk.2, hk.1.1.2⟩⟩)⟩, ⟨aq23⟩, ⟨aq11⟩⟩
 case round =>
  clear H'
  try clear c1
  try clear p2
  try clear c6
  try clear c8
  try clear c10
  try clear hcz9_0
  try clear hcz9_1
  try clear hcz9_2
  try clear hfz9_0
  try clear hfz9_1
  try clear hfz9_2
  obtain ⟨x8_1, x26_1, x107000_1, x107001_1, x107002_1, u107002, rfl, HA, HK1, HO_7, HO_8, HO_24, HO_107002, BK106, HB⟩ := hrel
  cases gk with
  | zero => exact absurd HA.out (by simp [impl_comesBack.l0])
  | succ k1 =>
   have H := HA.out
   clear HA
   simp only [impl_comesBack.l0] at H
   by_cases c16 : x26_1 < (t113.length : Int)
   ·rw [if_pos c16] at H
    have c16b0 := decide_eq_true c16
    clear c16
    by_cases c17 : 0 ≤ x26_1
    ·rw [if_pos c17] at H
     have c17b0 := decide_eq_true c17
     clear c17
     by_cases c18 : x26_1 < (t113.length : Int)
     ·rw [if_pos c18] at H
      have c18b0 := decide_eq_true c18
      clear c18
      obtain ⟨t117, A190, H⟩ := Option.bind_eq_some_iff.mp H
      have A19 := am A190
      clear A190
      have H' := am H
      clear H
      have p116 : 0 ≤ (x26_1 : Int) := of_decide_eq_true aq6
      have q116 : x26_1 < (t113.length : Int) := of_decide_eq_true aq6
      obtain ⟨ad116, e116, hx116_0⟩ := Kd.at_int (Kd.V_reads' HO_24.out).2.2 x26_1 p116 q116
      cases e116
      replace p116 := eq_true p116
      replace q116 := eq_true q116
      obtain ⟨hcz20_0, hcz20_1, hcz20_2, hfz20_0, hfz20_1, hfz20_2⟩ := blk3_ BK106.out
      obtain ⟨Ao21, co21, eo21⟩ := Kd.V_slice HO_107002.out
      subst eo21
      go_wp2_with (first | ((with_reducible refine gate_callee (f := 108) rfl ?_); refine goesL_ (some 32) rfl rfl Tryz.func108 (by kernel_rfl) rfl #[.agg #[.int .i64 x107000_1, .int .i64 x107001_1, .slice Ao21 x107002_1.length co21], .int .u8 (rd t113 x26_1)] rfl aq5 ?_; (with_reducible refine (impl_slideZ.calls x107000_1 x107001_1 _ _ x107002_1 (rd t113 x26_1) t117 _ ?side1 ?side2 A19.out).mono ?_); (case side1 => exact aq88); (case side2 => exact (Kd.V_reads' HO_107002.out).2.1); rintro e w22 ⟨bm, rfl, hmp_, hnd_, hb⟩; have MP := am hmp_; have ND := am hnd_; clear hmp_ hnd_; refine ⟨_, rfl, ?_⟩; have n0_ := am (Kd.R_below aq21 hb); have n1_ := am (Kd.R_below aq13 hb); have n2_ := am (Kd.V_below aq63 hb); have n3_ := am (Kd.V_below aq60 hb); have n4_ := am (blk_below (g := gb106) (o := .cells #[.int .i64 x107000_1, .int .i64 x107001_1, .slice Ao21 x107002_1.length co21] 93 (0, 0)) aq23 hb); have n5_ := am (below_step aq11 hb); clear HO_7; clear HO_8; clear HO_24; clear HO_107002; clear BK106; clear HB; have HO_7 := n0_; have HO_8 := n1_; have HO_24 := n2_; have HO_107002 := n3_; have BK106 := n4_; have HB := n5_; clear n0_ n1_ n2_ n3_ n4_ n5_; (try clear hb); (try clear hb2); (try clear hk); (try clear hi); obtain ⟨Ao23, co23, eo23⟩ := Kd.R_slice HO_8.out; subst eo23))
      go_loopg [35] k1 (fun kq v35 w' => ∃ (x8_2 : List Int) (x35_2 : Int), v35 = .int .i64 x35_2 ∧ Aside0 (impl_comesBack.l1 kq t107 x8_2 (rd t113 x26_1) t117 t113 (t113.length : Int) x26_1 (x8_1.length : Int) x35_2 x107000_1 x107001_1 x107002_1 = some (r1, r2)) ∧ Aside0 (kq ≤ k1) ∧ Aside0 (Kd.R (Kd.int .i64) 3 w' w.heap.size (fun k_ => some k_ ≠ ((.slice Ao23 x8_1.length co23) : Value).ownBlock) (.slice Ao12 t107.length co12) t107) ∧ Aside0 (Kd.R (Kd.int .i64) 3 w' w.heap.size (fun k_ => some k_ ≠ ((.slice Ao12 t107.length co12) : Value).ownBlock) (.slice Ao23 x8_1.length co23) x8_2) ∧ Aside0 (Kd.V (Kd.int .u8) 5 w' w.heap.size (fun k_ => some k_ ≠ ((.slice Ao12 t107.length co12) : Value).ownBlock ∧ some k_ ≠ ((.slice Ao23 x8_1.length co23) : Value).ownBlock ∧ k_ ≠ gb106) (.slice (some ad116) t113.length co15) t113) ∧ Aside0 (Kd.V (Kd.int .u8) 5 w' w.heap.size (fun k_ => some k_ ≠ ((.slice Ao12 t107.length co12) : Value).ownBlock ∧ some k_ ≠ ((.slice Ao23 x8_1.length co23) : Value).ownBlock ∧ k_ ≠ gb106) (.slice Ao21 x107002_1.length co21) x107002_1) ∧ Aside0 (w'.heap[gb106]? = some (.cells #[.int .i64 x107000_1, .int .i64 x107001_1, (.slice Ao21 x107002_1.length co21)] 93 (0, 0))) ∧ Aside0 (Below w.heap.size w w') ∧ Aside0 (MapAt w' bm t117))
      case atStart => exact ⟨(x8_1), (0), aq7, H', ⟨Nat.le_refl _⟩, ⟨aq21⟩, ⟨aq13⟩, ⟨aq63⟩, ⟨aq60⟩, ⟨aq23⟩, ⟨aq11⟩, MP⟩
      case round =>
       clear H'
       try clear c1
       try clear p1
       try clear q1
       try clear hx1
       try clear p2
       try clear c6
       try clear c8
       try clear c10
       try clear p11
       try clear q11
       try clear hx11
       try clear c16
       try clear c16b0
       try clear c17
       try clear c17b0
       try clear c18
       try clear c18b0
       try clear hcz20_0
       try clear hcz20_1
       try clear hcz20_2
       try clear hcz9_0
       try clear hcz9_1
       try clear hcz9_2
       try clear hfz20_0
       try clear hfz20_1
       try clear hfz20_2
       try clear hfz9_0
       try clear hfz9_1
       try clear hfz9_2
       try clear hx116_0
       try clear p116
       try clear p2
       try clear q116
       obtain ⟨x8_2, x35_2, rfl, HA, HK2, HO_7, HO_8, HO_24, HO_107002, BK106, HB, MP⟩ := hrel
       have hl8_2 := (Kd.R_reads' HO_8.out).1
       rw [hl8_2] at HO_8
       (try simp only [hl8_2])
       (try simp only [hl8_2] at BK106)
       (try simp only [hl8_2] at HO_7)
       (try simp only [hl8_2] at HO_24)
       (try simp only [hl8_2] at HO_107002)
       cases gk with
       | zero => exact absurd HA.out (by simp [impl_comesBack.l1])
       | succ k2 =>
        have H := HA.out
        clear HA
        simp only [impl_comesBack.l1] at H
        by_cases c24 : x35_2 < (x8_1.length : Int)
        ·rw [if_pos c24] at H
         have c24b0 := decide_eq_true c24
         clear c24
         by_cases c25 : 0 ≤ x35_2
         ·rw [if_pos c25] at H
          have c25b0 := decide_eq_true c25
          clear c25
          by_cases c26 : x35_2 < (x8_2.length : Int)
          ·rw [if_pos c26] at H
           have c26b0 := decide_eq_true c26
           clear c26
           by_cases cg_ : 0 ≤ (rd x8_2 x35_2) ∧ (rd x8_2 x35_2) < 65536
           case neg => rw [if_neg cg_] at H; exact absurd H (by simp)
           rw [if_pos cg_] at H
           have CG_ := am cg_
           clear cg_
           obtain ⟨y119, hy_⟩ : ∃ y_ : List Int, y_ = (x8_2.set (x35_2 : Int).toNat (lookZ (rd x8_2 x35_2) t117)) := ⟨_, rfl⟩
           replace H : (impl_comesBack.l1 k2 t107 y119 (rd t113 x26_1) t117 t113 (t113.length : Int) x26_1 (x8_1.length : Int) (wrap64 (x35_2 + 1)) x107000_1 x107001_1 x107002_1) = some (r1, r2) := aq4
           have Ny119 := am hy_
           clear hy_
           have H' := am H
           clear H
           have p118 : 0 ≤ (x35_2 : Int) := of_decide_eq_true aq6
           have q118 : x35_2 < (x8_2.length : Int) := of_decide_eq_true aq6
           obtain ⟨ad118, e118, hx118_0⟩ := Kd.at_int (Kd.R_reads' HO_8.out).2.2 x35_2 p118 q118
           cases e118
           replace p118 := eq_true p118
           replace q118 := eq_true q118
           have p27 : 0 ≤ (x35_2 : Int) := of_decide_eq_true aq6
           have q27 : (x35_2 : Int) < ((x8_2.length : Int) : Int) := of_decide_eq_true aq6
           obtain ⟨go27, co27, eo27, gb27, gl27, cl27, HG27⟩ := Kd.R_form HO_8.out (by omega)
           (first | cases eo27 | (injection eo27 with ea_ en_ ec_; (first | subst ea_ | (injection ea_ with ea_; subst ea_)); subst ec_; clear en_))
           have GB27 := am gb27
           have GG27 := am HG27
           clear gb27 gl27 HG27
           (first | simp only [add_plain] at hx118_0 | skip)
           obtain ⟨hx27_0, hf27_0⟩ := Kd.R_celln 0 HO_8.out (x35_2 : Int) p27 q27
           replace p27 := eq_true p27
           replace q27 := eq_true q27
           have HP28 := Kd.R_putg HO_8.out (x35_2 : Int) (lookZ (rd x8_2 x35_2) t117)
           go_wp2_with (first | (at_lookup; obtain ⟨nz_, hnz_, own_⟩ := MP.out; refine wpList_lookup_own_int _ rfl _ _ 107 rfl 3 3 .i64 int_keys Tryz.underlying107 Tryz.underlying3 (Tryz.zeroValue3 _) bm nz_ (mapOf t117) rfl own_ _ _ rfl (Go.Maps.keyOf_int_mk Tryz.underlying3 (WalkArith.wf_i64 (by have := CG_.out; omega))) ?_; intro c_ hat_ hwc_; clear hwc_ hnz_ own_; obtain rfl := lookZ_of ND.out CG_.out.1 hat_; clear hat_) | ((with_reducible refine gate_store (t := 3) (p := 45) rfl ?_); refine store_event (t := 3) (p := 45) (v := ?vo_w29) (w1 := (wr.setCell ⟨go27, (x35_2 : Int).toNat, none⟩ (.int .i64 (lookZ (rd x8_2 x35_2) t117)))) ?hg ?ho ?hn ?hr ?_; (case ho => rfl); (case hg => rfl); (case hn => rfl); (case hr => exact aq15); intro w29 hw; have hg : wr.grownBy w29 (some go27) := (by rw [hw]; exact HP28.2); have hp_ : Kd.R (Kd.int .i64) 3 w29 w.heap.size (fun k_ => some k_ ≠ (.slice Ao12 t107.length co12 : Value).ownBlock) (.slice (some ⟨go27, 0, none⟩) x8_2.length co23) y119 := (by rw [hw, Ny119.out]; exact HP28.1); clear HP28; have n0_ := am (Kd.R_after (v := (.slice (some ⟨go27, 0, none⟩) x8_2.length co23)) (v1 := (.slice (some ⟨go27, 0, none⟩) x8_2.length co23)) (ok := (fun _ => True)) (by (with_reducible repeat (first | apply Kd.R_alloc | apply Kd.R_drewN | apply Kd.R_drew)); exact Kd.R_mono HO_7.out (fun _ hk => ⟨trivial, hk⟩)) hg (.inl rfl)); have n1_ := am (hp_); have n2_ := am (Kd.V_afterv (v := (.slice (some ⟨go27, 0, none⟩) x8_2.length co23)) (v1 := (.slice (some ⟨go27, 0, none⟩) x8_2.length co23)) (ok := (fun k_ => some k_ ≠ (.slice Ao12 t107.length co12 : Value).ownBlock ∧ k_ ≠ gb106)) (by (with_reducible repeat (first | apply Kd.V_alloc | apply Kd.V_drewN | apply Kd.V_drew)); exact Kd.V_mono HO_24.out (fun _ hk => ⟨⟨hk.1, hk.2.2⟩, hk.2.1⟩)) hg (.inl rfl)); have n3_ := am (Kd.V_afterv (v := (.slice (some ⟨go27, 0, none⟩) x8_2.length co23)) (v1 := (.slice (some ⟨go27, 0, none⟩) x8_2.length co23)) (ok := (fun k_ => some k_ ≠ (.slice Ao12 t107.length co12 : Value).ownBlock ∧ k_ ≠ gb106)) (by (with_reducible repeat (first | apply Kd.V_alloc | apply Kd.V_drewN | apply Kd.V_drew)); exact Kd.V_mono HO_107002.out (fun _ hk => ⟨⟨hk.1, hk.2.2⟩, hk.2.1⟩)) hg (.inl rfl)); have n4_ := am (blk_grown (g := gb106) (o := .cells #[.int .i64 x107000_1, .int .i64 x107001_1, .slice Ao21 x107002_1.length co21] 93 (0, 0)) aq23 hg (Kd.R_ne HO_8.out BK106.out (by decide))); have n5_ := am ((by rw [hw]; exact below_set (HB.out) GB27.out : Below w.heap.size w w29)); clear HO_7; clear HO_8; clear HO_24; clear HO_107002; clear BK106; clear HB; have HO_7 := n0_; have HO_8 := n1_; have HO_24 := n2_; have HO_107002 := n3_; have BK106 := n4_; have HB := n5_; clear n0_ n1_ n2_ n3_ n4_ n5_; have np_ := am (MP.out.kept hg (by intro e_; injection e_ with e_; exact MP.out.ne GG27.out e_)); clear MP; have MP := np_; clear np_; clear hg hw hp_))
           (try simp only [← hl8_2])
           go_roundg k2
           case measure => have := HK1.out; have := HK2.out; omega
           case rel => exact ⟨(y119), (wrap64 (x35_2 + 1)), aq7, H', ⟨aq58⟩, ⟨by (try simp only [hl8_2]); (with_reducible repeat (first | apply Kd.R_alloc | apply Kd.R_drewN | apply Kd.R_drew)); exact Kd.R_mono HO_7.out (fun _ hk => hk.2)⟩, ⟨by (try simp only [hl8_2]); (with_reducible repeat (first | apply Kd.R_alloc | apply Kd.R_drewN | apply Kd.R_drew)); exact HO_8.out⟩, ⟨by (try simp only [hl8_2]); (with_reducible repeat (first | apply Kd.V_alloc | apply Kd.V_drewN | apply Kd.V_drew)); exact Kd.V_mono HO_24.out (fun _ hk => ⟨hk.1.1, ⟨hk.2, hk.1.2⟩⟩)⟩, ⟨by (try simp only [hl8_2]); (with_reducible repeat (first | apply Kd.V_alloc | apply Kd.V_drewN | apply Kd.V_drew)); exact Kd.V_mono HO_107002.out (fun _ hk => ⟨hk.1.1, ⟨hk.2, hk.1.2⟩⟩)⟩, ⟨by (try simp only [hl8_2]); (with_reducible repeat (first | refine blk_drewN ?_ _ | refine blk_drew ?_ | refine blk_alloc ?_ _)); exact BK106.out⟩, ⟨aq11⟩, MP⟩
          ·rw [if_neg c26] at H
           exact absurd H (by simp)
         ·rw [if_neg c25] at H
          exact absurd H (by simp)
        ·rw [if_neg c24] at H
         have c24b0 := decide_eq_false c24
         have c24b1_ := c24b0
         (try rw [hl8_2] at c24b1_)
         clear c24
         replace H := Option.bind_eq_some_iff.mp H
         obtain ⟨⟨t120, t121, t122⟩, A300, H⟩ := H
         replace H : (impl_comesBack.l0 k2 t107 x8_2 t113 (t113.length : Int) (wrap64 (x26_1 + 1)) t120 t121 t122) = some (r1, r2) := H
         have A30 := am A300
         clear A300
         have H' := am H
         clear H
         obtain ⟨hcz31_0, hcz31_1, hcz31_2, hfz31_0, hfz31_1, hfz31_2⟩ := blk3_ BK106.out
         go_wp2_with (first | ((with_reducible refine gate_callee (f := 109) rfl ?_); refine goesL_ (some 49) rfl rfl Tryz.func109 (by kernel_rfl) rfl #[.agg #[.int .i64 x107000_1, .int .i64 x107001_1, .slice Ao21 x107002_1.length co21], .int .u8 (rd t113 x26_1)] rfl aq5 ?_; (with_reducible refine (impl_tray_tilted.calls x107000_1 x107001_1 _ _ x107002_1 (rd t113 x26_1) t120 t121 t122 _ ?side1 ?side2 A30.out).mono ?_); (case side1 => exact aq88); (case side2 => exact (Kd.V_reads' HO_107002.out).2.1); rintro e w32 ⟨v123, rfl, ho0, hb⟩; refine ⟨_, rfl, ?_⟩; have n0_ := am (Kd.R_below aq21 hb); have n1_ := am (Kd.R_below aq13 hb); have n2_ := am (Kd.V_elder' aq63 (Kd.R_base ho0) hb); have n3_ := am (Kd.V_elder' aq60 (Kd.R_base ho0) hb); have n4_ := am (Kd.R_lower ho0 (below_size aq11)); have n5_ := am (blk_below (g := gb106) (o := .cells #[.int .i64 x107000_1, .int .i64 x107001_1, .slice Ao21 x107002_1.length co21] 93 (0, 0)) aq23 hb); have n6_ := am (below_step aq11 hb); clear HO_7; clear HO_8; clear HO_24; clear HO_107002; clear BK106; clear HB; have HO_7 := n0_; have HO_8 := n1_; have HO_24 := n2_; have HO_107002 := n3_; have HO124 := n4_; have BK106 := n5_; have HB := n6_; clear n0_ n1_ n2_ n3_ n4_ n5_ n6_; (try clear hb); (try clear hb2); (try clear hk); (try clear hi); (try clear ho0); obtain ⟨hcz33_0, hcz33_1, hcz33_2, hfz33_0, hfz33_1, hfz33_2⟩ := blk3_ BK106.out; obtain ⟨Ao34, co34, eo34⟩ := Kd.R_slice HO124.out; subst eo34))
         (try simp only [← hl8_2])
         go_roundg k2
         case measure => have := HK1.out; have := HK2.out; omega
         case rel => exact ⟨(x8_2), (wrap64 (x26_1 + 1)), (t120), (t121), (t122), (.slice Ao34 t122.length co34), aq7, H', ⟨aq58⟩, ⟨by (try simp only [hl8_2]); (with_reducible repeat (first | apply Kd.R_alloc | apply Kd.R_drewN | apply Kd.R_drew)); exact Kd.R_mono (Kd.R_far (p := ⟨gb106, 2, none⟩) (Kd.R_far (p := ⟨gb106, 1, none⟩) (Kd.R_far (p := ⟨gb106, 0, none⟩) (Kd.R_types HO_7.out BK106.out (by decide)) (fun _ hk => hk.2) (.int .i64 t120)) (fun _ hk => hk.2) (.int .i64 t121)) (fun _ hk => hk.2) (.slice Ao34 t122.length co34)) (fun _ hk => hk.1)⟩, ⟨by (try simp only [hl8_2]); (with_reducible repeat (first | apply Kd.R_alloc | apply Kd.R_drewN | apply Kd.R_drew)); exact Kd.R_mono (Kd.R_far (p := ⟨gb106, 2, none⟩) (Kd.R_far (p := ⟨gb106, 1, none⟩) (Kd.R_far (p := ⟨gb106, 0, none⟩) (Kd.R_types HO_8.out BK106.out (by decide)) (fun _ hk => hk.2) (.int .i64 t120)) (fun _ hk => hk.2) (.int .i64 t121)) (fun _ hk => hk.2) (.slice Ao34 t122.length co34)) (fun _ hk => hk.1)⟩, ⟨by (try simp only [hl8_2]); (with_reducible repeat (first | apply Kd.V_alloc | apply Kd.V_drewN | apply Kd.V_drew)); exact Kd.V_mono (Kd.V_far (p := ⟨gb106, 2, none⟩) (Kd.V_far (p := ⟨gb106, 1, none⟩) (Kd.V_far (p := ⟨gb106, 0, none⟩) (Kd.V_mono HO_24.out (fun k_ hk => (⟨hk, hk.1.2.2⟩ : _ ∧ k_ ≠ gb106))) (fun _ hk => hk.2) (.int .i64 t120)) (fun _ hk => hk.2) (.int .i64 t121)) (fun _ hk => hk.2) (.slice Ao34 t122.length co34)) (fun _ hk => ⟨hk.1.1.1, ⟨hk.1.1.2.1, hk.1.1.2.2⟩⟩)⟩, ⟨Kd.R_V (by (try simp only [hl8_2]); (with_reducible repeat (first | apply Kd.R_alloc | apply Kd.R_drewN | apply Kd.R_drew)); exact Kd.R_mono (Kd.R_far (p := ⟨gb106, 2, none⟩) (Kd.R_far (p := ⟨gb106, 1, none⟩) (Kd.R_far (p := ⟨gb106, 0, none⟩) (Kd.R_types (Kd.R_types (Kd.R_apart' (Kd.R_apart' HO124.out (Kd.R_typed HO_7.out) (by decide)) (Kd.R_typed HO_8.out) (by decide)) BK106.out (by decide)) BK106.out (by decide)) (fun _ hk => hk.2) (.int .i64 t120)) (fun _ hk => hk.2) (.int .i64 t121)) (fun _ hk => hk.2) (.slice Ao34 t122.length co34)) (fun _ hk => ⟨hk.1.1.1.2, ⟨hk.1.1.2, hk.1.2⟩⟩))⟩, ⟨by (try simp only [hl8_2]); (with_reducible repeat (first | refine blk_drewN ?_ _ | refine blk_drew ?_ | refine blk_alloc ?_ _)); refine blk_put (cs := #[.int .i64 t120, .int .i64 t121, .slice Ao21 x107002_1.length co21]) ?_ 2 _ rfl; (with_reducible repeat (first | refine blk_drewN ?_ _ | refine blk_drew ?_ | refine blk_alloc ?_ _)); refine blk_put (cs := #[.int .i64 t120, .int .i64 x107001_1, .slice Ao21 x107002_1.length co21]) ?_ 1 _ rfl; (with_reducible repeat (first | refine blk_drewN ?_ _ | refine blk_drew ?_ | refine blk_alloc ?_ _)); refine blk_put (cs := #[.int .i64 x107000_1, .int .i64 x107001_1, .slice Ao21 x107002_1.length co21]) ?_ 0 _ rfl; (with_reducible repeat (first | refine blk_drewN ?_ _ | refine blk_drew ?_ | refine blk_alloc ?_ _)); exact BK106.out⟩, ⟨aq11⟩⟩
     ·rw [if_neg c18] at H
      exact absurd H (by simp)
    ·rw [if_neg c17] at H
     exact absurd H (by simp)
   ·rw [if_neg c16] at H
    have c16b0 := decide_eq_false c16
    clear c16
    obtain ⟨y125, hy_⟩ : ∃ y_ : List Int, y_ = (([] : List Int)) := ⟨_, rfl⟩
    replace H : (impl_comesBack.l2 k1 t107 y125 x8_1 (x8_1.length : Int) 0) = some (r1, r2) := aq4
    have Ny125 := am hy_
    clear hy_
    have H' := am H
    clear H
    go_wp2_with (first | ((with_reducible refine gate_dst (N := 51) rfl ?_); refine Kd.R_lit (Kd.int .i64) _ 3 ?hg (N := 51) ?hd (xs := ([] : List Int)) (inner := []) (ok := fun _ => True) (okp := fun _ => True) ?hr ?hp (fun _ hk => hk) trivial (Below.refl _ _) (Nat.le_refl _) (by simp) ?_; (case hd => rfl); (case hg => rfl); (case hr => exact aq15); (case hp => exact (Reps.none _ _)); intro v126 w35 ho36 hb hg_ hnew_; clear hg_ hnew_; (first | rw [← Ny125.out] at ho36 | (simp only [Int.reduceToNat] at ho36; rw [← Ny125.out] at ho36)); have n0_ := am (Kd.R_elder' aq21 (Kd.R_base ho36) hb); have n1_ := am (Kd.R_elder' aq13 (Kd.R_base ho36) hb); have n2_ := am (Kd.V_elder' aq63 (Kd.R_base ho36) hb); have n3_ := am (Kd.V_elder' aq60 (Kd.R_base ho36) hb); have n4_ := am (Kd.R_lower (Kd.R_new' (Kd.R_new' ho36 (Kd.R_lt aq21)) (Kd.R_lt aq13)) (below_size aq11)); have n5_ := am (blk_below (g := gb106) (o := .cells #[.int .i64 x107000_1, .int .i64 x107001_1, u107002] 93 (0, 0)) aq23 hb); have n6_ := am (below_step aq11 hb); clear HO_7; clear HO_8; clear HO_24; clear HO_107002; clear BK106; clear HB; have HO_7 := n0_; have HO_8 := n1_; have HO_24 := n2_; have HO_107002 := n3_; have HO127 := n4_; have BK106 := n5_; have HB := n6_; clear n0_ n1_ n2_ n3_ n4_ n5_ n6_; clear hb ho36; obtain ⟨Ao37, co37, eo37⟩ := Kd.R_slice HO_8.out; subst eo37))
    go_loopg [14, 54] k1 (fun kq v14 v54 w' => ∃ (x14_2 : List Int) (x54_2 : Int), v54 = .int .i64 x54_2 ∧ Aside0 (impl_comesBack.l2 kq t107 x14_2 x8_1 (x8_1.length : Int) x54_2 = some (r1, r2)) ∧ Aside0 (kq ≤ k1) ∧ Aside0 (Kd.R (Kd.int .i64) 3 w' w.heap.size (fun k_ => some k_ ≠ (v14 : Value).ownBlock ∧ some k_ ≠ ((.slice Ao37 x8_1.length co37) : Value).ownBlock) (.slice Ao12 t107.length co12) t107) ∧ Aside0 (Kd.R (Kd.int .i64) 3 w' w.heap.size (fun k_ => some k_ ≠ ((.slice Ao12 t107.length co12) : Value).ownBlock ∧ some k_ ≠ ((.slice Ao37 x8_1.length co37) : Value).ownBlock) v14 x14_2) ∧ Aside0 (Kd.R (Kd.int .i64) 3 w' w.heap.size (fun k_ => some k_ ≠ ((.slice Ao12 t107.length co12) : Value).ownBlock ∧ some k_ ≠ (v14 : Value).ownBlock) (.slice Ao37 x8_1.length co37) x8_1) ∧ Aside0 (Kd.V (Kd.int .u8) 5 w' w.heap.size (fun k_ => some k_ ≠ ((.slice Ao12 t107.length co12) : Value).ownBlock ∧ some k_ ≠ (v14 : Value).ownBlock ∧ some k_ ≠ ((.slice Ao37 x8_1.length co37) : Value).ownBlock ∧ k_ ≠ gb106) u107002 x107002_1) ∧ Aside0 (w'.heap[gb106]? = some (.cells #[.int .i64 x107000_1, .int .i64 x107001_1, u107002] 93 (0, 0))) ∧ Aside0 (Below w.heap.size w w'))
    case atStart => exact ⟨(y125), (0), aq7, H', ⟨Nat.le_refl _⟩, ⟨aq69⟩, ⟨by (with_reducible repeat (first | apply Kd.R_alloc | apply Kd.R_drewN | apply Kd.R_drew)); exact Kd.R_mono HO127.out (fun _ hk => ⟨hk.1.2, hk.2⟩)⟩, ⟨aq13⟩, ⟨aq90⟩, ⟨aq23⟩, ⟨aq11⟩⟩
    case round =>
     clear H'
     try clear c1
     try clear p1
     try clear q1
     try clear hx1
     try clear c2
     try clear p2
     try clear q2
     try clear hx2
     try clear hf2
     try clear c6
     try clear p6
     try clear c8
     try clear c10
     try clear p11
     try clear q11
     try clear hx11
     try clear c16
     try clear c16b0
     try clear c17
     try clear c17b0
     try clear c18
     try clear c18b0
     try clear c24
     try clear c24b0
     try clear c25
     try clear c25b0
     try clear c26
     try clear c26b0
     try clear p27
     try clear q27
     try clear hx27
     try clear hf27
     try clear hcz20_0
     try clear hcz20_1
     try clear hcz20_2
     try clear hcz31_0
     try clear hcz31_1
     try clear hcz31_2
     try clear hcz33_0
     try clear hcz33_1
     try clear hcz33_2
     try clear hcz9_0
     try clear hcz9_1
     try clear hcz9_2
     try clear hfz20_0
     try clear hfz20_1
     try clear hfz20_2
     try clear hfz31_0
     try clear hfz31_1
     try clear hfz31_2
     try clear hfz33_0
     try clear hfz33_1
     try clear hfz33_2
     try clear hfz9_0
     try clear hfz9_1
     try clear hfz9_2
     try clear hx116_0
     try clear hx118_0
     try clear hx27_0
     try clear p1
     try clear p11
     try clear p116
     try clear p118
     try clear p2
     try clear p27
     try clear q1
     try clear q11
     try clear q116
     try clear q118
     try clear q27
     obtain ⟨x14_2, x54_2, rfl, HA, HK2, HO_7, HO_14, HO_52, HO_107002, BK106, HB⟩ := hrel
     cases gk with
     | zero => exact absurd HA.out (by simp [impl_comesBack.l2])
     | succ k2 =>
      have H := HA.out
      clear HA
      simp only [impl_comesBack.l2] at H
      by_cases c38 : x54_2 < (x8_1.length : Int)
      ·rw [if_pos c38] at H
       have c38b0 := decide_eq_true c38
       clear c38
       by_cases c39 : 0 ≤ x54_2
       ·rw [if_pos c39] at H
        have c39b0 := decide_eq_true c39
        clear c39
        by_cases c40 : x54_2 < (x8_1.length : Int)
        ·rw [if_pos c40] at H
         have c40b0 := decide_eq_true c40
         clear c40
         obtain ⟨t129, A410, H⟩ := Option.bind_eq_some_iff.mp H
         have A41 := am A410
         clear A410
         by_cases c42 : x14_2.length < 17592186044416
         ·rw [if_pos c42] at H
          have LMc42 := am c42
          clear c42
          obtain ⟨y130, hy_⟩ : ∃ y_ : List Int, y_ = (x14_2 ++ [t129]) := ⟨_, rfl⟩
          replace H : (impl_comesBack.l2 k2 t107 y130 x8_1 (x8_1.length : Int) (wrap64 (x54_2 + 1))) = some (r1, r2) := aq4
          have Ny130 := am hy_
          clear hy_
          have H' := am H
          clear H
          have p128 : 0 ≤ (x54_2 : Int) := of_decide_eq_true aq6
          have q128 : x54_2 < (x8_1.length : Int) := of_decide_eq_true aq6
          obtain ⟨ad128, e128, hx128_0⟩ := Kd.at_int (Kd.R_reads' HO_52.out).2.2 x54_2 p128 q128
          cases e128
          replace p128 := eq_true p128
          replace q128 := eq_true q128
          go_wp2_with (first | ((with_reducible refine gate_callee (f := 110) rfl ?_); refine goesL_ (some 61) rfl rfl Tryz.func110 (by kernel_rfl) rfl #[.slice Ao12 t107.length co12, .int .i64 (rd x8_1 x54_2)] rfl aq5 ?_; (with_reducible refine (slices_Index_int_int.calls k2 _ _ t107 (rd x8_1 x54_2) t129 _ ?side1 ?side2 A41.out).mono ?_); (case side1 => exact aq25); (case side2 => exact (Kd.R_reads' HO_7.out).2.1); rintro e w' ⟨rfl, ⟨nd, rfl⟩⟩; refine ⟨_, rfl, ?_⟩) | ((with_reducible refine gate_builtin (b := .append) (xs := #[.tmp 58, .tmp 62]) rfl ?_); at_builtin; refine Kd.R_append (Kd.int .i64) (w0 := w) w.heap.size rfl (.tmp 58) (.tmp 62) 28 3 (.int .i64 0) 8 rfl Tryz.underlying28 info3 rfl (by decide) (by omega) u14 x14_2 t129 [.int .i64 t129] (fun k_ => some k_ ≠ (.slice Ao12 t107.length co12 : Value).ownBlock ∧ some k_ ≠ (.slice (some ad128) x8_1.length co37 : Value).ownBlock) (fun _ => False) rfl rfl ?aP (fun _ hk => hk.elim) ?aF ?aO ?aB ?aS ?aL ?_; (case aP => exact rfl); (case aB => exact aq11); (case aF => exact (fun k_ hk => ⟨Kd.fresh' (Kd.R_lt aq21) k_ hk, Kd.fresh' (Kd.R_lt aq75) k_ hk⟩)); (case aO => exact aq43); (case aS => exact (below_size aq11)); (case aL => have := LMc42.out; omega); intro v131 w43 ho hb hg hat; rw [← Ny130.out] at ho; have n0_ := am (Kd.R_after (ok := (fun k_ => some k_ ≠ (.slice (some ad128) x8_1.length co37 : Value).ownBlock)) aq69 hg hat); have n1_ := am (Kd.R_after (ok := (fun k_ => some k_ ≠ (.slice Ao12 t107.length co12 : Value).ownBlock)) aq75 hg hat); have n2_ := am (Kd.V_afterv (ok := (fun k_ => some k_ ≠ (.slice Ao12 t107.length co12 : Value).ownBlock ∧ some k_ ≠ (.slice (some ad128) x8_1.length co37 : Value).ownBlock ∧ k_ ≠ gb106)) (by (with_reducible repeat (first | apply Kd.V_alloc | apply Kd.V_drewN | apply Kd.V_drew)); exact Kd.V_mono HO_107002.out (fun _ hk => ⟨⟨hk.1, ⟨hk.2.2.1, hk.2.2.2⟩⟩, hk.2.1⟩)) hg hat); have n3_ := am (blk_grown (g := gb106) (o := .cells #[.int .i64 x107000_1, .int .i64 x107001_1, u107002] 93 (0, 0)) aq23 hg (Kd.R_ne HO_14.out BK106.out (by decide))); have n4_ := am (hb); have n5_ := am (ho); clear HO_7; clear HO_52; clear HO_107002; clear BK106; clear HB; clear HO_14; have HO_7 := n0_; have HO_52 := n1_; have HO_107002 := n2_; have BK106 := n3_; have HB := n4_; have HO132 := n5_; clear n0_ n1_ n2_ n3_ n4_ n5_; clear ho hb hg hat))
          go_roundg k2
          case measure => have := HK1.out; have := HK2.out; omega
          case rel => exact ⟨(y130), (wrap64 (x54_2 + 1)), aq7, H', ⟨aq58⟩, ⟨aq69⟩, ⟨by (with_reducible repeat (first | apply Kd.R_alloc | apply Kd.R_drewN | apply Kd.R_drew)); exact HO132.out⟩, ⟨aq75⟩, ⟨aq90⟩, ⟨aq23⟩, ⟨aq11⟩⟩
         ·rw [if_neg c42] at H
          exact absurd H (by simp)
        ·rw [if_neg c40] at H
         exact absurd H (by simp)
       ·rw [if_neg c39] at H
        exact absurd H (by simp)
      ·rw [if_neg c38] at H
       have c38b0 := decide_eq_false c38
       clear c38
       obtain ⟨t133, A440, H⟩ := Option.bind_eq_some_iff.mp H
       have A44 := am A440
       clear A440
       simp only [Option.some.injEq, Prod.mk.injEq] at H
       obtain ⟨rfl, rfl⟩ := H
       obtain ⟨Ao45, co45, eo45⟩ := Kd.R_slice HO_14.out
       subst eo45
       go_wp2_with (first | ((with_reducible refine gate_callee (f := 111) rfl ?_); refine goesL_ (some 67) rfl rfl Tryz.func111 (by kernel_rfl) rfl #[.slice Ao45 x14_2.length co45, .int .i64 (-1)] rfl aq5 ?_; (with_reducible refine (slices_Contains_int_int.calls k2 _ _ x14_2 (-1) t133 _ ?side1 ?side2 A44.out).mono ?_); (case side1 => repeat (first | exact (Kd.R_reads' HO_14.out).2.2 | (with_reducible refine Kd.C_alloc ?_ _) | (with_reducible refine Kd.C_drewN ?_ _) | (with_reducible refine Kd.C_drew ?_))); (case side2 => exact (Kd.R_reads' HO_14.out).2.1); rintro e w' ⟨rfl, ⟨nd, rfl⟩⟩; refine ⟨_, rfl, ?_⟩))
       go_ret2
       exact ⟨_, aq8, by (with_reducible repeat (first | apply Kd.R_alloc | apply Kd.R_drewN | apply Kd.R_drew)); exact Kd.R_mono HO_14.out (fun _ hk => trivial), aq11⟩
end Go.Proofs.YtdffgeoegdkiaaaGreatDoor.F

namespace Go.Proofs.YtdffgeoegdkiaaaGreatDoor.F
open Go.RowKit Go.Proofs.YtdffgeoegdkiaaaGreatDoor Go.Proofs.YtdffgeoegdkiaaaGreatDoorW.PrintWords Go.Proofs.YtdffgeoegdkiaaaGreatDoorW.PrintMore
theorem ite_argZ {α β : Type} (c : Prop) [Decidable c] (f : α → β) (a b : α) : (if c then f a else f b) = f (if c then a else b) := by split <;> rfl
theorem idxTo_succZ (p : Int → Bool) (cs : List Int) (n : Nat) : castsI (idxTo p cs (n + 1)) = if p (cs.getD n 0) = true then castsI (idxTo p cs n) ++ [(n : Int)] else castsI (idxTo p cs n) := by
  unfold idxTo
  rw [List.range_succ, List.filter_append]
  by_cases h : p (cs.getD n 0) = true
  · rw [if_pos h]; simp only [List.filter_cons, h, if_true, List.filter_nil]; rw [casts_app]; rfl
  · rw [if_neg h]; simp only [List.filter_cons, List.filter_nil]; rw [if_neg h, List.append_nil]
theorem idxTo_lenZ (p : Int → Bool) (cs : List Int) (n : Nat) : (idxTo p cs n).length ≤ n := by
  unfold idxTo; refine Nat.le_trans (List.length_filter_le _ _) ?_; simp
theorem ballIdx_l0 {cs : List Int} (hl : cs.length ≤ 1000) : ∀ (d i : Nat), i + d = cs.length → Ev (fun k => impl_tray_indices__impl_isBall.l0 k (castsI (idxTo isBallC cs i)) cs (cs.length : Int) i) (castsI (idxs isBallC cs))
  | 0, i, hi => by
    obtain rfl : i = cs.length := by omega
    refine Ev.step (f := fun _ => some (castsI (idxs isBallC cs))) (fun k => ?_) (Ev.now _)
    rw [impl_tray_indices__impl_isBall.l0, if_neg (by omega), idxTo_all]
  | d + 1, i, hi => by
    have ih := ballIdx_l0 hl d (i + 1) (by omega)
    have hlen : (castsI (idxTo isBallC cs i)).length < 17592186044416 := by rw [castsI_length]; have := idxTo_lenZ isBallC cs i; omega
    have HW : Aside0 (wrap64 ((i : Int) + 1) = ((i + 1 : Nat) : Int)) := ⟨by rw [w64 (by omega) (by omega)]; rfl⟩
    refine Ev.step (fun k => ?_) ih
    rw [impl_tray_indices__impl_isBall.l0, if_pos (by omega), if_pos (by omega), if_pos (by omega), rdN, impl_isBall_is, Option.bind_some, if_pos hlen, HW.out, idxTo_succZ]
    exact ite_argZ _ (fun l => impl_tray_indices__impl_isBall.l0 k l cs (cs.length : Int) ((i + 1 : Nat) : Int)) _ _
theorem ballIdx_ev (a b : Int) {cs : List Int} (hl : cs.length ≤ 1000) : Ev (fun k => impl_tray_indices__impl_isBall.f k a b cs) (castsI (idxs isBallC cs)) := ballIdx_l0 hl cs.length 0 (by omega)
theorem indexI_l0 {cs : List Int} (hl : cs.length ≤ 1000) (c : Int) : ∀ (d i : Nat), i + d = cs.length → (∀ j, j < i → ∀ hj : j < cs.length, cs[j] ≠ c) →
    Ev (fun k => slices_Index_int_int.l0 k cs c (cs.length : Int) i) (if firstAt cs c < cs.length then (firstAt cs c : Int) else -1)
  | 0, i, hi, hn => by
    obtain rfl : i = cs.length := by omega
    rw [first_none (fun j hj => hn j hj hj), if_neg (by omega)]
    refine Ev.step (f := fun _ => some (-1)) (fun k => ?_) (Ev.now _)
    rw [slices_Index_int_int.l0, if_neg (by omega)]
  | d + 1, i, hi, hn => by
    have hlt : i < cs.length := by omega
    have HW : Aside0 (wrap64 ((i : Int) + 1) = ((i + 1 : Nat) : Int)) := ⟨by rw [w64 (by omega) (by omega)]; rfl⟩
    have hrd : rd cs (i : Int) = cs[i] := by unfold rd; rw [Int.toNat_natCast, List.getD_eq_getElem?_getD, List.getElem?_eq_getElem hlt]; rfl
    by_cases he : c = cs[i]
    · rw [first_split hn hlt he.symm, if_pos hlt]
      refine Ev.step (f := fun _ => some (i : Int)) (fun k => ?_) (Ev.now _)
      rw [slices_Index_int_int.l0, if_pos (by omega), if_pos (by omega), if_pos (by omega), hrd, if_pos he]
    · have ih := indexI_l0 hl c d (i + 1) (by omega) (fun j hj hj' => by
        by_cases e : j = i
        · subst e; exact fun h => he h.symm
        · exact hn j (by omega) hj')
      refine Ev.step (fun k => ?_) ih
      rw [slices_Index_int_int.l0, if_pos (by omega), if_pos (by omega), if_pos (by omega), hrd, if_neg he, HW.out]
def indexI (l : List Int) (c : Int) : Int := if firstAt l c < l.length then (firstAt l c : Int) else -1
theorem indexI_ev {l : List Int} (hl : l.length ≤ 1000) (c : Int) : Ev (fun k => slices_Index_int_int.f k l c) (indexI l c) := indexI_l0 hl c l.length 0 (by omega) (fun j hj => by omega)
def lookN (m : List (Nat × Nat)) (k : Nat) : Nat := (m.lookup k).getD 0
theorem lookZ_nat (m : List (Nat × Nat)) (k : Nat) : lookZ (k : Int) m = ((lookN m k : Nat) : Int) := by unfold lookZ lookN; rw [Int.toNat_natCast]
def mixN (m : List (Nat × Nat)) (now : List Nat) (i : Nat) : List Nat := (now.take i).map (lookN m) ++ now.drop i
theorem mixN_length (m : List (Nat × Nat)) (now : List Nat) (i : Nat) : (mixN m now i).length = now.length := by
  unfold mixN; rw [List.length_append, List.length_map, List.length_take, List.length_drop]; omega
theorem mixN_at (m : List (Nat × Nat)) {now : List Nat} {i : Nat} (h : i < now.length) : mixN m now i = (now.take i).map (lookN m) ++ now[i]'h :: now.drop (i + 1) := by
  unfold mixN; rw [List.drop_eq_getElem_cons h]
theorem mixN_rd (m : List (Nat × Nat)) {now : List Nat} {i : Nat} (h : i < now.length) : rd (castsI (mixN m now i)) (i : Int) = ((now[i]'h : Nat) : Int) := by
  have hA : ((now.take i).map (lookN m)).length = i := by rw [List.length_map, List.length_take]; omega
  rw [rdN, mixN_at m h, casts_app, List.getD_eq_getElem?_getD, List.getElem?_append_right (by rw [castsI_length]; omega), castsI_length, hA, Nat.sub_self]
  rfl
theorem mixN_set (m : List (Nat × Nat)) {now : List Nat} {i : Nat} (h : i < now.length) : (castsI (mixN m now i)).set i ((lookN m (now[i]'h) : Nat) : Int) = castsI (mixN m now (i + 1)) := by
  have hA : ((now.take i).map (lookN m)).length = i := by rw [List.length_map, List.length_take]; omega
  rw [mixN_at m h, casts_app, List.set_append_right _ _ (by rw [castsI_length]; omega), castsI_length, hA, Nat.sub_self]
  unfold mixN
  rw [List.take_succ_eq_append_getElem h, List.map_append, List.append_assoc, casts_app]
  rfl
theorem comes_l1 {now : List Nat} (hn : now.length ≤ 1000) (hs : ∀ x ∈ now, x < 65536) {m : List (Nat × Nat)} {x7 x24 cs : List Int} {c x25 x26 a b : Int} {R : List Int × Bool}
    (hend : Ev (fun k => (impl_tray_tilted.f a b cs c).bind fun bt => impl_comesBack.l0 k x7 (castsI (now.map (lookN m))) x24 x25 (wrap64 (x26 + 1)) bt.1 bt.2.1 bt.2.2) R) : ∀ (d i : Nat), i + d = now.length →
    Ev (fun k => impl_comesBack.l1 k x7 (castsI (mixN m now i)) c m x24 x25 x26 (now.length : Int) (i : Int) a b cs) R
  | 0, i, hi => by
    obtain rfl : i = now.length := by omega
    refine Ev.step (fun k => ?_) hend
    rw [impl_comesBack.l1, if_neg (by omega)]
    unfold mixN
    rw [List.take_of_length_le (Nat.le_refl _), List.drop_eq_nil_of_le (Nat.le_refl _), List.append_nil]
  | d + 1, i, hi => by
    have hil : i < now.length := by omega
    have HW : Aside0 (wrap64 ((i : Int) + 1) = ((i + 1 : Nat) : Int)) := ⟨by rw [w64 (by omega) (by omega)]; rfl⟩
    have ih := comes_l1 hn hs hend d (i + 1) (by omega)
    have hx := hs _ (List.getElem_mem hil)
    refine Ev.step (fun k => ?_) ih
    rw [impl_comesBack.l1, if_pos (by omega), if_pos (by omega), if_pos (by rw [castsI_length, mixN_length]; omega), mixN_rd m hil, if_pos (by omega), Int.toNat_natCast, lookZ_nat, mixN_set m hil, HW.out]
section
variable {w h : Nat} (hw : 1 ≤ w ∧ w ≤ 7) (hh : 1 ≤ h ∧ h ≤ 7)
include hw hh
theorem comes_l0 (L : List Int) (hL : L.length < 1000) (hd : ∀ c ∈ L, isDirC c = true) {x7 : List Int} {T : List Nat → List Int × Bool}
    (hend : ∀ now : List Nat, now.length ≤ 1000 → Ev (fun k => impl_comesBack.l2 k x7 [] (castsI now) (now.length : Int) 0) (T now)) : ∀ (n i : Nat) (cs : List Int) (now : List Nat), i + n = L.length → cs.length = w * h → now.Perm (idxs isBallC cs) →
    Ev (fun k => impl_comesBack.l0 k x7 (castsI now) L (L.length : Int) (i : Int) w h cs) (T (nowD w h cs now (dirsL (L.drop i))))
  | 0, i, cs, now, hi, hl, hp => by
    have h49 : w * h ≤ 49 := Nat.mul_le_mul hw.2 hh.2
    have hn : now.length ≤ 1000 := by rw [hp.length_eq]; refine Nat.le_trans (List.length_filter_le _ _) ?_; rw [List.length_range]; omega
    rw [List.drop_eq_nil_of_le (by omega)]
    refine Ev.step (fun k => ?_) (hend now hn)
    rw [impl_comesBack.l0, if_neg (by omega), castsI_length]
  | n + 1, i, cs, now, hi, hl, hp => by
    have hil : i < L.length := by omega
    have h49 : w * h ≤ 49 := Nat.mul_le_mul hw.2 hh.2
    have HW : Aside0 (wrap64 ((i : Int) + 1) = ((i + 1 : Nat) : Int)) := ⟨by rw [w64 (by omega) (by omega)]; rfl⟩
    have hrd : rd L (i : Int) = L[i]'hil := by unfold rd; rw [Int.toNat_natCast, List.getD_eq_getElem?_getD, List.getElem?_eq_getElem hil]; rfl
    have hdir := hd _ (List.getElem_mem hil)
    obtain ⟨q1, q2, q3⟩ := dirB_ix hdir
    have hn : now.length ≤ 1000 := by rw [hp.length_eq]; refine Nat.le_trans (List.length_filter_le _ _) ?_; rw [List.length_range]; omega
    have hs : ∀ x ∈ now, x < 65536 := fun x hx => by
      have := ballAt_lt (mem_balls.1 (hp.mem_iff.1 hx)); omega
    rw [List.drop_eq_getElem_cons hil]
    have ih := comes_l0 L hL hd hend n (i + 1) (tiltD w h (dirIx (L[i]'hil)).toNat cs) (now.map (stepM w h (dirIx (L[i]'hil)).toNat cs)) (by omega) (by rw [tiltD_length]; exact hl) (now_step q2 hl hp)
    have hm : now.map (lookN (mvD w h (dirIx (L[i]'hil)).toNat cs)) = now.map (stepM w h (dirIx (L[i]'hil)).toNat cs) := rfl
    have hslide : impl_slideZ.f w h cs (L[i]'hil) = some (mvD w h (dirIx (L[i]'hil)).toNat cs) := if_pos ⟨gridI_nat hw hh hl, hdir⟩
    have h1 := comes_l1 (x7 := x7) (x24 := L) (cs := cs) (c := L[i]'hil) (x25 := (L.length : Int)) (x26 := (i : Int)) (a := w) (b := h) hn hs (m := mvD w h (dirIx (L[i]'hil)).toNat cs) (R := T (nowD w h (tiltD w h (dirIx (L[i]'hil)).toNat cs) (now.map (stepM w h (dirIx (L[i]'hil)).toNat cs)) (dirsL (L.drop (i + 1)))))
      (Ev.congr (fun k => by rw [impl_tilted_eq hw hh hl hdir, Option.bind_some, HW.out, hm]) ih) now.length 0 (by omega)
    refine Ev.step (fun k => ?_) h1
    rw [impl_comesBack.l0, if_pos (by omega), if_pos (by omega), if_pos (by omega), hrd, hslide, Option.bind_some, castsI_length]
    rfl
end
theorem comes_l2 {b : List Int} (hb : b.length ≤ 1000) {now : List Nat} (hn : now.length ≤ 1000) : ∀ (d i : Nat), i + d = now.length →
    Ev (fun k => impl_comesBack.l2 k b ((now.take i).map fun x : Nat => indexI b (x : Int)) (castsI now) (now.length : Int) (i : Int)) (now.map (fun x : Nat => indexI b (x : Int)), !decide (-1 ∈ now.map fun x : Nat => indexI b (x : Int)))
  | 0, i, hi => by
    obtain rfl : i = now.length := by omega
    rw [List.take_of_length_le (Nat.le_refl _)]
    refine Ev.step (f := fun k => (slices_Contains_int_int.f k (now.map fun x : Nat => indexI b (x : Int)) (-1)).bind fun t => some (now.map (fun x : Nat => indexI b (x : Int)), !t)) (fun k => ?_) (Ev.bind (contains_ev (now.map fun x : Nat => indexI b (x : Int)) (-1) (by rw [List.length_map]; exact hn)) (Ev.now _))
    rw [impl_comesBack.l2, if_neg (by omega)]
  | d + 1, i, hi => by
    have hil : i < now.length := by omega
    have HW : Aside0 (wrap64 ((i : Int) + 1) = ((i + 1 : Nat) : Int)) := ⟨by rw [w64 (by omega) (by omega)]; rfl⟩
    have hrd : rd (castsI now) (i : Int) = ((now[i]'hil : Nat) : Int) := by rw [rdN, List.getD_eq_getElem?_getD, castsI_getD now i hil]; rfl
    have ih := comes_l2 hb hn d (i + 1) (by omega)
    rw [List.take_succ_eq_append_getElem hil, List.map_append] at ih
    have hlen : ((now.take i).map fun x : Nat => indexI b (x : Int)).length < 17592186044416 := by rw [List.length_map, List.length_take]; omega
    refine Ev.step (f := fun k => (slices_Index_int_int.f k b ((now[i]'hil : Nat) : Int)).bind fun t => impl_comesBack.l2 k b ((now.take i).map (fun x : Nat => indexI b (x : Int)) ++ [t]) (castsI now) (now.length : Int) ((i + 1 : Nat) : Int)) (fun k => ?_) (Ev.bind (indexI_ev hb ((now[i]'hil : Nat) : Int)) ih)
    rw [impl_comesBack.l2, if_pos (by omega), if_pos (by omega), if_pos (by rw [castsI_length]; omega), hrd]
    refine congrArg _ (funext fun t => ?_)
    rw [if_pos hlen, HW.out]
def permZ (w h : Nat) (cs : List Int) (ds : List Nat) : List Int := (nowB w h cs ds).map fun x : Nat => indexI (castsI (idxs isBallC cs)) (x : Int)
theorem indexI_casts (l : List Nat) (x : Nat) : indexI (castsI l) (x : Int) = if l.contains x = true then ((l.findIdx (· == x) : Nat) : Int) else -1 := by
  have hf : firstAt (castsI l) (x : Int) = l.findIdx (· == x) := by
    unfold firstAt castsI
    rw [List.findIdx_map]
    congr 1
    funext y
    show ((y : Int) == (x : Int)) = (y == x)
    rw [Bool.eq_iff_iff, beq_iff_eq, beq_iff_eq]
    omega
  unfold indexI
  rw [hf, castsI_length]
  by_cases hc : l.contains x = true
  · rw [if_pos hc, if_pos]
    rw [List.findIdx_lt_length]
    exact ⟨x, by simpa using hc, beq_self_eq_true _⟩
  · rw [if_neg hc, if_neg]
    rw [List.findIdx_lt_length]
    rintro ⟨y, hy, he⟩
    rw [beq_iff_eq] at he
    subst he
    exact hc (by simpa using hy)
theorem permZ_flag (w h : Nat) (cs : List Int) (ds : List Nat) : (!decide (-1 ∈ permZ w h cs ds)) = comesD w h cs ds := by
  rw [Bool.eq_iff_iff, Bool.not_eq_true', decide_eq_false_iff_not]
  unfold permZ comesD
  rw [List.all_eq_true]
  constructor
  · intro hno k hk
    by_cases hc : (idxs isBallC cs).contains k = true
    · exact hc
    · exact absurd (List.mem_map.2 ⟨k, hk, by rw [indexI_casts, if_neg hc]⟩) hno
  · intro hall hm
    obtain ⟨k, hk, he⟩ := List.mem_map.1 hm
    rw [indexI_casts, if_pos (hall k hk)] at he
    omega
theorem comes_ev {t wd : ByteArray} {w h : Nat} {cs : List Int} (hg : tyGrid (bytesOf t) = some (w, h, cs)) (hs : isWordB (bytesOf wd) = true) : Ev (fun k => impl_comesBack.f k t wd) (permZ w h cs (wordD wd), comesD w h cs (wordD wd)) := by
  obtain ⟨hw, hh, hl, _⟩ := tyGrid_some hg
  obtain ⟨h1, h2⟩ := (isWordB_iff _).1 hs
  have hz := word_size hs
  have h49 : w * h ≤ 49 := Nat.mul_le_mul hw.2 hh.2
  have hb : (idxs isBallC cs).length ≤ 49 := by refine Nat.le_trans (List.length_filter_le _ _) ?_; rw [List.length_range]; omega
  have h0 := comes_l0 (w := w) (h := h) hw hh (bytesOf wd) (by omega) h2 (x7 := castsI (idxs isBallC cs)) (T := fun now => (now.map (fun x : Nat => indexI (castsI (idxs isBallC cs)) (x : Int)), !decide (-1 ∈ now.map fun x : Nat => indexI (castsI (idxs isBallC cs)) (x : Int))))
    (fun now hn => comes_l2 (b := castsI (idxs isBallC cs)) (by rw [castsI_length]; omega) hn now.length 0 (by omega)) (bytesOf wd).length 0 cs (idxs isBallC cs) (by omega) hl (List.Perm.refl _)
  have hR : ((nowD w h cs (idxs isBallC cs) (dirsL ((bytesOf wd).drop 0))).map (fun x : Nat => indexI (castsI (idxs isBallC cs)) (x : Int)), !decide (-1 ∈ (nowD w h cs (idxs isBallC cs) (dirsL ((bytesOf wd).drop 0))).map fun x : Nat => indexI (castsI (idxs isBallC cs)) (x : Int))) = (permZ w h cs (wordD wd), comesD w h cs (wordD wd)) := by
    rw [List.drop_zero]
    exact Prod.ext rfl (permZ_flag w h cs (wordD wd))
  rw [hR] at h0
  unfold impl_comesBack.f
  refine Ev.congr (fun k => by rw [impl_read_eq t hg, Option.bind_some]) (Ev.bind (ballIdx_ev (w : Int) (h : Int) (cs := cs) (by omega)) ?_)
  refine Ev.congr (fun k => ?_) h0
  rw [slices_Clone_int.f, if_pos (by rw [castsI_length]; omega), Option.bind_some, conv_bytes.f, if_pos (by omega), Option.bind_some]
  rfl
end Go.Proofs.YtdffgeoegdkiaaaGreatDoor.F

namespace Go.Proofs.YtdffgeoegdkiaaaGreatDoor.F
open Go.Proofs.YtdffgeoegdkiaaaGreatDoor
open Go.RowKit Go.Proofs.YtdffgeoegdkiaaaGreatDoorW.PrintWords Go.Proofs.YtdffgeoegdkiaaaGreatDoorW.PrintLast Go.Proofs.YtdffgeoegdkiaaaGreatDoorW.PrintMore
attribute [local go_sem] max2_int min2_int max_two min_two max_three min_three max_four min_four
def spec_mcBack.l0 : Nat → List Int → Int → Int → Int → Int → List Int → Option (Int × Int × List Int × Bool)
 | 0, _, _, _, _, _, _ => none
 | k + 1, x13, x14, x15, x109000, x109001, x109002 => if x15 < x14 then (if 0 ≤ x15 then (if x15 < (x13.length : Int) then ((spec_tyBall.f (rd x13 x15)).bind fun t110 => (if x15 < (x109002.length : Int) then ((spec_tyBall.f (rd x109002 x15)).bind fun t112 => (if (t110 != t112) = true then (some (x109000, x109001, x109002, false)) else (spec_mcBack.l0 k x13 x14 (wrap64 (x15 + 1)) x109000 x109001 x109002))) else (none))) else (none)) else (none)) else (some (x109000, x109001, x109002, true))
def spec_mcBack.f (k : Nat) (a0_0 : Int) (a0_1 : Int) (l0_2 : List Int) (a1 : ByteArray) : Option (Int × Int × List Int × Bool) := (spec_tiRun.f k a0_0 a0_1 l0_2 a1).bind fun bt103 => (spec_mcBack.l0 k l0_2 (l0_2.length : Int) 0 bt103.1 bt103.2.1 bt103.2.2)
theorem spec_mcBack.mono_l : ∀ k, (∀ y0 y1 y2 y3 y4 y5, LeO (spec_mcBack.l0 k y0 y1 y2 y3 y4 y5) (spec_mcBack.l0 (k + 1) y0 y1 y2 y3 y4 y5))
 | 0 => fun _ _ _ _ _ _ r h => by simp [spec_mcBack.l0] at h
 | k + 1 => by
  have ih0 := spec_mcBack.mono_l k
  ·intro y0 y1 y2 y3 y4 y5
   unfold spec_mcBack.l0
   have im0 := @spec_tiRun.mono; exact mo
theorem spec_mcBack.mono : ∀ a0 a1 a2 a3 k, LeO (spec_mcBack.f k a0 a1 a2 a3) (spec_mcBack.f (k + 1) a0 a1 a2 a3) := by
 intro a0 a1 a2 a3 k
 have ih0 := spec_mcBack.mono_l k
 unfold spec_mcBack.f
 have im0 := @spec_tiRun.mono; exact mo
set_option maxHeartbeats 8000000 in
set_option maxRecDepth 100000 in
theorem spec_mcBack.calls (k : Nat) (a0_0 : Int) (a0_1 : Int) (P0_2_ : Nat → Prop) (A0_2 : Option Addr) (c0_2 : Nat) (l0_2 : List Int) (a1 : ByteArray) (r1 : Int) (r2 : Int) (r3 : List Int) (r4 : Bool) (w : World) (hs0_2 : Kd.V (Kd.int .u8) 5 w w.heap.size (fun k_ => P0_2_ k_) (.slice A0_2 l0_2.length c0_2) l0_2) (h : spec_mcBack.f k a0_0 a0_1 l0_2 a1 = some (r1, r2, r3, r4)) :
  Calls Tryz.prog 54 #[.agg #[.int .i64 a0_0, .int .i64 a0_1, .slice A0_2 l0_2.length c0_2], .string a1] w fun e w' => ∃ v2_ : Value, e = .returned (.tuple #[.agg #[.int .i64 r1, .int .i64 r2, v2_], .bool r4]) ∧ Kd.V (Kd.int .u8) 5 w' w.heap.size (fun k_ => (P0_2_ k_ ∨ w.heap.size ≤ k_)) v2_ r3 ∧ Below w.heap.size w w' := by
 have hu62 := Tryz.underlying62
 have HO0_2 := am (show Kd.V (Kd.int .u8) 5 w w.heap.size (fun k_ => (P0_2_ k_ ∨ w.heap.size ≤ k_)) (.slice A0_2 l0_2.length c0_2) l0_2 from Kd.V_mono hs0_2 (fun k_ hk => .inl hk))
 have HB := am (Below.refl w.heap.size w)
 have H : ((spec_tiRun.f k a0_0 a0_1 l0_2 a1).bind fun bt103 => (spec_mcBack.l0 k l0_2 (l0_2.length : Int) 0 bt103.1 bt103.2.1 bt103.2.2)) = some (r1, r2, r3, r4) := h
 clear h
 replace H := Option.bind_eq_some_iff.mp H
 obtain ⟨⟨t103, t104, t105⟩, A30, H⟩ := H
 replace H : (spec_mcBack.l0 k l0_2 (l0_2.length : Int) 0 t103 t104 t105) = some (r1, r2, r3, r4) := H
 have A3 := am A30
 clear A30
 have H' := am H
 clear H
 go_enter Tryz.func54, Tryz.ntmps54
 go_wp2_with (first | ((with_reducible refine gate_dst (N := 2) rfl ?_); refine box_event ?hg (N := 2) ?hd (cs := #[.int .i64 a0_0, .int .i64 a0_1, .slice A0_2 l0_2.length c0_2]) (t := 62) ?hr ?_; (case hd => rfl); (case hg => rfl); (case hr => exact aq15); intro gb101 hg w4 hbox hb; have n0_ := am (Kd.V_below (Kd.V_elderB aq20 gb101 (Nat.le_of_eq hg.symm)) hb); have n1_ := am (below_step aq1 hb); have n2_ := am (hbox); have n3_ := am ((by rw [hg]; exact (below_size aq1) : w.heap.size ≤ gb101)); have n4_ := am ((by rw [hg]; exact (below_size aq1) : w.heap.size ≤ gb101)); clear HO0_2; clear HB; have HO0_2 := n0_; have HB := n1_; have BK101 := n2_; have GW101 := n3_; have GE101 := n4_; clear n0_ n1_ n2_ n3_ n4_; clear hb hbox hg) | ((with_reducible refine gate_dst (N := 4) rfl ?_); refine box_event ?hg (N := 4) ?hd (cs := #[.int .i64 0, .int .i64 0, .slice none 0 0]) (t := 62) ?hr ?_; (case hd => rfl); (case hg => rfl); (case hr => exact aq15); intro gb102 hg w5 hbox hb; have n0_ := am (Kd.V_below (Kd.V_elderB aq20 gb102 (Nat.le_of_eq hg.symm)) hb); have n1_ := am (blk_below (g := gb101) (o := .cells #[.int .i64 a0_0, .int .i64 a0_1, .slice A0_2 l0_2.length c0_2] 62 (0, 0)) aq2 hb); have n2_ := am (below_step aq0 hb); have n3_ := am (hbox); have n4_ := am ((by rw [hg]; exact (below_size aq0) : w.heap.size ≤ gb102)); have n5_ := am ((by rw [hg]; exact (below_size aq0) : w.heap.size ≤ gb102)); have n6_ := am ((by rw [hg]; exact Nat.ne_of_lt (blk_lt (g := gb101) (o := .cells #[.int .i64 a0_0, .int .i64 a0_1, .slice A0_2 l0_2.length c0_2] 62 (0, 0)) aq2) : gb101 ≠ gb102)); have n7_ := am ((by rw [hg]; exact Nat.ne_of_gt (blk_lt (g := gb101) (o := .cells #[.int .i64 a0_0, .int .i64 a0_1, .slice A0_2 l0_2.length c0_2] 62 (0, 0)) aq2) : gb102 ≠ gb101)); clear HO0_2; clear BK101; clear HB; have HO0_2 := n0_; have BK101 := n1_; have HB := n2_; have BK102 := n3_; have GW102 := n4_; have GE102 := n5_; have NB101_102 := n6_; have NB102_101 := n7_; clear n0_ n1_ n2_ n3_ n4_ n5_ n6_ n7_; clear hb hbox hg; have hnb6 := NB101_102.out; have hnc6 := NB102_101.out; obtain ⟨hcz7_0, hcz7_1, hcz7_2, hfz7_0, hfz7_1, hfz7_2⟩ := blk3_ BK101.out) | (go_at_call 99; (with_reducible refine (spec_tiRun.calls k a0_0 a0_1 (fun k_ => (((P0_2_ k_ ∨ w.heap.size ≤ k_) ∧ k_ ≠ gb101) ∧ k_ ≠ gb102)) _ _ l0_2 a1 t103 t104 t105 _ ?side1 A3.out).mono ?_); (case side1 => exact HO0_2.out); rintro e w8 ⟨v106, rfl, ho0, hb⟩; have n0_ := am (Kd.V_below aq20 hb); have n1_ := am (Kd.V_lower (Kd.V_mono (ok' := fun k_ => (P0_2_ k_ ∨ w.heap.size ≤ k_) ∧ k_ ≠ gb101 ∧ k_ ≠ gb102) ho0 (fun k_ hk_ => ⟨Or.elim hk_ (fun hs_ => hs_.1.1) (fun hn_ => (.inr (Nat.le_trans (below_size aq3) hn_))), Or.elim hk_ (fun hs_ => hs_.1.2) (fun hn_ => (Kd.freshB (g := gb101) (o := .cells #[.int .i64 a0_0, .int .i64 a0_1, .slice A0_2 l0_2.length c0_2] 62 (0, 0)) aq2 k_ hn_)), Or.elim hk_ (fun hs_ => hs_.2) (fun hn_ => (Kd.freshB (g := gb102) (o := .cells #[.int .i64 0, .int .i64 0, .slice none 0 0] 62 (0, 0)) aq9 k_ hn_))⟩)) (below_size aq3)); have n2_ := am (blk_below (g := gb101) (o := .cells #[.int .i64 a0_0, .int .i64 a0_1, .slice A0_2 l0_2.length c0_2] 62 (0, 0)) aq2 hb); have n3_ := am (blk_below (g := gb102) (o := .cells #[.int .i64 0, .int .i64 0, .slice none 0 0] 62 (0, 0)) aq9 hb); have n4_ := am (below_step aq3 hb); clear HO0_2; clear BK101; clear BK102; clear HB; have HO0_2 := n0_; have HO107 := n1_; have BK101 := n2_; have BK102 := n3_; have HB := n4_; clear n0_ n1_ n2_ n3_ n4_; (try clear hb); (try clear hb2); (try clear hk); (try clear hi); (try clear ho0)) | ((with_reducible refine gate_dst (N := 6) rfl ?_); refine box_event ?hg (N := 6) ?hd (cs := #[.int .i64 0, .int .i64 0, .slice none 0 0]) (t := 62) ?hr ?_; (case hd => rfl); (case hg => rfl); (case hr => exact aq15); intro gb108 hg w9 hbox hb; have n0_ := am (Kd.V_below (Kd.V_elderB aq20 gb108 (Nat.le_of_eq hg.symm)) hb); have n1_ := am (Kd.V_below (Kd.V_elderB aq73 gb108 (Nat.le_of_eq hg.symm)) hb); have n2_ := am (blk_below (g := gb101) (o := .cells #[.int .i64 a0_0, .int .i64 a0_1, .slice A0_2 l0_2.length c0_2] 62 (0, 0)) aq2 hb); have n3_ := am (blk_below (g := gb102) (o := .cells #[.int .i64 0, .int .i64 0, .slice none 0 0] 62 (0, 0)) aq9 hb); have n4_ := am (below_step aq3 hb); have n5_ := am (hbox); have n6_ := am ((by rw [hg]; exact (below_size aq3) : w.heap.size ≤ gb108)); have n7_ := am ((by rw [hg]; exact (below_size aq3) : w.heap.size ≤ gb108)); have n8_ := am ((by rw [hg]; exact Nat.ne_of_lt (blk_lt (g := gb101) (o := .cells #[.int .i64 a0_0, .int .i64 a0_1, .slice A0_2 l0_2.length c0_2] 62 (0, 0)) aq2) : gb101 ≠ gb108)); have n9_ := am ((by rw [hg]; exact Nat.ne_of_gt (blk_lt (g := gb101) (o := .cells #[.int .i64 a0_0, .int .i64 a0_1, .slice A0_2 l0_2.length c0_2] 62 (0, 0)) aq2) : gb108 ≠ gb101)); have n10_ := am ((by rw [hg]; exact Nat.ne_of_lt (blk_lt (g := gb102) (o := .cells #[.int .i64 0, .int .i64 0, .slice none 0 0] 62 (0, 0)) aq9) : gb102 ≠ gb108)); have n11_ := am ((by rw [hg]; exact Nat.ne_of_gt (blk_lt (g := gb102) (o := .cells #[.int .i64 0, .int .i64 0, .slice none 0 0] 62 (0, 0)) aq9) : gb108 ≠ gb102)); clear HO0_2; clear HO107; clear BK101; clear BK102; clear HB; have HO0_2 := n0_; have HO107 := n1_; have BK101 := n2_; have BK102 := n3_; have HB := n4_; have BK108 := n5_; have GW108 := n6_; have GE108 := n7_; have NB101_108 := n8_; have NB108_101 := n9_; have NB102_108 := n10_; have NB108_102 := n11_; clear n0_ n1_ n2_ n3_ n4_ n5_ n6_ n7_ n8_ n9_ n10_ n11_; clear hb hbox hg; have hnb10 := NB108_101.out; have hnc10 := NB101_108.out; have hnb11 := NB108_102.out; have hnc11 := NB102_108.out; obtain ⟨hcz12_0, hcz12_1, hcz12_2, hfz12_0, hfz12_1, hfz12_2⟩ := blk3_ BK108.out; obtain ⟨Ao13, co13, eo13⟩ := Kd.V_slice HO107.out; subst eo13; obtain ⟨hcz14_0, hcz14_1, hcz14_2, hfz14_0, hfz14_1, hfz14_2⟩ := blk3_ BK101.out))
 repeat (go_quiet (first | ((with_reducible refine gate_dst (N := 2) rfl ?_); refine box_event ?hg (N := 2) ?hd (cs := #[.int .i64 a0_0, .int .i64 a0_1, .slice A0_2 l0_2.length c0_2]) (t := 62) ?hr ?_; (case hd => rfl); (case hg => rfl); (case hr => exact aq15); intro gb101 hg w4 hbox hb; have n0_ := am (Kd.V_below (Kd.V_elderB aq20 gb101 (Nat.le_of_eq hg.symm)) hb); have n1_ := am (below_step aq1 hb); have n2_ := am (hbox); have n3_ := am ((by rw [hg]; exact (below_size aq1) : w.heap.size ≤ gb101)); have n4_ := am ((by rw [hg]; exact (below_size aq1) : w.heap.size ≤ gb101)); clear HO0_2; clear HB; have HO0_2 := n0_; have HB := n1_; have BK101 := n2_; have GW101 := n3_; have GE101 := n4_; clear n0_ n1_ n2_ n3_ n4_; clear hb hbox hg) | ((with_reducible refine gate_dst (N := 4) rfl ?_); refine box_event ?hg (N := 4) ?hd (cs := #[.int .i64 0, .int .i64 0, .slice none 0 0]) (t := 62) ?hr ?_; (case hd => rfl); (case hg => rfl); (case hr => exact aq15); intro gb102 hg w5 hbox hb; have n0_ := am (Kd.V_below (Kd.V_elderB aq20 gb102 (Nat.le_of_eq hg.symm)) hb); have n1_ := am (blk_below (g := gb101) (o := .cells #[.int .i64 a0_0, .int .i64 a0_1, .slice A0_2 l0_2.length c0_2] 62 (0, 0)) aq2 hb); have n2_ := am (below_step aq0 hb); have n3_ := am (hbox); have n4_ := am ((by rw [hg]; exact (below_size aq0) : w.heap.size ≤ gb102)); have n5_ := am ((by rw [hg]; exact (below_size aq0) : w.heap.size ≤ gb102)); have n6_ := am ((by rw [hg]; exact Nat.ne_of_lt (blk_lt (g := gb101) (o := .cells #[.int .i64 a0_0, .int .i64 a0_1, .slice A0_2 l0_2.length c0_2] 62 (0, 0)) aq2) : gb101 ≠ gb102)); have n7_ := am ((by rw [hg]; exact Nat.ne_of_gt (blk_lt (g := gb101) (o := .cells #[.int .i64 a0_0, .int .i64 a0_1, .slice A0_2 l0_2.length c0_2] 62 (0, 0)) aq2) : gb102 ≠ gb101)); clear HO0_2; clear BK101; clear HB; have HO0_2 := n0_; have BK101 := n1_; have HB := n2_; have BK102 := n3_; have GW102 := n4_; have GE102 := n5_; have NB101_102 := n6_; have NB102_101 := n7_; clear n0_ n1_ n2_ n3_ n4_ n5_ n6_ n7_; clear hb hbox hg; have hnb6 := NB101_102.out; have hnc6 := NB102_101.out; obtain ⟨hcz7_0, hcz7_1, hcz7_2, hfz7_0, hfz7_1, hfz7_2⟩ := blk3_ BK101.out) | (go_at_call 99; (with_reducible refine (spec_tiRun.calls k a0_0 a0_1 (fun k_ => (((P0_2_ k_ ∨ w.heap.size ≤ k_) ∧ k_ ≠ gb101) ∧ k_ ≠ gb102)) _ _ l0_2 a1 t103 t104 t105 _ ?side1 A3.out).mono ?_); (case side1 => exact HO0_2.out); rintro e w8 ⟨v106, rfl, ho0, hb⟩; have n0_ := am (Kd.V_below aq20 hb); have n1_ := am (Kd.V_lower (Kd.V_mono (ok' := fun k_ => (P0_2_ k_ ∨ w.heap.size ≤ k_) ∧ k_ ≠ gb101 ∧ k_ ≠ gb102) ho0 (fun k_ hk_ => ⟨Or.elim hk_ (fun hs_ => hs_.1.1) (fun hn_ => (.inr (Nat.le_trans (below_size aq3) hn_))), Or.elim hk_ (fun hs_ => hs_.1.2) (fun hn_ => (Kd.freshB (g := gb101) (o := .cells #[.int .i64 a0_0, .int .i64 a0_1, .slice A0_2 l0_2.length c0_2] 62 (0, 0)) aq2 k_ hn_)), Or.elim hk_ (fun hs_ => hs_.2) (fun hn_ => (Kd.freshB (g := gb102) (o := .cells #[.int .i64 0, .int .i64 0, .slice none 0 0] 62 (0, 0)) aq9 k_ hn_))⟩)) (below_size aq3)); have n2_ := am (blk_below (g := gb101) (o := .cells #[.int .i64 a0_0, .int .i64 a0_1, .slice A0_2 l0_2.length c0_2] 62 (0, 0)) aq2 hb); have n3_ := am (blk_below (g := gb102) (o := .cells #[.int .i64 0, .int .i64 0, .slice none 0 0] 62 (0, 0)) aq9 hb); have n4_ := am (below_step aq3 hb); clear HO0_2; clear BK101; clear BK102; clear HB; have HO0_2 := n0_; have HO107 := n1_; have BK101 := n2_; have BK102 := n3_; have HB := n4_; clear n0_ n1_ n2_ n3_ n4_; (try clear hb); (try clear hb2); (try clear hk); (try clear hi); (try clear ho0)) | ((with_reducible refine gate_dst (N := 6) rfl ?_); refine box_event ?hg (N := 6) ?hd (cs := #[.int .i64 0, .int .i64 0, .slice none 0 0]) (t := 62) ?hr ?_; (case hd => rfl); (case hg => rfl); (case hr => exact aq15); intro gb108 hg w9 hbox hb; have n0_ := am (Kd.V_below (Kd.V_elderB aq20 gb108 (Nat.le_of_eq hg.symm)) hb); have n1_ := am (Kd.V_below (Kd.V_elderB aq73 gb108 (Nat.le_of_eq hg.symm)) hb); have n2_ := am (blk_below (g := gb101) (o := .cells #[.int .i64 a0_0, .int .i64 a0_1, .slice A0_2 l0_2.length c0_2] 62 (0, 0)) aq2 hb); have n3_ := am (blk_below (g := gb102) (o := .cells #[.int .i64 0, .int .i64 0, .slice none 0 0] 62 (0, 0)) aq9 hb); have n4_ := am (below_step aq3 hb); have n5_ := am (hbox); have n6_ := am ((by rw [hg]; exact (below_size aq3) : w.heap.size ≤ gb108)); have n7_ := am ((by rw [hg]; exact (below_size aq3) : w.heap.size ≤ gb108)); have n8_ := am ((by rw [hg]; exact Nat.ne_of_lt (blk_lt (g := gb101) (o := .cells #[.int .i64 a0_0, .int .i64 a0_1, .slice A0_2 l0_2.length c0_2] 62 (0, 0)) aq2) : gb101 ≠ gb108)); have n9_ := am ((by rw [hg]; exact Nat.ne_of_gt (blk_lt (g := gb101) (o := .cells #[.int .i64 a0_0, .int .i64 a0_1, .slice A0_2 l0_2.length c0_2] 62 (0, 0)) aq2) : gb108 ≠ gb101)); have n10_ := am ((by rw [hg]; exact Nat.ne_of_lt (blk_lt (g := gb102) (o := .cells #[.int .i64 0, .int .i64 0, .slice none 0 0] 62 (0, 0)) aq9) : gb102 ≠ gb108)); have n11_ := am ((by rw [hg]; exact Nat.ne_of_gt (blk_lt (g := gb102) (o := .cells #[.int .i64 0, .int .i64 0, .slice none 0 0] 62 (0, 0)) aq9) : gb108 ≠ gb102)); clear HO0_2; clear HO107; clear BK101; clear BK102; clear HB; have HO0_2 := n0_; have HO107 := n1_; have BK101 := n2_; have BK102 := n3_; have HB := n4_; have BK108 := n5_; have GW108 := n6_; have GE108 := n7_; have NB101_108 := n8_; have NB108_101 := n9_; have NB102_108 := n10_; have NB108_102 := n11_; clear n0_ n1_ n2_ n3_ n4_ n5_ n6_ n7_ n8_ n9_ n10_ n11_; clear hb hbox hg; have hnb10 := NB108_101.out; have hnc10 := NB101_108.out; have hnb11 := NB108_102.out; have hnc11 := NB102_108.out; obtain ⟨hcz12_0, hcz12_1, hcz12_2, hfz12_0, hfz12_1, hfz12_2⟩ := blk3_ BK108.out; obtain ⟨Ao13, co13, eo13⟩ := Kd.V_slice HO107.out; subst eo13; obtain ⟨hcz14_0, hcz14_1, hcz14_2, hfz14_0, hfz14_1, hfz14_2⟩ := blk3_ BK101.out)); try go_wp2_with (first | ((with_reducible refine gate_dst (N := 2) rfl ?_); refine box_event ?hg (N := 2) ?hd (cs := #[.int .i64 a0_0, .int .i64 a0_1, .slice A0_2 l0_2.length c0_2]) (t := 62) ?hr ?_; (case hd => rfl); (case hg => rfl); (case hr => exact aq15); intro gb101 hg w4 hbox hb; have n0_ := am (Kd.V_below (Kd.V_elderB aq20 gb101 (Nat.le_of_eq hg.symm)) hb); have n1_ := am (below_step aq1 hb); have n2_ := am (hbox); have n3_ := am ((by rw [hg]; exact (below_size aq1) : w.heap.size ≤ gb101)); have n4_ := am ((by rw [hg]; exact (below_size aq1) : w.heap.size ≤ gb101)); clear HO0_2; clear HB; have HO0_2 := n0_; have HB := n1_; have BK101 := n2_; have GW101 := n3_; have GE101 := n4_; clear n0_ n1_ n2_ n3_ n4_; clear hb hbox hg) | ((with_reducible refine gate_dst (N := 4) rfl ?_); refine box_event ?hg (N := 4) ?hd (cs := #[.int .i64 0, .int .i64 0, .slice none 0 0]) (t := 62) ?hr ?_; (case hd => rfl); (case hg => rfl); (case hr => exact aq15); intro gb102 hg w5 hbox hb; have n0_ := am (Kd.V_below (Kd.V_elderB aq20 gb102 (Nat.le_of_eq hg.symm)) hb); have n1_ := am (blk_below (g := gb101) (o := .cells #[.int .i64 a0_0, .int .i64 a0_1, .slice A0_2 l0_2.length c0_2] 62 (0, 0)) aq2 hb); have n2_ := am (below_step aq0 hb); have n3_ := am (hbox); have n4_ := am ((by rw [hg]; exact (below_size aq0) : w.heap.size ≤ gb102)); have n5_ := am ((by rw [hg]; exact (below_size aq0) : w.heap.size ≤ gb102)); have n6_ := am ((by rw [hg]; exact Nat.ne_of_lt (blk_lt (g := gb101) (o := .cells #[.int .i64 a0_0, .int .i64 a0_1, .slice A0_2 l0_2.length c0_2] 62 (0, 0)) aq2) : gb101 ≠ gb102)); have n7_ := am ((by rw [hg]; exact Nat.ne_of_gt (blk_lt (g := gb101) (o := .cells #[.int .i64 a0_0, .int .i64 a0_1, .slice A0_2 l0_2.length c0_2] 62 (0, 0)) aq2) : gb102 ≠ gb101)); clear HO0_2; clear BK101; clear HB; have HO0_2 := n0_; have BK101 := n1_; have HB := n2_; have BK102 := n3_; have GW102 := n4_; have GE102 := n5_; have NB101_102 := n6_; have NB102_101 := n7_; clear n0_ n1_ n2_ n3_ n4_ n5_ n6_ n7_; clear hb hbox hg; have hnb6 := NB101_102.out; have hnc6 := NB102_101.out; obtain ⟨hcz7_0, hcz7_1, hcz7_2, hfz7_0, hfz7_1, hfz7_2⟩ := blk3_ BK101.out) | (go_at_call 99; (with_reducible refine (spec_tiRun.calls k a0_0 a0_1 (fun k_ => (((P0_2_ k_ ∨ w.heap.size ≤ k_) ∧ k_ ≠ gb101) ∧ k_ ≠ gb102)) _ _ l0_2 a1 t103 t104 t105 _ ?side1 A3.out).mono ?_); (case side1 => exact HO0_2.out); rintro e w8 ⟨v106, rfl, ho0, hb⟩; have n0_ := am (Kd.V_below aq20 hb); have n1_ := am (Kd.V_lower (Kd.V_mono (ok' := fun k_ => (P0_2_ k_ ∨ w.heap.size ≤ k_) ∧ k_ ≠ gb101 ∧ k_ ≠ gb102) ho0 (fun k_ hk_ => ⟨Or.elim hk_ (fun hs_ => hs_.1.1) (fun hn_ => (.inr (Nat.le_trans (below_size aq3) hn_))), Or.elim hk_ (fun hs_ => hs_.1.2) (fun hn_ => (Kd.freshB (g := gb101) (o := .cells #[.int .i64 a0_0, .int .i64 a0_1, .slice A0_2 l0_2.length c0_2] 62 (0, 0)) aq2 k_ hn_)), Or.elim hk_ (fun hs_ => hs_.2) (fun hn_ => (Kd.freshB (g := gb102) (o := .cells #[.int .i64 0, .int .i64 0, .slice none 0 0] 62 (0, 0)) aq9 k_ hn_))⟩)) (below_size aq3)); have n2_ := am (blk_below (g := gb101) (o := .cells #[.int .i64 a0_0, .int .i64 a0_1, .slice A0_2 l0_2.length c0_2] 62 (0, 0)) aq2 hb); have n3_ := am (blk_below (g := gb102) (o := .cells #[.int .i64 0, .int .i64 0, .slice none 0 0] 62 (0, 0)) aq9 hb); have n4_ := am (below_step aq3 hb); clear HO0_2; clear BK101; clear BK102; clear HB; have HO0_2 := n0_; have HO107 := n1_; have BK101 := n2_; have BK102 := n3_; have HB := n4_; clear n0_ n1_ n2_ n3_ n4_; (try clear hb); (try clear hb2); (try clear hk); (try clear hi); (try clear ho0)) | ((with_reducible refine gate_dst (N := 6) rfl ?_); refine box_event ?hg (N := 6) ?hd (cs := #[.int .i64 0, .int .i64 0, .slice none 0 0]) (t := 62) ?hr ?_; (case hd => rfl); (case hg => rfl); (case hr => exact aq15); intro gb108 hg w9 hbox hb; have n0_ := am (Kd.V_below (Kd.V_elderB aq20 gb108 (Nat.le_of_eq hg.symm)) hb); have n1_ := am (Kd.V_below (Kd.V_elderB aq73 gb108 (Nat.le_of_eq hg.symm)) hb); have n2_ := am (blk_below (g := gb101) (o := .cells #[.int .i64 a0_0, .int .i64 a0_1, .slice A0_2 l0_2.length c0_2] 62 (0, 0)) aq2 hb); have n3_ := am (blk_below (g := gb102) (o := .cells #[.int .i64 0, .int .i64 0, .slice none 0 0] 62 (0, 0)) aq9 hb); have n4_ := am (below_step aq3 hb); have n5_ := am (hbox); have n6_ := am ((by rw [hg]; exact (below_size aq3) : w.heap.size ≤ gb108)); have n7_ := am ((by rw [hg]; exact (below_size aq3) : w.heap.size ≤ gb108)); have n8_ := am ((by rw [hg]; exact Nat.ne_of_lt (blk_lt (g := gb101) (o := .cells #[.int .i64 a0_0, .int .i64 a0_1, .slice A0_2 l0_2.length c0_2] 62 (0, 0)) aq2) : gb101 ≠ gb108)); have n9_ := am ((by rw [hg]; exact Nat.ne_of_gt (blk_lt (g := gb101) (o := .cells #[.int .i64 a0_0, .int .i64 a0_1, .slice A0_2 l0_2.length c0_2] 62 (0, 0)) aq2) : gb108 ≠ gb101)); have n10_ := am ((by rw [hg]; exact Nat.ne_of_lt (blk_lt (g := gb102) (o := .cells #[.int .i64 0, .int .i64 0, .slice none 0 0] 62 (0, 0)) aq9) : gb102 ≠ gb108)); have n11_ := am ((by rw [hg]; exact Nat.ne_of_gt (blk_lt (g := gb102) (o := .cells #[.int .i64 0, .int .i64 0, .slice none 0 0] 62 (0, 0)) aq9) : gb108 ≠ gb102)); clear HO0_2; clear HO107; clear BK101; clear BK102; clear HB; have HO0_2 := n0_; have HO107 := n1_; have BK101 := n2_; have BK102 := n3_; have HB := n4_; have BK108 := n5_; have GW108 := n6_; have GE108 := n7_; have NB101_108 := n8_; have NB108_101 := n9_; have NB102_108 := n10_; have NB108_102 := n11_; clear n0_ n1_ n2_ n3_ n4_ n5_ n6_ n7_ n8_ n9_ n10_ n11_; clear hb hbox hg; have hnb10 := NB108_101.out; have hnc10 := NB101_108.out; have hnb11 := NB108_102.out; have hnc11 := NB102_108.out; obtain ⟨hcz12_0, hcz12_1, hcz12_2, hfz12_0, hfz12_1, hfz12_2⟩ := blk3_ BK108.out; obtain ⟨Ao13, co13, eo13⟩ := Kd.V_slice HO107.out; subst eo13; obtain ⟨hcz14_0, hcz14_1, hcz14_2, hfz14_0, hfz14_1, hfz14_2⟩ := blk3_ BK101.out)))
 go_loopg [15] k (fun kq v15 w' => ∃ (x15_1 : Int) (x103000_1 : Int) (x103001_1 : Int), v15 = .int .i64 x15_1 ∧ Aside0 (spec_mcBack.l0 kq l0_2 (l0_2.length : Int) x15_1 t103 t104 t105 = some (r1, r2, r3, r4)) ∧ Aside0 (kq ≤ k) ∧ Aside0 (Kd.V (Kd.int .u8) 5 w' w.heap.size (fun k_ => (P0_2_ k_ ∨ w.heap.size ≤ k_) ∧ k_ ≠ gb101 ∧ k_ ≠ gb102 ∧ k_ ≠ gb108) (.slice A0_2 l0_2.length c0_2) l0_2) ∧ Aside0 (Kd.V (Kd.int .u8) 5 w' w.heap.size (fun k_ => (P0_2_ k_ ∨ w.heap.size ≤ k_) ∧ k_ ≠ gb101 ∧ k_ ≠ gb102 ∧ k_ ≠ gb108) (.slice A0_2 l0_2.length c0_2) l0_2) ∧ Aside0 (Kd.V (Kd.int .u8) 5 w' w.heap.size (fun k_ => (P0_2_ k_ ∨ w.heap.size ≤ k_) ∧ k_ ≠ gb101 ∧ k_ ≠ gb102 ∧ k_ ≠ gb108) (.slice Ao13 t105.length co13) t105) ∧ Aside0 (w'.heap[gb101]? = some (.cells #[.int .i64 a0_0, .int .i64 a0_1, (.slice A0_2 l0_2.length c0_2)] 62 (0, 0))) ∧ Aside0 (w'.heap[gb102]? = some (.cells #[.int .i64 x103000_1, .int .i64 x103001_1, (.slice none 0 0)] 62 (0, 0))) ∧ Aside0 (w'.heap[gb108]? = some (.cells #[.int .i64 t103, .int .i64 t104, (.slice Ao13 t105.length co13)] 62 (0, 0))) ∧ Aside0 (Below w.heap.size w w'))
 case atStart => exact ⟨(0), (0), (0), aq7, H', ⟨Nat.le_refl _⟩, ⟨aq47⟩, ⟨aq47⟩, ⟨by (with_reducible repeat (first | apply Kd.V_alloc | apply Kd.V_drewN | apply Kd.V_drew)); exact Kd.V_mono (Kd.V_far (p := ⟨gb108, 2, none⟩) (Kd.V_far (p := ⟨gb108, 1, none⟩) (Kd.V_far (p := ⟨gb108, 0, none⟩) (Kd.V_mono HO107.out (fun k_ hk => (⟨hk, hk.2⟩ : _ ∧ k_ ≠ gb108))) (fun _ hk => hk.2) (.int .i64 t103)) (fun _ hk => hk.2) (.int .i64 t104)) (fun _ hk => hk.2) (.slice Ao13 t105.length co13)) (fun _ hk => ⟨hk.1.1.1, ⟨hk.1.1.2.1, ⟨hk.1.1.2.2, hk.1.2⟩⟩⟩)⟩, ⟨by (with_reducible repeat (first | refine blk_drewN ?_ _ | refine blk_drew ?_ | refine blk_alloc ?_ _)); refine blk_far ?_ NB101_108.out _; (with_reducible repeat (first | refine blk_drewN ?_ _ | refine blk_drew ?_ | refine blk_alloc ?_ _)); refine blk_far ?_ NB101_108.out _; (with_reducible repeat (first | refine blk_drewN ?_ _ | refine blk_drew ?_ | refine blk_alloc ?_ _)); refine blk_far ?_ NB101_108.out _; (with_reducible repeat (first | refine blk_drewN ?_ _ | refine blk_drew ?_ | refine blk_alloc ?_ _)); exact BK101.out⟩, ⟨by (with_reducible repeat (first | refine blk_drewN ?_ _ | refine blk_drew ?_ | refine blk_alloc ?_ _)); refine blk_far ?_ NB102_108.out _; (with_reducible repeat (first | refine blk_drewN ?_ _ | refine blk_drew ?_ | refine blk_alloc ?_ _)); refine blk_far ?_ NB102_108.out _; (with_reducible repeat (first | refine blk_drewN ?_ _ | refine blk_drew ?_ | refine blk_alloc ?_ _)); refine blk_far ?_ NB102_108.out _; (with_reducible repeat (first | refine blk_drewN ?_ _ | refine blk_drew ?_ | refine blk_alloc ?_ _)); exact BK102.out⟩, ⟨by (with_reducible repeat (first | refine blk_drewN ?_ _ | refine blk_drew ?_ | refine blk_alloc ?_ _)); refine blk_put (cs := #[.int .i64 t103, .int .i64 t104, .slice none 0 0]) ?_ 2 _ rfl; (with_reducible repeat (first | refine blk_drewN ?_ _ | refine blk_drew ?_ | refine blk_alloc ?_ _)); refine blk_put (cs := #[.int .i64 t103, .int .i64 0, .slice none 0 0]) ?_ 1 _ rfl; (with_reducible repeat (first | refine blk_drewN ?_ _ | refine blk_drew ?_ | refine blk_alloc ?_ _)); refine blk_put (cs := #[.int .i64 0, .int .i64 0, .slice none 0 0]) ?_ 0 _ rfl; (with_reducible repeat (first | refine blk_drewN ?_ _ | refine blk_drew ?_ | refine blk_alloc ?_ _)); exact BK108.out⟩, ⟨aq31⟩⟩
 case round =>
  clear H'
  try clear c1
  try clear p2
  try clear c5
  try clear c6
  try clear c10
  try clear c11
  try clear hcz12_0
  try clear hcz12_1
  try clear hcz12_2
  try clear hcz14_0
  try clear hcz14_1
  try clear hcz14_2
  try clear hcz7_0
  try clear hcz7_1
  try clear hcz7_2
  try clear hfz12_0
  try clear hfz12_1
  try clear hfz12_2
  try clear hfz14_0
  try clear hfz14_1
  try clear hfz14_2
  try clear hfz7_0
  try clear hfz7_1
  try clear hfz7_2
  obtain ⟨x15_1, x103000_1, x103001_1, rfl, HA, HK1, HO_13, HO_102002, HO_109002, BK101, BK102, BK108, HB⟩ := hrel
  cases gk with
  | zero => exact absurd HA.out (by simp [spec_mcBack.l0])
  | succ k1 =>
   have H := HA.out
   clear HA
   simp only [spec_mcBack.l0] at H
   by_cases c15 : x15_1 < (l0_2.length : Int)
   ·rw [if_pos c15] at H
    have c15b0 := decide_eq_true c15
    clear c15
    by_cases c16 : 0 ≤ x15_1
    ·rw [if_pos c16] at H
     have c16b0 := decide_eq_true c16
     clear c16
     by_cases c17 : x15_1 < (l0_2.length : Int)
     ·rw [if_pos c17] at H
      have c17b0 := decide_eq_true c17
      clear c17
      obtain ⟨t110, A180, H⟩ := Option.bind_eq_some_iff.mp H
      have A18 := am A180
      clear A180
      by_cases c19 : x15_1 < (t105.length : Int)
      ·rw [if_pos c19] at H
       have c19b0 := decide_eq_true c19
       clear c19
       obtain ⟨t112, A200, H⟩ := Option.bind_eq_some_iff.mp H
       have A20 := am A200
       clear A200
       by_cases c21 : (t110 != t112) = true
       ·rw [if_pos c21] at H
        have c21b0 : (t110 != t112) = true := c21
        (try (have c21b1 : decide (t110 = t112) = false := by simpa using c21))
        (try (have c21b2 : (t110 == t112) = false := by simpa using c21))
        (try (have c21b3 : ¬ (t110 = t112) := by simpa using c21))
        clear c21
        simp only [Option.some.injEq, Prod.mk.injEq] at H
        obtain ⟨rfl, rfl, rfl, rfl⟩ := H
        have p109 : 0 ≤ (x15_1 : Int) := of_decide_eq_true aq6
        have q109 : x15_1 < (l0_2.length : Int) := of_decide_eq_true aq6
        obtain ⟨ad109, e109, hx109_0⟩ := Kd.at_int (Kd.V_reads' HO_13.out).2.2 x15_1 p109 q109
        cases e109
        replace p109 := eq_true p109
        replace q109 := eq_true q109
        go_wp2_with (first | (go_at_call 100; (with_reducible refine (spec_tyBall.calls (rd l0_2 x15_1) t110 _ A18.out).mono ?_); rintro e w' ⟨rfl, ⟨nd, rfl⟩⟩; (try first | exact ⟨rfl, _, World.drewN_drewN _ _ _⟩ | exact ⟨rfl, _, Eq.trans (World.drewN_drewN _ _ _) (congrArg (World.drewN _) (Nat.add_assoc _ _ _))⟩); have hnb22 := NB108_101.out; have hnc22 := NB101_108.out; have hnb23 := NB108_102.out; have hnc23 := NB102_108.out; obtain ⟨hcz24_0, hcz24_1, hcz24_2, hfz24_0, hfz24_1, hfz24_2⟩ := blk3_ BK108.out; have p111 : 0 ≤ (x15_1 : Int) := of_decide_eq_true aq6; have q111 : x15_1 < (t105.length : Int) := of_decide_eq_true aq6; obtain ⟨ad111, e111, hx111_0⟩ := Kd.at_int (Kd.V_reads' HO_109002.out).2.2 x15_1 p111 q111; cases e111; replace p111 := eq_true p111; replace q111 := eq_true q111) | (go_at_call 100; (with_reducible refine (spec_tyBall.calls (rd t105 x15_1) t112 _ A20.out).mono ?_); rintro e w' ⟨rfl, ⟨nd, rfl⟩⟩; (try first | exact ⟨rfl, _, World.drewN_drewN _ _ _⟩ | exact ⟨rfl, _, Eq.trans (World.drewN_drewN _ _ _) (congrArg (World.drewN _) (Nat.add_assoc _ _ _))⟩); have hnb25 := NB102_101.out; have hnc25 := NB101_102.out; obtain ⟨hcz26_0, hcz26_1, hcz26_2, hfz26_0, hfz26_1, hfz26_2⟩ := blk3_ BK102.out))
        repeat (go_quiet (first | (go_at_call 100; (with_reducible refine (spec_tyBall.calls (rd l0_2 x15_1) t110 _ A18.out).mono ?_); rintro e w' ⟨rfl, ⟨nd, rfl⟩⟩; (try first | exact ⟨rfl, _, World.drewN_drewN _ _ _⟩ | exact ⟨rfl, _, Eq.trans (World.drewN_drewN _ _ _) (congrArg (World.drewN _) (Nat.add_assoc _ _ _))⟩); have hnb22 := NB108_101.out; have hnc22 := NB101_108.out; have hnb23 := NB108_102.out; have hnc23 := NB102_108.out; obtain ⟨hcz24_0, hcz24_1, hcz24_2, hfz24_0, hfz24_1, hfz24_2⟩ := blk3_ BK108.out; have p111 : 0 ≤ (x15_1 : Int) := of_decide_eq_true aq6; have q111 : x15_1 < (t105.length : Int) := of_decide_eq_true aq6; obtain ⟨ad111, e111, hx111_0⟩ := Kd.at_int (Kd.V_reads' HO_109002.out).2.2 x15_1 p111 q111; cases e111; replace p111 := eq_true p111; replace q111 := eq_true q111) | (go_at_call 100; (with_reducible refine (spec_tyBall.calls (rd t105 x15_1) t112 _ A20.out).mono ?_); rintro e w' ⟨rfl, ⟨nd, rfl⟩⟩; (try first | exact ⟨rfl, _, World.drewN_drewN _ _ _⟩ | exact ⟨rfl, _, Eq.trans (World.drewN_drewN _ _ _) (congrArg (World.drewN _) (Nat.add_assoc _ _ _))⟩); have hnb25 := NB102_101.out; have hnc25 := NB101_102.out; obtain ⟨hcz26_0, hcz26_1, hcz26_2, hfz26_0, hfz26_1, hfz26_2⟩ := blk3_ BK102.out)); try go_wp2_with (first | (go_at_call 100; (with_reducible refine (spec_tyBall.calls (rd l0_2 x15_1) t110 _ A18.out).mono ?_); rintro e w' ⟨rfl, ⟨nd, rfl⟩⟩; (try first | exact ⟨rfl, _, World.drewN_drewN _ _ _⟩ | exact ⟨rfl, _, Eq.trans (World.drewN_drewN _ _ _) (congrArg (World.drewN _) (Nat.add_assoc _ _ _))⟩); have hnb22 := NB108_101.out; have hnc22 := NB101_108.out; have hnb23 := NB108_102.out; have hnc23 := NB102_108.out; obtain ⟨hcz24_0, hcz24_1, hcz24_2, hfz24_0, hfz24_1, hfz24_2⟩ := blk3_ BK108.out; have p111 : 0 ≤ (x15_1 : Int) := of_decide_eq_true aq6; have q111 : x15_1 < (t105.length : Int) := of_decide_eq_true aq6; obtain ⟨ad111, e111, hx111_0⟩ := Kd.at_int (Kd.V_reads' HO_109002.out).2.2 x15_1 p111 q111; cases e111; replace p111 := eq_true p111; replace q111 := eq_true q111) | (go_at_call 100; (with_reducible refine (spec_tyBall.calls (rd t105 x15_1) t112 _ A20.out).mono ?_); rintro e w' ⟨rfl, ⟨nd, rfl⟩⟩; (try first | exact ⟨rfl, _, World.drewN_drewN _ _ _⟩ | exact ⟨rfl, _, Eq.trans (World.drewN_drewN _ _ _) (congrArg (World.drewN _) (Nat.add_assoc _ _ _))⟩); have hnb25 := NB102_101.out; have hnc25 := NB101_102.out; obtain ⟨hcz26_0, hcz26_1, hcz26_2, hfz26_0, hfz26_1, hfz26_2⟩ := blk3_ BK102.out)))
        refine bodyPost_ret (results_ct rfl _ _ gb102 62 #[.int .i64 t103, .int .i64 t104, .slice (some ad111) t105.length co13] (0, 0) _ rfl aq33 Tryz.underlying62 rfl (by kernel_rfl)) rfl ?_
        exact ⟨_, aq8, by (with_reducible repeat (first | apply Kd.V_alloc | apply Kd.V_drewN | apply Kd.V_drew)); exact Kd.V_mono (Kd.V_far (p := ⟨gb102, 2, none⟩) (Kd.V_far (p := ⟨gb102, 1, none⟩) (Kd.V_far (p := ⟨gb102, 0, none⟩) (Kd.V_mono HO_109002.out (fun k_ hk => (⟨hk, hk.2.2.1⟩ : _ ∧ k_ ≠ gb102))) (fun _ hk => hk.2) (.int .i64 t103)) (fun _ hk => hk.2) (.int .i64 t104)) (fun _ hk => hk.2) (.slice (some ad111) t105.length co13)) (fun _ hk => hk.1.1), aq31⟩
       ·rw [if_neg c21] at H
        have c21b0 : (t110 != t112) = false := by simpa using c21
        (try (have c21b1 : decide (t110 = t112) = true := by simpa using c21))
        (try (have c21b2 : (t110 == t112) = true := by simpa using c21))
        clear c21
        have H' := am H
        clear H
        have p109 : 0 ≤ (x15_1 : Int) := of_decide_eq_true aq6
        have q109 : x15_1 < (l0_2.length : Int) := of_decide_eq_true aq6
        obtain ⟨ad109, e109, hx109_0⟩ := Kd.at_int (Kd.V_reads' HO_13.out).2.2 x15_1 p109 q109
        cases e109
        replace p109 := eq_true p109
        replace q109 := eq_true q109
        go_wp2_with (first | (go_at_call 100; (with_reducible refine (spec_tyBall.calls (rd l0_2 x15_1) t110 _ A18.out).mono ?_); rintro e w' ⟨rfl, ⟨nd, rfl⟩⟩; (try first | exact ⟨rfl, _, World.drewN_drewN _ _ _⟩ | exact ⟨rfl, _, Eq.trans (World.drewN_drewN _ _ _) (congrArg (World.drewN _) (Nat.add_assoc _ _ _))⟩); have hnb27 := NB108_101.out; have hnc27 := NB101_108.out; have hnb28 := NB108_102.out; have hnc28 := NB102_108.out; obtain ⟨hcz29_0, hcz29_1, hcz29_2, hfz29_0, hfz29_1, hfz29_2⟩ := blk3_ BK108.out; have p111 : 0 ≤ (x15_1 : Int) := of_decide_eq_true aq6; have q111 : x15_1 < (t105.length : Int) := of_decide_eq_true aq6; obtain ⟨ad111, e111, hx111_0⟩ := Kd.at_int (Kd.V_reads' HO_109002.out).2.2 x15_1 p111 q111; cases e111; replace p111 := eq_true p111; replace q111 := eq_true q111) | (go_at_call 100; (with_reducible refine (spec_tyBall.calls (rd t105 x15_1) t112 _ A20.out).mono ?_); rintro e w' ⟨rfl, ⟨nd, rfl⟩⟩; (try first | exact ⟨rfl, _, World.drewN_drewN _ _ _⟩ | exact ⟨rfl, _, Eq.trans (World.drewN_drewN _ _ _) (congrArg (World.drewN _) (Nat.add_assoc _ _ _))⟩)))
        repeat (go_quiet (first | (go_at_call 100; (with_reducible refine (spec_tyBall.calls (rd l0_2 x15_1) t110 _ A18.out).mono ?_); rintro e w' ⟨rfl, ⟨nd, rfl⟩⟩; (try first | exact ⟨rfl, _, World.drewN_drewN _ _ _⟩ | exact ⟨rfl, _, Eq.trans (World.drewN_drewN _ _ _) (congrArg (World.drewN _) (Nat.add_assoc _ _ _))⟩); have hnb27 := NB108_101.out; have hnc27 := NB101_108.out; have hnb28 := NB108_102.out; have hnc28 := NB102_108.out; obtain ⟨hcz29_0, hcz29_1, hcz29_2, hfz29_0, hfz29_1, hfz29_2⟩ := blk3_ BK108.out; have p111 : 0 ≤ (x15_1 : Int) := of_decide_eq_true aq6; have q111 : x15_1 < (t105.length : Int) := of_decide_eq_true aq6; obtain ⟨ad111, e111, hx111_0⟩ := Kd.at_int (Kd.V_reads' HO_109002.out).2.2 x15_1 p111 q111; cases e111; replace p111 := eq_true p111; replace q111 := eq_true q111) | (go_at_call 100; (with_reducible refine (spec_tyBall.calls (rd t105 x15_1) t112 _ A20.out).mono ?_); rintro e w' ⟨rfl, ⟨nd, rfl⟩⟩; (try first | exact ⟨rfl, _, World.drewN_drewN _ _ _⟩ | exact ⟨rfl, _, Eq.trans (World.drewN_drewN _ _ _) (congrArg (World.drewN _) (Nat.add_assoc _ _ _))⟩))); try go_wp2_with (first | (go_at_call 100; (with_reducible refine (spec_tyBall.calls (rd l0_2 x15_1) t110 _ A18.out).mono ?_); rintro e w' ⟨rfl, ⟨nd, rfl⟩⟩; (try first | exact ⟨rfl, _, World.drewN_drewN _ _ _⟩ | exact ⟨rfl, _, Eq.trans (World.drewN_drewN _ _ _) (congrArg (World.drewN _) (Nat.add_assoc _ _ _))⟩); have hnb27 := NB108_101.out; have hnc27 := NB101_108.out; have hnb28 := NB108_102.out; have hnc28 := NB102_108.out; obtain ⟨hcz29_0, hcz29_1, hcz29_2, hfz29_0, hfz29_1, hfz29_2⟩ := blk3_ BK108.out; have p111 : 0 ≤ (x15_1 : Int) := of_decide_eq_true aq6; have q111 : x15_1 < (t105.length : Int) := of_decide_eq_true aq6; obtain ⟨ad111, e111, hx111_0⟩ := Kd.at_int (Kd.V_reads' HO_109002.out).2.2 x15_1 p111 q111; cases e111; replace p111 := eq_true p111; replace q111 := eq_true q111) | (go_at_call 100; (with_reducible refine (spec_tyBall.calls (rd t105 x15_1) t112 _ A20.out).mono ?_); rintro e w' ⟨rfl, ⟨nd, rfl⟩⟩; (try first | exact ⟨rfl, _, World.drewN_drewN _ _ _⟩ | exact ⟨rfl, _, Eq.trans (World.drewN_drewN _ _ _) (congrArg (World.drewN _) (Nat.add_assoc _ _ _))⟩))))
        go_roundg k1
        case measure => have := HK1.out; omega
        case rel => exact ⟨(wrap64 (x15_1 + 1)), (x103000_1), (x103001_1), aq7, H', ⟨aq70⟩, ⟨by (with_reducible repeat (first | apply Kd.V_alloc | apply Kd.V_drewN | apply Kd.V_drew)); exact HO_13.out⟩, ⟨by (with_reducible repeat (first | apply Kd.V_alloc | apply Kd.V_drewN | apply Kd.V_drew)); exact HO_102002.out⟩, ⟨by (with_reducible repeat (first | apply Kd.V_alloc | apply Kd.V_drewN | apply Kd.V_drew)); exact HO_109002.out⟩, ⟨aq2⟩, ⟨aq9⟩, ⟨by (with_reducible repeat (first | refine blk_drewN ?_ _ | refine blk_drew ?_ | refine blk_alloc ?_ _)); exact BK108.out⟩, ⟨aq31⟩⟩
      ·rw [if_neg c19] at H
       exact absurd H (by simp)
     ·rw [if_neg c17] at H
      exact absurd H (by simp)
    ·rw [if_neg c16] at H
     exact absurd H (by simp)
   ·rw [if_neg c15] at H
    have c15b0 := decide_eq_false c15
    clear c15
    simp only [Option.some.injEq, Prod.mk.injEq] at H
    obtain ⟨rfl, rfl, rfl, rfl⟩ := H
    have hnb30 := NB108_101.out
    have hnc30 := NB101_108.out
    have hnb31 := NB108_102.out
    have hnc31 := NB102_108.out
    obtain ⟨hcz32_0, hcz32_1, hcz32_2, hfz32_0, hfz32_1, hfz32_2⟩ := blk3_ BK108.out
    have hnb33 := NB102_101.out
    have hnc33 := NB101_102.out
    obtain ⟨hcz34_0, hcz34_1, hcz34_2, hfz34_0, hfz34_1, hfz34_2⟩ := blk3_ BK102.out
    go_wp2
    repeat (go_quiet (fail); try go_wp2)
    refine bodyPost_ret (results_ct rfl _ _ gb102 62 #[.int .i64 t103, .int .i64 t104, .slice Ao13 t105.length co13] (0, 0) _ rfl aq33 Tryz.underlying62 rfl (by kernel_rfl)) rfl ?_
    exact ⟨_, aq8, by (with_reducible repeat (first | apply Kd.V_alloc | apply Kd.V_drewN | apply Kd.V_drew)); exact Kd.V_mono (Kd.V_far (p := ⟨gb102, 2, none⟩) (Kd.V_far (p := ⟨gb102, 1, none⟩) (Kd.V_far (p := ⟨gb102, 0, none⟩) (Kd.V_mono HO_109002.out (fun k_ hk => (⟨hk, hk.2.2.1⟩ : _ ∧ k_ ≠ gb102))) (fun _ hk => hk.2) (.int .i64 t103)) (fun _ hk => hk.2) (.int .i64 t104)) (fun _ hk => hk.2) (.slice Ao13 t105.length co13)) (fun _ hk => hk.1.1), aq31⟩
def spec_tyBalls.l0 : Nat → List Int → List Int → Int → Int → Option (List Int)
 | 0, _, _, _, _ => none
 | k + 1, x3, x7, x8, x9 => if x9 < x8 then (if 0 ≤ x9 then (if x9 < (x7.length : Int) then ((spec_tyBall.f (rd x7 x9)).bind fun t103 => (if t103 = true then (if x3.length < 17592186044416 then (spec_tyBalls.l0 k (x3 ++ [x9]) x7 x8 (wrap64 (x9 + 1))) else (none)) else (spec_tyBalls.l0 k x3 x7 x8 (wrap64 (x9 + 1))))) else (none)) else (none)) else (some x3)
def spec_tyBalls.f (k : Nat) (a0_0 : Int) (a0_1 : Int) (l0_2 : List Int) : Option (List Int) := spec_tyBalls.l0 k ([] : List Int) l0_2 (l0_2.length : Int) 0
theorem spec_tyBalls.mono_l : ∀ k, (∀ y0 y1 y2 y3, LeO (spec_tyBalls.l0 k y0 y1 y2 y3) (spec_tyBalls.l0 (k + 1) y0 y1 y2 y3))
 | 0 => fun _ _ _ _ r h => by simp [spec_tyBalls.l0] at h
 | k + 1 => by
  have ih0 := spec_tyBalls.mono_l k
  ·intro y0 y1 y2 y3
   unfold spec_tyBalls.l0
   exact mo
theorem spec_tyBalls.mono : ∀ a0 a1 a2 k, LeO (spec_tyBalls.f k a0 a1 a2) (spec_tyBalls.f (k + 1) a0 a1 a2) := by
 intro a0 a1 a2 k
 have ih0 := spec_tyBalls.mono_l k
 unfold spec_tyBalls.f
 exact mo
mutual
def spec_mcPermutation.l0 : Nat → ByteArray → List Int → List Int → List Int → Int → Int → Int → Int → List Int → Option (List Int × Bool)
 | 0, _, _, _, _, _, _, _, _, _ => none
 | k + 1, x1, x8, x9, x31, x32, x33, x102000, x102001, x102002 => if x33 < x32 then (if 0 ≤ x33 then (if x33 < (x31.length : Int) then ((spec_tyCopy.f x102000 x102001 x102002).bind fun bt116 => (spec_mcPermutation.l1 k x1 x8 x9 x33 (rd x31 x33) x31 x32 x33 x8 (x8.length : Int) 0 x102000 x102001 x102002 bt116.1 bt116.2.1 bt116.2.2)) else (none)) else (none)) else (some (x9, true))
def spec_mcPermutation.l1 : Nat → ByteArray → List Int → List Int → Int → Int → List Int → Int → Int → List Int → Int → Int → Int → Int → List Int → Int → Int → List Int → Option (List Int × Bool)
 | 0, _, _, _, _, _, _, _, _, _, _, _, _, _, _, _, _, _ => none
 | k + 1, x1, x8, x9, x10, x11, x31, x32, x33, x40, x41, x42, x102000, x102001, x102002, x122000, x122001, x122002 => if x42 < x41 then (if 0 ≤ x42 then (if x42 < (x40.length : Int) then (if 0 ≤ (rd x40 x42) then (if (rd x40 x42) < (x122002.length : Int) then (spec_mcPermutation.l1 k x1 x8 x9 x10 x11 x31 x32 x33 x40 x41 (wrap64 (x42 + 1)) x102000 x102001 x102002 x122000 x122001 (x122002.set ((rd x40 x42) : Int).toNat 111)) else (none)) else (none)) else (none)) else (none)) else (if 0 ≤ x11 then (if x11 < (x122002.length : Int) then ((spec_tiRun.f k x122000 x122001 (x122002.set (x11 : Int).toNat 97) x1).bind fun bt125 => ((spec_tiPlace.f k bt125.1 bt125.2.1 bt125.2.2 97).bind fun t130 => (spec_mcPermutation.l2 k x1 x8 x9 x10 t130 x31 x32 x33 x8 (x8.length : Int) 0 x102000 x102001 x102002))) else (none)) else (none))
def spec_mcPermutation.l2 : Nat → ByteArray → List Int → List Int → Int → Int → List Int → Int → Int → List Int → Int → Int → Int → Int → List Int → Option (List Int × Bool)
 | 0, _, _, _, _, _, _, _, _, _, _, _, _, _, _ => none
 | k + 1, x1, x8, x9, x10, x15, x31, x32, x33, x59, x60, x61, x102000, x102001, x102002 => if x61 < x60 then (if 0 ≤ x61 then (if x61 < (x59.length : Int) then (if (rd x59 x61) = x15 then (if 0 ≤ x10 then (if x10 < (x9.length : Int) then (spec_mcPermutation.l2 k x1 x8 (x9.set (x10 : Int).toNat x61) x10 x15 x31 x32 x33 x59 x60 (wrap64 (x61 + 1)) x102000 x102001 x102002) else (none)) else (none)) else (spec_mcPermutation.l2 k x1 x8 x9 x10 x15 x31 x32 x33 x59 x60 (wrap64 (x61 + 1)) x102000 x102001 x102002)) else (none)) else (none)) else (spec_mcPermutation.l0 k x1 x8 x9 x31 x32 (wrap64 (x33 + 1)) x102000 x102001 x102002)
end
theorem spec_mcPermutation.mono_l : ∀ k, (∀ y0 y1 y2 y3 y4 y5 y6 y7 y8, LeO (spec_mcPermutation.l0 k y0 y1 y2 y3 y4 y5 y6 y7 y8) (spec_mcPermutation.l0 (k + 1) y0 y1 y2 y3 y4 y5 y6 y7 y8)) ∧ (∀ y0 y1 y2 y3 y4 y5 y6 y7 y8 y9 y10 y11 y12 y13 y14 y15 y16, LeO (spec_mcPermutation.l1 k y0 y1 y2 y3 y4 y5 y6 y7 y8 y9 y10 y11 y12 y13 y14 y15 y16) (spec_mcPermutation.l1 (k + 1) y0 y1 y2 y3 y4 y5 y6 y7 y8 y9 y10 y11 y12 y13 y14 y15 y16)) ∧ (∀ y0 y1 y2 y3 y4 y5 y6 y7 y8 y9 y10 y11 y12 y13, LeO (spec_mcPermutation.l2 k y0 y1 y2 y3 y4 y5 y6 y7 y8 y9 y10 y11 y12 y13) (spec_mcPermutation.l2 (k + 1) y0 y1 y2 y3 y4 y5 y6 y7 y8 y9 y10 y11 y12 y13))
 | 0 => ⟨fun _ _ _ _ _ _ _ _ _ r h => by simp [spec_mcPermutation.l0] at h, fun _ _ _ _ _ _ _ _ _ _ _ _ _ _ _ _ _ r h => by simp [spec_mcPermutation.l1] at h, fun _ _ _ _ _ _ _ _ _ _ _ _ _ _ r h => by simp [spec_mcPermutation.l2] at h⟩
 | k + 1 => by
  obtain ⟨ih0, ih1, ih2⟩ := spec_mcPermutation.mono_l k
  refine ⟨?_, ?_, ?_⟩
  ·intro y0 y1 y2 y3 y4 y5 y6 y7 y8
   unfold spec_mcPermutation.l0
   have im0 := @spec_mcBack.mono; have im1 := @spec_tiPlace.mono; have im2 := @spec_tiRun.mono; have im3 := @spec_tyBalls.mono; exact mo
  ·intro y0 y1 y2 y3 y4 y5 y6 y7 y8 y9 y10 y11 y12 y13 y14 y15 y16
   unfold spec_mcPermutation.l1
   have im0 := @spec_mcBack.mono; have im1 := @spec_tiPlace.mono; have im2 := @spec_tiRun.mono; have im3 := @spec_tyBalls.mono; exact mo
  ·intro y0 y1 y2 y3 y4 y5 y6 y7 y8 y9 y10 y11 y12 y13
   unfold spec_mcPermutation.l2
   have im0 := @spec_mcBack.mono; have im1 := @spec_tiPlace.mono; have im2 := @spec_tiRun.mono; have im3 := @spec_tyBalls.mono; exact mo



end Go.Proofs.YtdffgeoegdkiaaaGreatDoor.F

namespace Go.Proofs.YtdffgeoegdkiaaaGreatDoor.F
open Go.RowKit Go.Proofs.YtdffgeoegdkiaaaGreatDoor Go.Proofs.YtdffgeoegdkiaaaGreatDoorW.PrintWords Go.Proofs.YtdffgeoegdkiaaaGreatDoorW.PrintMore
theorem mcBack_l0 {cs ds : List Int} (hl : cs.length ≤ 1000) (hd : ds.length = cs.length) (W H : Int) : ∀ (n i : Nat), i + n = cs.length →
    Ev (fun k => spec_mcBack.l0 k cs (cs.length : Int) (i : Int) W H ds) (W, H, ds, decide (∀ j, j < cs.length → i ≤ j → ballAt cs j = ballAt ds j))
  | 0, i, hi => by
    rw [decide_eq_true (show ∀ j, j < cs.length → i ≤ j → ballAt cs j = ballAt ds j from fun j h1 h2 => by omega)]
    exact Ev.step (f := fun _ => some (W, H, ds, true)) (fun k => by rw [spec_mcBack.l0, if_neg (by omega)]) (Ev.now _)
  | n + 1, i, hi => by
    have HW : Aside0 (wrap64 ((i : Int) + 1) = ((i + 1 : Nat) : Int)) := ⟨by rw [w64 (by omega) (by omega)]; rfl⟩
    have b1 : spec_tyBall.f (rd cs (i : Int)) = some (ballAt cs i) := by rw [spec_tyBall_is, rdN]; rfl
    have b2 : spec_tyBall.f (rd ds (i : Int)) = some (ballAt ds i) := by rw [spec_tyBall_is, rdN]; rfl
    by_cases he : ballAt cs i = ballAt ds i
    · have ih := mcBack_l0 hl hd W H n (i + 1) (by omega)
      have e : decide (∀ j, j < cs.length → i ≤ j → ballAt cs j = ballAt ds j) = decide (∀ j, j < cs.length → i + 1 ≤ j → ballAt cs j = ballAt ds j) := by
        rw [decide_eq_decide]
        refine ⟨fun q j h1 h2 => q j h1 (by omega), fun q j h1 h2 => ?_⟩
        by_cases ej : j = i
        · subst ej; exact he
        · exact q j h1 (by omega)
      rw [e]
      refine Ev.step (fun k => ?_) ih
      rw [spec_mcBack.l0, if_pos (by omega), if_pos (by omega), if_pos (by omega), b1, Option.bind_some, if_pos (by omega), b2, Option.bind_some, he, bne_self_eq_false, if_neg Bool.false_ne_true, HW.out]
    · rw [decide_eq_false (show ¬ ∀ j, j < cs.length → i ≤ j → ballAt cs j = ballAt ds j from fun q => he (q i (by omega) (Nat.le_refl _)))]
      refine Ev.step (f := fun _ => some (W, H, ds, false)) (fun k => ?_) (Ev.now _)
      rw [spec_mcBack.l0, if_pos (by omega), if_pos (by omega), if_pos (by omega), b1, Option.bind_some, if_pos (by omega), b2, Option.bind_some, if_pos (bne_iff_ne.2 he)]
section
variable {w h : Nat} (hw : 1 ≤ w ∧ w ≤ 7) (hh : 1 ≤ h ∧ h ≤ 7) {cs : List Int} (hl : cs.length = w * h) {wd : ByteArray} (hs : isWordB (bytesOf wd) = true)
include hw hh hl hs
end
end Go.Proofs.YtdffgeoegdkiaaaGreatDoor.F

namespace Go.Proofs.YtdffgeoegdkiaaaGreatDoor.F
open Go.Proofs.YtdffgeoegdkiaaaGreatDoor
open Go.RowKit Go.Proofs.YtdffgeoegdkiaaaGreatDoorW.PrintWords Go.Proofs.YtdffgeoegdkiaaaGreatDoorW.PrintLast Go.Proofs.YtdffgeoegdkiaaaGreatDoorW.PrintMore
attribute [local go_sem] max2_int min2_int max_two min_two max_three min_three max_four min_four
def laws_eqStringS.l0 : Nat → List ByteArray → List ByteArray → Int → Option (Bool)
 | 0, _, _, _ => none
 | k + 1, x0, x1, x5 => if x5 < (x0.length : Int) then (if 0 ≤ x5 then (if x5 < (x1.length : Int) then (if (rdOf ByteArray.empty x0 x5).toList = (rdOf ByteArray.empty x1 x5).toList then (laws_eqStringS.l0 k x0 x1 (wrap64 (x5 + 1))) else (some false)) else (none)) else (none)) else (some true)
def laws_eqStringS.f (k : Nat) (l0 : List ByteArray) (l1 : List ByteArray) : Option (Bool) := if (l0.length : Int) = (l1.length : Int) then (laws_eqStringS.l0 k l0 l1 0) else (some false)
theorem laws_eqStringS.mono_l : ∀ k, (∀ y0 y1 y2, LeO (laws_eqStringS.l0 k y0 y1 y2) (laws_eqStringS.l0 (k + 1) y0 y1 y2))
 | 0 => fun _ _ _ r h => by simp [laws_eqStringS.l0] at h
 | k + 1 => by
  have ih0 := laws_eqStringS.mono_l k
  ·intro y0 y1 y2
   unfold laws_eqStringS.l0
   exact mo
theorem laws_eqStringS.mono : ∀ a0 a1 k, LeO (laws_eqStringS.f k a0 a1) (laws_eqStringS.f (k + 1) a0 a1) := by
 intro a0 a1 k
 have ih0 := laws_eqStringS.mono_l k
 unfold laws_eqStringS.f
 exact mo
set_option maxHeartbeats 8000000 in
set_option maxRecDepth 100000 in
theorem laws_eqStringS.calls (k : Nat) (A0 : Option Addr) (c0 : Nat) (l0 : List ByteArray) (A1 : Option Addr) (c1 : Nat) (l1 : List ByteArray) (r : Bool) (w : World) (hr0 : Kd.C Kd.string w A0 l0.length l0) (hc0 : l0.length ≤ c0) (hr1 : Kd.C Kd.string w A1 l1.length l1) (hc1 : l1.length ≤ c1) (h : laws_eqStringS.f k l0 l1 = some r) :
  Calls Tryz.prog 17 #[.slice A0 l0.length c0, .slice A1 l1.length c1] w fun e w' => e = .returned (.bool r) ∧ Drawn0 w w' := by
 have HR0 := am hr0
 have HC0 := am hc0
 clear hr0 hc0
 have HR1 := am hr1
 have HC1 := am hc1
 clear hr1 hc1
 have H : (if (l0.length : Int) = (l1.length : Int) then (laws_eqStringS.l0 k l0 l1 0) else (some false)) = some r := h
 clear h
 by_cases c3 : (l0.length : Int) = (l1.length : Int)
 ·rw [if_pos c3] at H
  have c3b0 := beq_iff_eq.mpr c3
  have c3b1 := bne_eq_false_iff_eq.mpr c3
  have c3b2 : (l0.length == l1.length) = true := by first | simpa using c3 | (simp at c3 ⊢; omega)
  clear c3
  have H' := am H
  clear H
  go_enter Tryz.func17, Tryz.ntmps17
  go_wp2
  repeat (go_quiet (fail); try go_wp2)
  go_loopg [5] k (fun kq v5 w' => ∃ (x5_1 : Int), v5 = .int .i64 x5_1 ∧ Aside0 (laws_eqStringS.l0 kq l0 l1 x5_1 = some r) ∧ Aside0 (kq ≤ k) ∧ Drawn0 w w')
  case atStart => exact ⟨(0), aq7, H', ⟨Nat.le_refl _⟩, aq14⟩
  case round =>
   clear H'
   try clear c1
   try clear p2
   try clear c3
   try clear c3b0
   try clear c3b1
   try clear c3b2
   obtain ⟨x5_1, rfl, HA, HK1, ⟨m1, rfl⟩⟩ := hrel
   cases gk with
   | zero => exact absurd HA.out (by simp [laws_eqStringS.l0])
   | succ k1 =>
    have H := HA.out
    clear HA
    simp only [laws_eqStringS.l0] at H
    by_cases c4 : x5_1 < (l0.length : Int)
    ·rw [if_pos c4] at H
     have c4b0 := decide_eq_true c4
     clear c4
     by_cases c5 : 0 ≤ x5_1
     ·rw [if_pos c5] at H
      have c5b0 := decide_eq_true c5
      clear c5
      by_cases c6 : x5_1 < (l1.length : Int)
      ·rw [if_pos c6] at H
       have c6b0 := decide_eq_true c6
       clear c6
       by_cases c7 : (rdOf ByteArray.empty l0 x5_1).toList = (rdOf ByteArray.empty l1 x5_1).toList
       ·rw [if_pos c7] at H
        have c7b0 := beq_iff_eq.mpr c7
        have c7b1 := bne_eq_false_iff_eq.mpr c7
        clear c7
        have H' := am H
        clear H
        have p101 : 0 ≤ (x5_1 : Int) := of_decide_eq_true aq6
        have q101 : x5_1 < (l0.length : Int) := of_decide_eq_true aq6
        obtain ⟨ad101, e101, hx101_0⟩ := Kd.at_string HR0.out x5_1 p101 q101
        cases e101
        replace p101 := eq_true p101
        replace q101 := eq_true q101
        have p102 : 0 ≤ (x5_1 : Int) := of_decide_eq_true aq6
        have q102 : x5_1 < (l1.length : Int) := of_decide_eq_true aq6
        obtain ⟨ad102, e102, hx102_0⟩ := Kd.at_string HR1.out x5_1 p102 q102
        cases e102
        replace p102 := eq_true p102
        replace q102 := eq_true q102
        go_wp2
        repeat (go_quiet (fail); try go_wp2)
        go_roundg k1
        case measure => have := HK1.out; omega
        case rel => exact ⟨(wrap64 (x5_1 + 1)), aq7, H', ⟨aq70⟩, aq14⟩
       ·rw [if_neg c7] at H
        have c7b0 := beq_eq_false_iff_ne.mpr c7
        have c7b1 := bne_iff_ne.mpr c7
        obtain rfl := Option.some.inj H
        have p101 : 0 ≤ (x5_1 : Int) := of_decide_eq_true aq6
        have q101 : x5_1 < (l0.length : Int) := of_decide_eq_true aq6
        obtain ⟨ad101, e101, hx101_0⟩ := Kd.at_string HR0.out x5_1 p101 q101
        cases e101
        replace p101 := eq_true p101
        replace q101 := eq_true q101
        have p102 : 0 ≤ (x5_1 : Int) := of_decide_eq_true aq6
        have q102 : x5_1 < (l1.length : Int) := of_decide_eq_true aq6
        obtain ⟨ad102, e102, hx102_0⟩ := Kd.at_string HR1.out x5_1 p102 q102
        cases e102
        replace p102 := eq_true p102
        replace q102 := eq_true q102
        go_wp2
        repeat (go_quiet (fail); try go_wp2)
        go_ret
        exact ⟨aq7, aq14⟩
      ·rw [if_neg c6] at H
       exact absurd H (by simp)
     ·rw [if_neg c5] at H
      exact absurd H (by simp)
    ·rw [if_neg c4] at H
     have c4b0 := decide_eq_false c4
     clear c4
     obtain rfl := Option.some.inj H
     go_wp2
     repeat (go_quiet (fail); try go_wp2)
     go_ret
     exact ⟨aq7, aq14⟩
 ·rw [if_neg c3] at H
  have c3b0 := beq_eq_false_iff_ne.mpr c3
  have c3b1 := bne_iff_ne.mpr c3
  have c3b2 : (l0.length == l1.length) = false := by first | simpa using c3 | (simp at c3 ⊢; omega)
  obtain rfl := Option.some.inj H
  go_enter Tryz.func17, Tryz.ntmps17
  go_wp2
  repeat (go_quiet (fail); try go_wp2)
  go_ret
  exact ⟨aq7, aq14⟩
def laws_markText.l0 : Nat → Int → ByteArray → Option (ByteArray)
 | 0, _, _ => none
 | k + 1, x0, x3 => if x0 > 0 then ((some (([(wrap64 (48 + (Int.tmod x0 10))) % 256] : List Int) : List Int)).bind fun y101 => (if (strOfNums y101).size + x3.size ≤ 9223372036854775807 then (laws_markText.l0 k (wrap64 (Int.tdiv x0 10)) ((strOfNums y101) ++ x3)) else (none))) else (if 1 + x3.size ≤ 9223372036854775807 then (some ((⟨#[109]⟩ : ByteArray) ++ x3)) else (none))
def laws_markText.f (k : Nat) (a0 : Int) : Option (ByteArray) := if a0 ≤ 0 then (some (⟨#[109, 48]⟩ : ByteArray)) else (laws_markText.l0 k a0 (⟨#[]⟩ : ByteArray))
theorem laws_markText.mono_l : ∀ k, (∀ y0 y1, LeO (laws_markText.l0 k y0 y1) (laws_markText.l0 (k + 1) y0 y1))
 | 0 => fun _ _ r h => by simp [laws_markText.l0] at h
 | k + 1 => by
  have ih0 := laws_markText.mono_l k
  ·intro y0 y1
   unfold laws_markText.l0
   exact mo
theorem laws_markText.mono : ∀ a0 k, LeO (laws_markText.f k a0) (laws_markText.f (k + 1) a0) := by
 intro a0 k
 have ih0 := laws_markText.mono_l k
 unfold laws_markText.f
 exact mo
set_option maxHeartbeats 8000000 in
set_option maxRecDepth 100000 in
theorem laws_markText.calls (k : Nat) (a0 : Int) (r : ByteArray) (w : World) (h : laws_markText.f k a0 = some r) :
  Calls Tryz.prog 61 #[.int .i64 a0] w fun e w' => e = .returned (.string r) ∧ Below w.heap.size w w' := by
 have HB := am (Below.refl w.heap.size w)
 have H : (if a0 ≤ 0 then (some (⟨#[109, 48]⟩ : ByteArray)) else (laws_markText.l0 k a0 (⟨#[]⟩ : ByteArray))) = some r := h
 clear h
 by_cases c2 : a0 ≤ 0
 ·rw [if_pos c2] at H
  have c2b0 := decide_eq_true c2
  clear c2
  obtain rfl := Option.some.inj H
  go_enter Tryz.func61, Tryz.ntmps61
  go_wp2
  go_ret
  exact ⟨aq8, aq1⟩
 ·rw [if_neg c2] at H
  have c2b0 := decide_eq_false c2
  clear c2
  have H' := am H
  clear H
  go_enter Tryz.func61, Tryz.ntmps61
  go_wp2
  go_loopg [0, 3] k (fun kq v0 v3 w' => ∃ (x0_1 : Int) (x3_1 : ByteArray), v0 = .int .i64 x0_1 ∧ v3 = .string x3_1 ∧ Aside0 (laws_markText.l0 kq x0_1 x3_1 = some r) ∧ Aside0 (kq ≤ k) ∧ Aside0 (Below w.heap.size w w'))
  case atStart => exact ⟨(a0), ((⟨#[]⟩ : ByteArray)), aq7, aq7, H', ⟨Nat.le_refl _⟩, ⟨aq1⟩⟩
  case round =>
   clear H'
   try clear c2
   try clear c2b0
   try clear p2
   obtain ⟨x0_1, x3_1, rfl, rfl, HA, HK1, HB⟩ := hrel
   cases gk with
   | zero => exact absurd HA.out (by simp [laws_markText.l0])
   | succ k1 =>
    have H := HA.out
    clear HA
    simp only [laws_markText.l0] at H
    by_cases c3 : x0_1 > 0
    ·rw [if_pos c3] at H
     have c3b0 := decide_eq_true c3
     clear c3
     obtain ⟨y101, hy_⟩ : ∃ y_ : List Int, y_ = (([(wrap64 (48 + (Int.tmod x0_1 10))) % 256] : List Int)) := ⟨_, rfl⟩
     replace H : (if (strOfNums y101).size + x3_1.size ≤ 9223372036854775807 then (laws_markText.l0 k1 (wrap64 (Int.tdiv x0_1 10)) ((strOfNums y101) ++ x3_1)) else (none)) = some r := aq4
     have Ny101 := am hy_
     clear hy_
     by_cases c4 : (strOfNums y101).size + x3_1.size ≤ 9223372036854775807
     ·rw [if_pos c4] at H
      have c4b0 := eq_true c4
      have c4b1 := decide_eq_true c4
      try have c4b2 : (9223372036854775807 < (strOfNums y101).size + x3_1.size) = False := eq_false (Nat.not_lt.2 c4)
      have H' := am H
      clear H
      go_wp2_with (first | ((with_reducible refine gate_dst (N := 12) rfl ?_); refine Kd.R_lit (Kd.int .u8) _ 5 ?hg (N := 12) ?hd (xs := ([(wrap64 (48 + (Int.tmod x0_1 10))) % 256] : List Int)) (inner := [.int .u8 ((wrap64 (48 + (Int.tmod x0_1 10))) % 256)]) (ok := fun _ => True) (okp := fun _ => True) ?hr ?hp (fun _ hk => hk) trivial (Below.refl _ _) (Nat.le_refl _) (by simp) ?_; (case hd => rfl); (case hg => rfl); (case hr => exact aq15); (case hp => exact (Reps.one (show Kd.M (Kd.int .u8) _ _ _ ((wrap64 (48 + (Int.tmod x0_1 10))) % 256) [.int .u8 ((wrap64 (48 + (Int.tmod x0_1 10))) % 256)] from rfl) (Reps.none _ _))); intro v102 w5 ho6 hb hg_ hnew_; clear hg_ hnew_; (first | rw [← Ny101.out] at ho6 | (simp only [Int.reduceToNat] at ho6; rw [← Ny101.out] at ho6)); have n0_ := am (Kd.R_lower ho6 (below_size aq1)); have n1_ := am (below_step aq1 hb); clear HB; have HO103 := n0_; have HB := n1_; clear n0_ n1_; clear hb ho6; (first | have hcv7 := own_string (P := Tryz.prog) Tryz.underlying60 Tryz.underlying5 Tryz.underlying9 (Kd.own_of_R HO103.out) | have hcv7 := (show ∀ {A : Option Addr} {n c : Nat} {xs : List Int} {ok : Nat → Prop} {W : World} {b : Nat}, Kd.V (Kd.int .u8) 5 W b ok (.slice A n c) xs → (convert 60 9 (.slice A n c)).run Tryz.prog W = .ok (.string (strOfNums xs)) W from fun h => by obtain ⟨rfl, _, hC⟩ := Kd.V_reads' h; exact Kd.C_string Tryz.underlying60 Tryz.underlying5 Tryz.underlying9 hC) HO103.out)))
      go_roundg k1
      case measure => have := HK1.out; omega
      case rel => exact ⟨(wrap64 (Int.tdiv x0_1 10)), ((strOfNums y101) ++ x3_1), aq7, aq7, H', ⟨aq70⟩, ⟨aq1⟩⟩
     ·rw [if_neg c4] at H
      exact absurd H (by simp)
    ·rw [if_neg c3] at H
     have c3b0 := decide_eq_false c3
     clear c3
     by_cases c8 : 1 + x3_1.size ≤ 9223372036854775807
     ·rw [if_pos c8] at H
      have c8b0 := eq_true c8
      have c8b1 := decide_eq_true c8
      try have c8b2 : (9223372036854775807 < 1 + x3_1.size) = False := eq_false (Nat.not_lt.2 c8)
      obtain rfl := Option.some.inj H
      go_wp2
      go_ret
      exact ⟨aq8, aq1⟩
     ·rw [if_neg c8] at H
      exact absurd H (by simp)
def laws_markStringS.l0 : Nat → List ByteArray → Int → Int → Option (Int × List ByteArray)
 | 0, _, _, _ => none
 | k + 1, x0, x1, x5 => if x5 < (x0.length : Int) then ((laws_markText.f k x1).bind fun t101 => (if 0 ≤ x5 then (laws_markStringS.l0 k (x0.set (x5 : Int).toNat t101) (wrap64 (x1 + 1)) (wrap64 (x5 + 1))) else (none))) else (some (x1, x0))
def laws_markStringS.f (k : Nat) (l0 : List ByteArray) (a1 : Int) : Option (Int × List ByteArray) := laws_markStringS.l0 k l0 a1 0
theorem laws_markStringS.mono_l : ∀ k, (∀ y0 y1 y2, LeO (laws_markStringS.l0 k y0 y1 y2) (laws_markStringS.l0 (k + 1) y0 y1 y2))
 | 0 => fun _ _ _ r h => by simp [laws_markStringS.l0] at h
 | k + 1 => by
  have ih0 := laws_markStringS.mono_l k
  ·intro y0 y1 y2
   unfold laws_markStringS.l0
   have im0 := @laws_markText.mono; exact mo
theorem laws_markStringS.mono : ∀ a0 a1 k, LeO (laws_markStringS.f k a0 a1) (laws_markStringS.f (k + 1) a0 a1) := by
 intro a0 a1 k
 have ih0 := laws_markStringS.mono_l k
 unfold laws_markStringS.f
 have im0 := @laws_markText.mono; exact mo
set_option maxHeartbeats 8000000 in
set_option maxRecDepth 100000 in
theorem laws_markStringS.calls (k : Nat) (P0_ : Nat → Prop) (u9000_ : Value) (l0 : List ByteArray) (a1 : Int) (r1 : Int) (r2 : List ByteArray) (w0 w : World) (hB : Below w0.heap.size w0 w) (ho0 : Kd.R Kd.string 9 w w0.heap.size P0_ u9000_ l0) (h : laws_markStringS.f k l0 a1 = some (r1, r2)) :
  Calls Tryz.prog 18 #[u9000_, .int .i64 a1] w fun e w' => e = .returned (.int .i64 r1) ∧ Kd.R Kd.string 9 w' w0.heap.size (fun k_ => (P0_ k_ ∨ w.heap.size ≤ k_)) u9000_ r2 ∧ Below w0.heap.size w0 w' ∧ Kept w w' (fun k_ => P0_ k_) := by
 have HO0 := am (show Kd.R Kd.string 9 w w0.heap.size (fun k_ => (P0_ k_ ∨ w.heap.size ≤ k_)) u9000_ l0 from Kd.R_mono ho0 (fun k_ hk => (.inl hk)))
 have HK := am (Kept.refl w (fun k_ => P0_ k_))
 have HW0 := am hB.size
 have HB := am hB
 clear hB
 have H : (laws_markStringS.l0 k l0 a1 0) = some (r1, r2) := h
 clear h
 have H' := am H
 clear H
 go_enter Tryz.func18, Tryz.ntmps18
 go_wp2
 go_loopg [1, 5] k (fun kq v1 v5 w' => ∃ (x0_1 : List ByteArray) (x1_1 : Int) (x5_1 : Int), v1 = .int .i64 x1_1 ∧ v5 = .int .i64 x5_1 ∧ Aside0 (laws_markStringS.l0 kq x0_1 x1_1 x5_1 = some (r1, r2)) ∧ Aside0 (kq ≤ k) ∧ Aside0 (Kd.R Kd.string 9 w' w0.heap.size (fun k_ => (P0_ k_ ∨ w.heap.size ≤ k_)) u9000_ x0_1) ∧ Aside0 (Kept w w' (fun k_ => P0_ k_)) ∧ Aside0 (Below w0.heap.size w0 w'))
 case atStart => exact ⟨(l0), (a1), (0), aq7, aq7, H', ⟨Nat.le_refl _⟩, ⟨by (with_reducible repeat (first | apply Kd.R_alloc | apply Kd.R_drewN | apply Kd.R_drew)); exact HO0.out⟩, ⟨aq29⟩, ⟨aq1⟩⟩
 case round =>
  clear H'
  try clear c1
  try clear p2
  obtain ⟨x0_1, x1_1, x5_1, rfl, rfl, HA, HK1, HO_0, HK, HB⟩ := hrel
  cases gk with
  | zero => exact absurd HA.out (by simp [laws_markStringS.l0])
  | succ k1 =>
   have H := HA.out
   clear HA
   simp only [laws_markStringS.l0] at H
   by_cases c3 : x5_1 < (x0_1.length : Int)
   ·rw [if_pos c3] at H
    have c3b0 := decide_eq_true c3
    clear c3
    obtain ⟨t101, A40, H⟩ := Option.bind_eq_some_iff.mp H
    have A4 := am A40
    clear A40
    by_cases c5 : 0 ≤ x5_1
    ·rw [if_pos c5] at H
     have c5b0 := decide_eq_true c5
     clear c5
     obtain ⟨y102, hy_⟩ : ∃ y_ : List ByteArray, y_ = (x0_1.set (x5_1 : Int).toNat t101) := ⟨_, rfl⟩
     replace H : (laws_markStringS.l0 k1 y102 (wrap64 (x1_1 + 1)) (wrap64 (x5_1 + 1))) = some (r1, r2) := aq4
     have Ny102 := am hy_
     clear hy_
     have H' := am H
     clear H
     obtain ⟨Ao7, co7, eo7⟩ := Kd.R_slice HO_0.out
     subst eo7
     go_wp2_with (first | ((with_reducible refine gate_callee (f := 61) rfl ?_); refine goesL_ (some 15) rfl rfl Tryz.func61 (by kernel_rfl) rfl #[.int .i64 x1_1] rfl aq5 ?_; (with_reducible refine (laws_markText.calls k1 x1_1 t101 _ A4.out).mono ?_); rintro e w8 ⟨rfl, hb⟩; refine ⟨_, rfl, ?_⟩; have n0_ := am (Kd.R_below aq50 hb); have n1_ := am (Kept.below (S := (fun k_ => P0_ k_)) aq29 hb); have n2_ := am (below_step aq1 hb); clear HO_0; clear HK; clear HB; have HO_0 := n0_; have HK := n1_; have HB := n2_; clear n0_ n1_ n2_; (try clear hb); (try clear hb2); (try clear hk); (try clear hi); have p6 : 0 ≤ (x5_1 : Int) := of_decide_eq_true aq6; have q6 : (x5_1 : Int) < ((x0_1.length : Int) : Int) := of_decide_eq_true aq6; obtain ⟨go6, co6, eo6, gb6, gl6, cl6, HG6⟩ := Kd.R_form HO_0.out (by omega); (first | cases eo6 | (injection eo6 with ea_ en_ ec_; (first | subst ea_ | (injection ea_ with ea_; subst ea_)); subst ec_; clear en_)); have GB6 := am gb6; have GG6 := am HG6; clear gb6 gl6 HG6; have HMgo6 := am (show (P0_ go6 ∨ w.heap.size ≤ go6) from (HO_0.out.1 _ rfl)); obtain ⟨hx6_0, hf6_0⟩ := Kd.R_celln (⟨#[]⟩ : ByteArray) HO_0.out (x5_1 : Int) p6 q6; replace p6 := eq_true p6; replace q6 := eq_true q6; obtain ⟨hy9_, hz9_⟩ := Kd.R_celln (⟨#[]⟩ : ByteArray) HO_0.out (x5_1 : Int) (of_decide_eq_true aq6) (of_decide_eq_true aq6); have HP9 := Kd.R_putg HO_0.out (x5_1 : Int) t101) | ((with_reducible refine gate_store (t := 9) (p := 16) rfl ?_); refine store_event (t := 9) (p := 16) (v := ?vo_w10) (w1 := (w8.setCell ⟨go6, (x5_1 : Int).toNat, none⟩ (.string t101))) ?hg ?ho ?hn ?hr ?_; (case ho => rfl); (case hg => rfl); (case hn => rfl); (case hr => exact aq15); intro w10 hw; have hg : w8.grownBy w10 (some go6) := (by rw [hw]; exact HP9.2); have hp_ : Kd.R Kd.string 9 w10 w0.heap.size (fun k_ => (P0_ k_ ∨ w.heap.size ≤ k_)) (.slice (some ⟨go6, 0, none⟩) x0_1.length co7) y102 := (by rw [hw, Ny102.out]; exact HP9.1); clear HP9; have n0_ := am (hp_); have n1_ := am ((by rw [hw]; exact below_set (HB.out) GB6.out : Below w0.heap.size w0 w10)); have n2_ := am (Kept.of_grown (S := (fun k_ => P0_ k_)) hg aq29 (fun k_ e_ => (HO_0.out.1 k_ e_))); clear HO_0; clear HB; clear HK; have HO_0 := n0_; have HB := n1_; have HK := n2_; clear n0_ n1_ n2_; clear hg hw hp_))
     go_roundg k1
     case measure => have := HK1.out; omega
     case rel => exact ⟨(y102), (wrap64 (x1_1 + 1)), (wrap64 (x5_1 + 1)), aq7, aq7, H', ⟨aq70⟩, ⟨aq50⟩, ⟨aq29⟩, ⟨aq1⟩⟩
    ·rw [if_neg c5] at H
     exact absurd H (by simp)
   ·rw [if_neg c3] at H
    have c3b0 := decide_eq_false c3
    clear c3
    simp only [Option.some.injEq, Prod.mk.injEq] at H
    obtain ⟨rfl, rfl⟩ := H
    obtain ⟨Ao11, co11, eo11⟩ := Kd.R_slice HO_0.out
    subst eo11
    go_wp2
    go_ret
    exact ⟨aq8, aq50, aq1, aq29⟩
def laws_heldStringS.l0 : Nat → List ByteArray → Int → Int → Option (Int)
 | 0, _, _, _ => none
 | k + 1, x0, x1, x5 => if x5 < (x0.length : Int) then (if 0 ≤ x5 then ((laws_markText.f k x1).bind fun t102 => (if (rdOf ByteArray.empty x0 x5).toList = t102.toList then (laws_heldStringS.l0 k x0 (wrap64 (x1 + 1)) (wrap64 (x5 + 1))) else (some (-1)))) else (none)) else (some x1)
def laws_heldStringS.f (k : Nat) (l0 : List ByteArray) (a1 : Int) : Option (Int) := laws_heldStringS.l0 k l0 a1 0
theorem laws_heldStringS.mono_l : ∀ k, (∀ y0 y1 y2, LeO (laws_heldStringS.l0 k y0 y1 y2) (laws_heldStringS.l0 (k + 1) y0 y1 y2))
 | 0 => fun _ _ _ r h => by simp [laws_heldStringS.l0] at h
 | k + 1 => by
  have ih0 := laws_heldStringS.mono_l k
  ·intro y0 y1 y2
   unfold laws_heldStringS.l0
   have im0 := @laws_markText.mono; exact mo
theorem laws_heldStringS.mono : ∀ a0 a1 k, LeO (laws_heldStringS.f k a0 a1) (laws_heldStringS.f (k + 1) a0 a1) := by
 intro a0 a1 k
 have ih0 := laws_heldStringS.mono_l k
 unfold laws_heldStringS.f
 have im0 := @laws_markText.mono; exact mo
set_option maxHeartbeats 8000000 in
set_option maxRecDepth 100000 in
theorem laws_heldStringS.calls (k : Nat) (A0 : Option Addr) (c0 : Nat) (l0 : List ByteArray) (a1 : Int) (r : Int) (w : World) (hr0 : Kd.C Kd.string w A0 l0.length l0) (hc0 : l0.length ≤ c0) (h : laws_heldStringS.f k l0 a1 = some r) :
  Calls Tryz.prog 19 #[.slice A0 l0.length c0, .int .i64 a1] w fun e w' => e = .returned (.int .i64 r) ∧ Below w.heap.size w w' := by
 have HR0 := am hr0
 have HC0 := am hc0
 clear hr0 hc0
 have HB := am (Below.refl w.heap.size w)
 have H : (laws_heldStringS.l0 k l0 a1 0) = some r := h
 clear h
 have H' := am H
 clear H
 go_enter Tryz.func19, Tryz.ntmps19
 go_wp2
 go_loopg [1, 5] k (fun kq v1 v5 w' => ∃ (x1_1 : Int) (x5_1 : Int), v1 = .int .i64 x1_1 ∧ v5 = .int .i64 x5_1 ∧ Aside0 (laws_heldStringS.l0 kq l0 x1_1 x5_1 = some r) ∧ Aside0 (kq ≤ k) ∧ Aside0 (Below w.heap.size w w'))
 case atStart => exact ⟨(a1), (0), aq7, aq7, H', ⟨Nat.le_refl _⟩, ⟨aq1⟩⟩
 case round =>
  clear H'
  try clear c1
  try clear p2
  obtain ⟨x1_1, x5_1, rfl, rfl, HA, HK1, HB⟩ := hrel
  cases gk with
  | zero => exact absurd HA.out (by simp [laws_heldStringS.l0])
  | succ k1 =>
   have H := HA.out
   clear HA
   simp only [laws_heldStringS.l0] at H
   by_cases c3 : x5_1 < (l0.length : Int)
   ·rw [if_pos c3] at H
    have c3b0 := decide_eq_true c3
    clear c3
    by_cases c4 : 0 ≤ x5_1
    ·rw [if_pos c4] at H
     have c4b0 := decide_eq_true c4
     clear c4
     obtain ⟨t102, A50, H⟩ := Option.bind_eq_some_iff.mp H
     have A5 := am A50
     clear A50
     by_cases c6 : (rdOf ByteArray.empty l0 x5_1).toList = t102.toList
     ·rw [if_pos c6] at H
      have c6b0 := beq_iff_eq.mpr c6
      have c6b1 := bne_eq_false_iff_eq.mpr c6
      clear c6
      have H' := am H
      clear H
      try go_wp2
      have n0_ := am (below_drew1 HB.out)
      clear HB
      have HB := n0_
      clear n0_
      have p101 : 0 ≤ (x5_1 : Int) := of_decide_eq_true aq6
      have q101 : x5_1 < (l0.length : Int) := of_decide_eq_true aq6
      obtain ⟨ad101, e101, hx101_0⟩ := Kd.at_string HR0.out x5_1 p101 q101
      have hw101_0 := hx101_0
      cases e101
      try replace hx101_0 := (HB.out.cell (World.block_lt_of_cell? w _ hx101_0)).trans hx101_0
      replace p101 := eq_true p101
      replace q101 := eq_true q101
      refine start_ (n := 7) (S := fun w' => w'.cell? (ad101.add (x5_1).toNat) = some (.string (rdOf ByteArray.empty l0 x5_1))) (ds := []) #[false, false, false, false, false, false, false] (by kernel_rfl) rfl rfl (((HB.out.cell (World.block_lt_of_cell? w _ hw101_0)).trans hw101_0)) (fun hHeld => ?_)
      generalize wr.drew = w7 at HB hx101_0 hHeld ⊢
      refine pure_ (i := 0) (N := some 12) (v := ?_) (a' := ?_) (bm 7 1) rfl rfl (by kernel_rfl) (fun _ _ _ h => h) (Or.inl ⟨by rfl, ?_⟩) ?_ ?_
      rotate_left
      ·intro w'
       go_simp
       with_reducible rfl
      rotate_left
      ·simp only [Act.put, ac_]
       rfl
      refine pure_ (i := 1) (N := some 13) (v := ?_) (a' := ?_) (bm 7 3) rfl rfl (by kernel_rfl) (fun _ _ _ h => h) (Or.inl ⟨by rfl, ?_⟩) ?_ ?_
      rotate_left
      ·intro w'
       go_simp
       with_reducible rfl
      rotate_left
      ·simp only [Act.put, ac_]
       rfl
      refine pure_ (i := 2) (N := some 14) (v := ?_) (a' := ?_) (bm 7 7) rfl rfl (by kernel_rfl) (fun _ _ _ h => h) (Or.inl ⟨by rfl, ?_⟩) ?_ ?_
      rotate_left
      ·intro w'
       go_simp
       with_reducible rfl
      rotate_left
      ·simp only [Act.put, ac_]
       rfl
      refine pure_ (i := 4) (N := some 16) (v := ?_) (a' := ?_) (bm 7 23) rfl rfl (by kernel_rfl) (fun _ _ _ h => h) (Or.inl ⟨by rfl, ?_⟩) ?_ ?_
      rotate_left
      ·intro w'
       go_simp
       with_reducible rfl
      rotate_left
      ·simp only [Act.put, ac_]
       rfl
      refine take_ (i := 3) (N := some 15) (v := ?_) (a' := ?_) (bm 7 31) rfl rfl (by kernel_rfl) (fun _ _ _ h => h) (Or.inl ⟨by rfl, ?_⟩) hHeld ?_ ?_
      rotate_left
      ·intro w' s0
       go_simp
       with_reducible rfl
      rotate_left
      ·simp only [Act.put, ac_]
       rfl
      refine one_ (i := 5) (N := some 17) (bm 7 63) rfl rfl (by kernel_rfl) (by decide) (fun K hK => ?_)
      refine goes_ Tryz.func61 (by kernel_rfl) rfl #[.int .i64 x1_1] (by rfl) rfl rfl aq5 ?_
      with_reducible refine (laws_markText.calls k1 x1_1 t102 _ A5.out).mono ?_
      rintro e w8 ⟨rfl, hb⟩
      refine ⟨_, rfl, ?_⟩
      have n0_ := am (below_step aq1 hb)
      clear HB
      have HB := n0_
      clear n0_
      (try clear hb)
      (try clear hb2)
      (try clear hk)
      (try clear hi)
      refine hK.out _ _ (((HB.out.cell (World.block_lt_of_cell? w _ hw101_0)).trans hw101_0)) (fun hHeld => ?_)
      clear hK K
      refine norm_ (a' := ?_) ?_ ?_
      rotate_left
      ·show Act.put _ (some 17) _ = _
       simp only [Act.put, ac_]
       rfl
      refine pure_ (i := 6) (N := some 18) (v := ?_) (a' := ?_) (bm 7 127) rfl rfl (by kernel_rfl) (fun _ _ _ h => h) (Or.inl ⟨by rfl, ?_⟩) ?_ ?_
      rotate_left
      ·intro w'
       go_simp
       with_reducible rfl
      rotate_left
      ·simp only [Act.put, ac_]
       rfl
      refine done_ (by kernel_rfl) ?_
      try go_wp2
      go_roundg k1
      case measure => have := HK1.out; omega
      case rel => exact ⟨(wrap64 (x1_1 + 1)), (wrap64 (x5_1 + 1)), aq7, aq7, H', ⟨aq70⟩, ⟨aq1⟩⟩
     ·rw [if_neg c6] at H
      have c6b0 := beq_eq_false_iff_ne.mpr c6
      have c6b1 := bne_iff_ne.mpr c6
      obtain rfl := Option.some.inj H
      try go_wp2
      have n0_ := am (below_drew1 HB.out)
      clear HB
      have HB := n0_
      clear n0_
      have p101 : 0 ≤ (x5_1 : Int) := of_decide_eq_true aq6
      have q101 : x5_1 < (l0.length : Int) := of_decide_eq_true aq6
      obtain ⟨ad101, e101, hx101_0⟩ := Kd.at_string HR0.out x5_1 p101 q101
      have hw101_0 := hx101_0
      cases e101
      try replace hx101_0 := (HB.out.cell (World.block_lt_of_cell? w _ hx101_0)).trans hx101_0
      replace p101 := eq_true p101
      replace q101 := eq_true q101
      refine start_ (n := 7) (S := fun w' => w'.cell? (ad101.add (x5_1).toNat) = some (.string (rdOf ByteArray.empty l0 x5_1))) (ds := []) #[false, false, false, false, false, false, false] (by kernel_rfl) rfl rfl (((HB.out.cell (World.block_lt_of_cell? w _ hw101_0)).trans hw101_0)) (fun hHeld => ?_)
      generalize wr.drew = w9 at HB hx101_0 hHeld ⊢
      refine pure_ (i := 0) (N := some 12) (v := ?_) (a' := ?_) (bm 7 1) rfl rfl (by kernel_rfl) (fun _ _ _ h => h) (Or.inl ⟨by rfl, ?_⟩) ?_ ?_
      rotate_left
      ·intro w'
       go_simp
       with_reducible rfl
      rotate_left
      ·simp only [Act.put, ac_]
       rfl
      refine pure_ (i := 1) (N := some 13) (v := ?_) (a' := ?_) (bm 7 3) rfl rfl (by kernel_rfl) (fun _ _ _ h => h) (Or.inl ⟨by rfl, ?_⟩) ?_ ?_
      rotate_left
      ·intro w'
       go_simp
       with_reducible rfl
      rotate_left
      ·simp only [Act.put, ac_]
       rfl
      refine pure_ (i := 2) (N := some 14) (v := ?_) (a' := ?_) (bm 7 7) rfl rfl (by kernel_rfl) (fun _ _ _ h => h) (Or.inl ⟨by rfl, ?_⟩) ?_ ?_
      rotate_left
      ·intro w'
       go_simp
       with_reducible rfl
      rotate_left
      ·simp only [Act.put, ac_]
       rfl
      refine pure_ (i := 4) (N := some 16) (v := ?_) (a' := ?_) (bm 7 23) rfl rfl (by kernel_rfl) (fun _ _ _ h => h) (Or.inl ⟨by rfl, ?_⟩) ?_ ?_
      rotate_left
      ·intro w'
       go_simp
       with_reducible rfl
      rotate_left
      ·simp only [Act.put, ac_]
       rfl
      refine take_ (i := 3) (N := some 15) (v := ?_) (a' := ?_) (bm 7 31) rfl rfl (by kernel_rfl) (fun _ _ _ h => h) (Or.inl ⟨by rfl, ?_⟩) hHeld ?_ ?_
      rotate_left
      ·intro w' s0
       go_simp
       with_reducible rfl
      rotate_left
      ·simp only [Act.put, ac_]
       rfl
      refine one_ (i := 5) (N := some 17) (bm 7 63) rfl rfl (by kernel_rfl) (by decide) (fun K hK => ?_)
      refine goes_ Tryz.func61 (by kernel_rfl) rfl #[.int .i64 x1_1] (by rfl) rfl rfl aq5 ?_
      with_reducible refine (laws_markText.calls k1 x1_1 t102 _ A5.out).mono ?_
      rintro e w10 ⟨rfl, hb⟩
      refine ⟨_, rfl, ?_⟩
      have n0_ := am (below_step aq1 hb)
      clear HB
      have HB := n0_
      clear n0_
      (try clear hb)
      (try clear hb2)
      (try clear hk)
      (try clear hi)
      refine hK.out _ _ (((HB.out.cell (World.block_lt_of_cell? w _ hw101_0)).trans hw101_0)) (fun hHeld => ?_)
      clear hK K
      refine norm_ (a' := ?_) ?_ ?_
      rotate_left
      ·show Act.put _ (some 17) _ = _
       simp only [Act.put, ac_]
       rfl
      refine pure_ (i := 6) (N := some 18) (v := ?_) (a' := ?_) (bm 7 127) rfl rfl (by kernel_rfl) (fun _ _ _ h => h) (Or.inl ⟨by rfl, ?_⟩) ?_ ?_
      rotate_left
      ·intro w'
       go_simp
       with_reducible rfl
      rotate_left
      ·simp only [Act.put, ac_]
       rfl
      refine done_ (by kernel_rfl) ?_
      try go_wp2
      go_ret
      exact ⟨aq8, aq1⟩
    ·rw [if_neg c4] at H
     exact absurd H (by simp)
   ·rw [if_neg c3] at H
    have c3b0 := decide_eq_false c3
    clear c3
    obtain rfl := Option.some.inj H
    go_wp2
    go_ret
    exact ⟨aq8, aq1⟩
end Go.Proofs.YtdffgeoegdkiaaaGreatDoor.F

namespace Go.Proofs.YtdffgeoegdkiaaaGreatDoor.F
open Go.RowKit Go.Proofs.YtdffgeoegdkiaaaGreatDoor Go.Proofs.YtdffgeoegdkiaaaGreatDoorW.PrintWords Go.Proofs.YtdffgeoegdkiaaaGreatDoorW.PrintMore
theorem eqS_l0 (l : List ByteArray) (hl : l.length ≤ 1000) : ∀ (n i : Nat), i + n = l.length → Ev (fun k => laws_eqStringS.l0 k l l (i : Int)) true
  | 0, i, hi => Ev.step (fun k => by rw [laws_eqStringS.l0, if_neg (by omega)]) (Ev.now _)
  | n + 1, i, hi => by
    have HW : Aside0 (wrap64 ((i : Int) + 1) = ((i + 1 : Nat) : Int)) := ⟨by rw [w64 (by omega) (by omega)]; rfl⟩
    refine Ev.step (fun k => ?_) (eqS_l0 l hl n (i + 1) (by omega))
    rw [laws_eqStringS.l0, if_pos (by omega), if_pos (by omega), if_pos (by omega), if_pos rfl, HW.out]
theorem eqS_ev (l : List ByteArray) (hl : l.length ≤ 1000) : Ev (fun k => laws_eqStringS.f k l l) true :=
  Ev.congr (fun k => by rw [laws_eqStringS.f, if_pos rfl]; rfl) (eqS_l0 l hl l.length 0 (by omega))
theorem markText_l0 : ∀ (d n : Nat) (acc : ByteArray), n < d → d < 100000 → acc.size + d < 1000000 → ∃ t, Ev (fun k => laws_markText.l0 k (n : Int) acc) t
  | 0, n, acc, h, _, _ => absurd h (Nat.not_lt_zero _)
  | d + 1, n, acc, h, hd, ha => by
    by_cases h0 : n = 0
    · subst h0
      exact ⟨_, Ev.step (fun k => by rw [laws_markText.l0, if_neg (by decide), if_pos (by omega)]) (Ev.now _)⟩
    · have e1 : Int.tdiv (n : Int) 10 = ((n / 10 : Nat) : Int) := rfl
      have hlt : n / 10 < d := by omega
      have hsz : (strOfNums [(wrap64 (48 + (Int.tmod (n : Int) 10))) % 256]).size = 1 := rfl
      obtain ⟨t, ht⟩ := markText_l0 d (n / 10) (strOfNums [(wrap64 (48 + (Int.tmod (n : Int) 10))) % 256] ++ acc) hlt (by omega) (by rw [ByteArray.size_append, hsz]; omega)
      have HW : Aside0 (wrap64 ((n / 10 : Nat) : Int) = ((n / 10 : Nat) : Int)) := ⟨w64 (by omega) (by omega)⟩
      refine ⟨t, Ev.step (fun k => ?_) ht⟩
      rw [laws_markText.l0, if_pos (by omega), Option.bind_some, if_pos (by rw [hsz]; omega), e1, HW.out]
theorem markText_ex (n : Nat) (hn : n < 5000) : ∃ t, Ev (fun k => laws_markText.f k (n : Int)) t := by
  by_cases h0 : n = 0
  · subst h0; exact ⟨_, Ev.congr (fun k => by rw [laws_markText.f, if_pos (by decide)]) (Ev.now _)⟩
  · obtain ⟨t, ht⟩ := markText_l0 (n + 1) n (⟨#[]⟩ : ByteArray) (by omega) (by omega) (by show 0 + (n + 1) < _; omega)
    exact ⟨t, Ev.congr (fun k => by rw [laws_markText.f, if_neg (by omega)]) ht⟩
noncomputable def mkT (n : Nat) : ByteArray := if h : n < 5000 then Classical.choose (markText_ex n h) else ByteArray.empty
theorem mkT_ev {n : Nat} (hn : n < 5000) : Ev (fun k => laws_markText.f k (n : Int)) (mkT n) := by
  unfold mkT; rw [dif_pos hn]; exact Classical.choose_spec (markText_ex n hn)
noncomputable def marksT (m n : Nat) : List ByteArray := (List.range n).map fun j => mkT (m + j)
theorem marksT_length (m n : Nat) : (marksT m n).length = n := by simp [marksT]
theorem markS_l0 (l : List ByteArray) (m : Nat) (hl : l.length ≤ 1000) (hm : m ≤ 1000) : ∀ (n i : Nat), i + n = l.length →
    Ev (fun k => laws_markStringS.l0 k (marksT m i ++ l.drop i) ((m + i : Nat) : Int) (i : Int)) (((m + l.length : Nat) : Int), marksT m l.length)
  | 0, i, hi => by
    obtain rfl : i = l.length := by omega
    rw [List.drop_eq_nil_of_le (Nat.le_refl _), List.append_nil]
    exact Ev.step (fun k => by rw [laws_markStringS.l0, if_neg (by rw [marksT_length]; omega)]) (Ev.now _)
  | n + 1, i, hi => by
    have hil : i < l.length := by omega
    have HW : Aside0 (wrap64 ((i : Int) + 1) = ((i + 1 : Nat) : Int)) := ⟨by rw [w64 (by omega) (by omega)]; rfl⟩
    have HM : Aside0 (wrap64 (((m + i : Nat) : Int) + 1) = ((m + (i + 1) : Nat) : Int)) := ⟨by rw [w64 (by omega) (by omega)]; omega⟩
    have hset : (marksT m i ++ l.drop i).set i (mkT (m + i)) = marksT m (i + 1) ++ l.drop (i + 1) := by
      rw [List.set_append_right _ _ (by rw [marksT_length]; exact Nat.le_refl _), marksT_length, Nat.sub_self, List.drop_eq_getElem_cons hil, List.set_cons_zero]
      unfold marksT
      rw [List.range_succ, List.map_append, List.append_assoc]; rfl
    have ih := markS_l0 l m hl hm n (i + 1) (by omega)
    refine Ev.step (f := fun k => (laws_markText.f k ((m + i : Nat) : Int)).bind fun t => laws_markStringS.l0 k ((marksT m i ++ l.drop i).set i t) ((m + (i + 1) : Nat) : Int) ((i + 1 : Nat) : Int)) (fun k => ?_) (Ev.bind (mkT_ev (by omega)) (by rw [hset]; exact ih))
    rw [laws_markStringS.l0, if_pos (by rw [List.length_append, marksT_length, List.length_drop]; omega), HW.out, HM.out]
    congr 1
theorem markS_ev (l : List ByteArray) (hl : l.length ≤ 1000) : Ev (fun k => laws_markStringS.f k l 1) (((1 + l.length : Nat) : Int), marksT 1 l.length) := by
  have h0 := markS_l0 l 1 hl (by omega) l.length 0 (by omega)
  exact h0
theorem heldS_l0 (m n : Nat) (hn : n ≤ 1000) (hm : m ≤ 1000) : ∀ (d i : Nat), i + d = n → Ev (fun k => laws_heldStringS.l0 k (marksT m n) ((m + i : Nat) : Int) (i : Int)) ((m + n : Nat) : Int)
  | 0, i, hi => by
    obtain rfl : i = n := by omega
    exact Ev.step (fun k => by rw [laws_heldStringS.l0, if_neg (by rw [marksT_length]; omega)]) (Ev.now _)
  | d + 1, i, hi => by
    have HW : Aside0 (wrap64 ((i : Int) + 1) = ((i + 1 : Nat) : Int)) := ⟨by rw [w64 (by omega) (by omega)]; rfl⟩
    have HM : Aside0 (wrap64 (((m + i : Nat) : Int) + 1) = ((m + (i + 1) : Nat) : Int)) := ⟨by rw [w64 (by omega) (by omega)]; omega⟩
    have hget : rdOf ByteArray.empty (marksT m n) (i : Int) = mkT (m + i) := by
      unfold rdOf marksT
      rw [Int.toNat_natCast, List.getD_eq_getElem?_getD, List.getElem?_map, List.getElem?_range (by omega)]; rfl
    refine Ev.step (f := fun k => (laws_markText.f k ((m + i : Nat) : Int)).bind fun t => if (mkT (m + i)).toList = t.toList then laws_heldStringS.l0 k (marksT m n) ((m + (i + 1) : Nat) : Int) ((i + 1 : Nat) : Int) else some (-1)) (fun k => ?_) (Ev.bind (mkT_ev (by omega)) (Ev.congr (fun k => if_pos rfl) (heldS_l0 m n hn hm d (i + 1) (by omega))))
    rw [laws_heldStringS.l0, if_pos (by rw [marksT_length]; omega), if_pos (by omega), HW.out, HM.out, hget]
theorem heldS_ev (n : Nat) (hn : n ≤ 1000) : Ev (fun k => laws_heldStringS.f k (marksT 1 n) 1) ((1 + n : Nat) : Int) := by
  have h0 := heldS_l0 1 n hn (by omega) n 0 (by omega)
  exact h0
end Go.Proofs.YtdffgeoegdkiaaaGreatDoor.F

namespace Go.Proofs.YtdffgeoegdkiaaaGreatDoor.F
open Go.RowKit Go.Proofs.YtdffgeoegdkiaaaGreatDoor Go.Proofs.YtdffgeoegdkiaaaGreatDoorW.PrintWords Go.Proofs.YtdffgeoegdkiaaaGreatDoorW.PrintLast Go.Proofs.YtdffgeoegdkiaaaGreatDoorW.PrintMore Go.Lib
attribute [local go_sem] max2_int min2_int max_two min_two max_three min_three max_four min_four
def Sv (t : TypeId) (W : World) (base : Nat) (ok : Nat → Prop) (v : Value) (xs : List Int) : Prop :=
  ∃ g cap cur lo hi, v = .slice (some ⟨g, 0, none⟩) xs.length cap ∧ ok g ∧ W.heap[g]? = some (.cells cur t (lo, hi)) ∧ xs.length ≤ cap ∧ cap ≤ lo ∧ xs.length ≤ 9223372036854775807 ∧ ∀ j, j < xs.length → cur[j]? = some (.int .u8 (xs.getD j 0))
section
variable {t : TypeId} {W w1 : World} {base base' : Nat} {ok ok' : Nat → Prop} {v : Value} {xs : List Int}
end
theorem conv_S (W : World) (e : TypeId) (s : ByteArray) (hmax : s.size ≤ 9223372036854775807) : Sv e (Lib.bytesWorld W e s) W.heap.size (fun k_ => W.heap.size ≤ k_) (.slice (some ⟨W.heap.size, 0, none⟩) s.size (grownCap W s.size 0 e)) (bytesOf s) := by
  have hl := bytesOf_length s
  have hcap : s.size ≤ grownCap W s.size 0 e := by exact grownCap_ge ..
  refine ⟨W.heap.size, grownCap W s.size 0 e, _, _, _, by rw [hl], Nat.le_refl _, Lib.bytesWorld_at_new W e s, by rw [hl]; exact hcap, ?_, by rw [hl]; exact hmax, ?_⟩
  · unfold Lib.bytesCells
    rw [Array.size_append, Array.size_map, Array.size_replicate]
    show _ ≤ s.size + _
    omega
  · intro j hj
    rw [hl] at hj
    have hc := Lib.bytesWorld_cell W e s j hj
    unfold World.cell? at hc
    rw [Lib.bytesWorld_at_new] at hc
    have hc' : (Lib.bytesCells W e s)[j]? = some (.int .u8 (s.data.toList.getD j 0).toNat) := hc
    rw [hc']
    unfold bytesOf
    rw [List.getD_eq_getElem?_getD, List.getD_eq_getElem?_getD, List.getElem?_map]
    have hjl : j < s.data.toList.length := by rw [data_length]; exact hj
    rw [List.getElem?_eq_getElem hjl]; rfl
section
variable {P : Program} {ops : Array Oper} {rest : List Oper} {o : Oper} {a : Act} {Q : Exit → Act → World → Prop} {W : World} {Kc : Act → World → Prop}
theorem conv_eventS (hgd : o.guard = none) {N : Tmp} (_hd : o.dst = some N) (src dst e : TypeId) (x : Operand) (ho : o.op = .convert src dst x) (s : ByteArray) (hx : a.eval x = .string s)
    (hs : P.underlying src = some .string) (hdst : P.underlying dst = some (.slice e)) (he : P.underlying e = some (.int .u8)) (r : List Int) (hr : conv_bytes.f s = some r)
    (h : ∀ v w1, Sv e w1 W.heap.size (fun k_ => (W.heap.size ≤ k_)) v r → Below W.heap.size W w1 → wpList P ops Q rest (a.put o.dst v) w1) : wpList P ops Q (o :: rest) a W := by
  obtain ⟨hmax, rfl⟩ := conv_bytes_some hr
  refine Kd.event_run hgd (v := .slice (some ⟨W.heap.size, 0, none⟩) s.size (grownCap W s.size 0 e)) (w1 := Lib.bytesWorld W e s) ?_ (h _ _ (conv_S W e s hmax) (conv_below W e s))
  simp [execOp, ho, hx, Lib.run_convert_string_bytes W src dst e s hs hdst he]
end
end Go.Proofs.YtdffgeoegdkiaaaGreatDoor.F

namespace Go.Proofs.YtdffgeoegdkiaaaGreatDoor
open Go.RowKit Go.Proofs.YtdffgeoegdkiaaaGreatDoorW.PrintWords Go.Proofs.YtdffgeoegdkiaaaGreatDoorW.PrintLast Go.Proofs.YtdffgeoegdkiaaaGreatDoorW.PrintMore Go.Lib
namespace Kx
def R (t : TypeId) (W : World) (base : Nat) (ok : Nat → Prop) (v : Value) (xs : List Int) : Prop :=
  (∀ k, v.ownBlock = some k → ok k) ∧ ∃ g cap cur lo hi, v = .slice (some ⟨g, 0, none⟩) xs.length cap ∧ base ≤ g ∧ W.heap[g]? = some (.cells cur t (lo, hi)) ∧ xs.length ≤ cap ∧ cap ≤ lo ∧ xs.length ≤ 9223372036854775807 ∧ ∀ j, j < xs.length → cur[j]? = some (.int .u8 (xs.getD j 0))
section
variable {t e e' base base' n cap g : Nat} {W w1 : World} {ok ok' : Nat → Prop} {u v : Value} {xs : List Int} {α : Type} {d : Kd α} {ys : List α}
theorem R_mono (h : R t W base ok v xs) (hok : ∀ k, ok k → ok' k) : R t W base ok' v xs := ⟨fun k hk => hok k (h.1 k hk), h.2⟩
theorem R_lower (h : R t W base ok v xs) (hb : base' ≤ base) : R t W base' ok v xs := by
  obtain ⟨h0, g, cap, cur, lo, hi, e, h1, r⟩ := h; exact ⟨h0, g, cap, cur, lo, hi, e, Nat.le_trans hb h1, r⟩
theorem R_move (h : R t W base ok v xs) (hm : ∀ k, v.ownBlock = some k → k < W.heap.size → w1.heap[k]? = W.heap[k]?) : R t w1 base ok v xs := by
  obtain ⟨h0, g, cap, cur, lo, hi, e, h1, h2, r⟩ := h
  exact ⟨h0, g, cap, cur, lo, hi, e, h1, (hm g (by rw [e]; rfl) (Array.getElem?_eq_some_iff.1 h2).1).trans h2, r⟩
theorem R_below (h : R t W base ok v xs) (hb : Below W.heap.size W w1) : R t w1 base ok v xs := R_move h (fun k _ hk => hb.block k hk)
theorem R_alloc (h : R t W base ok v xs) (o : Obj) : R t (W.alloc o) base ok v xs := R_below h ((Below.refl _ W).alloc (Nat.le_refl _) o)
theorem R_drewN (h : R t W base ok v xs) (m : Nat) : R t (W.drewN m) base ok v xs := h
theorem R_drew (h : R t W base ok v xs) : R t W.drew base ok v xs := h
theorem R_far (h : R t W base ok v xs) {p : Addr} (hok : ∀ k, ok k → k ≠ p.block) (u : Value) : R t (W.setCell p u) base ok v xs := R_move h (fun k hk _ => Below.heap_setCell W p u k (hok k (h.1 k hk)))
theorem R_blk (h : R t W base ok v xs) : ∀ k, v.ownBlock = some k → ∃ cells m, W.heap[k]? = some (.cells cells t m) := by
  obtain ⟨_, g, cap, cur, lo, hi, e, h1, h2, _⟩ := h
  intro k hk
  rw [e] at hk
  obtain rfl : g = k := Option.some.inj hk
  exact ⟨cur, _, h2⟩
theorem R_types (h : R t W base ok v xs) {cells : Array Value} (hb : W.heap[g]? = some (.cells cells e (0, 0))) (ht : t ≠ e) : R t W base (fun k => ok k ∧ k ≠ g) v xs :=
  ⟨fun k hk => ⟨h.1 k hk, by
    rintro rfl
    obtain ⟨c, m, hc⟩ := R_blk h k hk
    rw [hb] at hc
    injection hc with hc
    injection hc with _ hc
    exact ht hc.symm⟩, h.2⟩
theorem R_ne (h : R t W base ok v xs) {cells : Array Value} (hb : W.heap[g]? = some (.cells cells e (0, 0))) (ht : t ≠ e) : some g ≠ v.ownBlock := fun hk => ((R_types h hb ht).1 g hk.symm).2 rfl
theorem R_apart' (h : R t W base ok v xs) (hty : ∀ k, u.ownBlock = some k → ∃ cells, W.heap[k]? = some (.cells cells e' (0, 0))) (ht : t ≠ e') : R t W base (fun k => ok k ∧ some k ≠ u.ownBlock) v xs :=
  ⟨fun k hk => ⟨h.1 k hk, fun hu => by
    obtain ⟨c, hc⟩ := hty k hu.symm
    exact R_ne h hc ht hk.symm⟩, h.2⟩
theorem R_tight (_h : (0 : Nat) = 0) (h : R t W base ok v xs) : R t W base (fun k => some k = v.ownBlock) v xs := ⟨fun k hk => hk.symm, h.2⟩
theorem R_slice (h : R t W base ok v xs) : ∃ A c, v = .slice A xs.length c := by
  obtain ⟨_, g, cap, cur, lo, hi, e, _⟩ := h; exact ⟨_, _, e⟩
theorem R_form (h : R t W base ok v xs) (_hp : 0 < xs.length) : ∃ g cap, v = .slice (some ⟨g, 0, none⟩) xs.length cap ∧ base ≤ g ∧ g < W.heap.size ∧ ∃ cells, ∃ m, W.heap[g]? = some (.cells cells t m) := by
  obtain ⟨_, g, cap, cur, lo, hi, e, h1, h2, _⟩ := h; exact ⟨g, cap, e, h1, (Array.getElem?_eq_some_iff.1 h2).1, cur, _, h2⟩
theorem R_parts (h : R t W base ok (.slice (some ⟨g, 0, none⟩) n cap) xs) : n = xs.length ∧ base ≤ g ∧ ∃ cur lo hi, W.heap[g]? = some (.cells cur t (lo, hi)) ∧ xs.length ≤ cap ∧ cap ≤ lo ∧ xs.length ≤ 9223372036854775807 ∧ ∀ j, j < xs.length → cur[j]? = some (.int .u8 (xs.getD j 0)) := by
  obtain ⟨_, g', cap', cur, lo, hi, e, h1, r⟩ := h
  injection e with e1 e2 e3
  injection e1 with e1
  injection e1 with e1
  subst e1 e3
  exact ⟨e2, h1, cur, lo, hi, r⟩
theorem R_celln (d : Int) (h : R t W base ok (.slice (some ⟨g, 0, none⟩) n cap) xs) (i : Int) (h0 : 0 ≤ i) (hi : i < n) : W.cell? ⟨g, i.toNat, none⟩ = some (.int .u8 (rdOf d xs i)) ∧ W.frozen? ⟨g, i.toNat, none⟩ = false := by
  obtain ⟨rfl, hb, cur, lo, hi', h2, h3, h4, h5, h6⟩ := R_parts h
  have hil : i.toNat < xs.length := by omega
  refine ⟨(cell_of_row W g i.toNat cur t _ h2).trans ((h6 _ hil).trans ?_), ?_⟩
  · unfold rdOf
    rw [List.getD_eq_getElem?_getD, List.getD_eq_getElem?_getD, List.getElem?_eq_getElem hil]; rfl
  · simp [World.frozen?, h2]
    omega
theorem R_putg (h : R t W base ok (.slice (some ⟨g, 0, none⟩) n cap) xs) (i : Int) (x : Int) : R t (W.setCell ⟨g, i.toNat, none⟩ (.int .u8 x)) base ok (.slice (some ⟨g, 0, none⟩) n cap) (xs.set i.toNat x) ∧ W.grownBy (W.setCell ⟨g, i.toNat, none⟩ (.int .u8 x)) (some g) := by
  have h0 := h.1
  obtain ⟨rfl, hb, cur, lo, hi, h2, h3, h4, h5, h6⟩ := R_parts h
  refine ⟨⟨h0, g, cap, cur.setIfInBounds i.toNat (.int .u8 x), lo, hi, by rw [List.length_set], hb, ?_, by rw [List.length_set]; exact h3, h4, by rw [List.length_set]; exact h5, fun j hj => ?_⟩, ?_⟩
  · simp [World.setCell, Array.getElem?_modify, h2]
  · rw [List.length_set] at hj
    have hc := h6 j hj
    have hjs := (Array.getElem?_eq_some_iff.1 hc).1
    by_cases e : i.toNat = j
    · subst e
      rw [Array.getElem?_setIfInBounds_self, if_pos hjs, List.getD_eq_getElem?_getD, List.getElem?_set_self hj]; rfl
    · rw [Array.getElem?_setIfInBounds_ne e, hc, List.getD_eq_getElem?_getD, List.getD_eq_getElem?_getD, List.getElem?_set_ne e]
  · exact ⟨rfl, rfl, rfl, by rw [World.size_setCell]; exact Nat.le_refl _, fun k hk hne => Below.heap_setCell W _ _ k (fun e => hne (by rw [e]))⟩
theorem R_over' (h : d.R e W base ok u ys) (hty : ∀ k, v.ownBlock = some k → ∃ cells m, W.heap[k]? = some (.cells cells e' m)) (ht : ∀ q, q ∈ e :: d.E → q ≠ e') (hg : W.grownBy w1 v.ownBlock) : d.R e w1 base ok u ys := by
  refine Kd.R_mono (Kd.R_move (Kd.R_bound h) (fun k hk => hg.block k hk.2.2.1 (fun he => ?_))) (fun _ hk => hk.1)
  obtain ⟨_, _, _, q, hq, cells, hc⟩ := hk
  obtain ⟨cells', m, hc'⟩ := hty k he.symm
  rw [hc] at hc'
  injection hc' with hc'
  injection hc' with _ hc'
  exact ht q hq hc'
theorem R_V (h : R t W base ok v xs) : Kd.V (Kd.int .u8) t W base' ok v xs := by
  obtain ⟨h0, g, cap, cur, lo, hi, rfl, h1, h2, h3, h4, h5, h6⟩ := h
  refine ⟨_, cap, rfl, h3, fun W' hW => ?_⟩
  have h2' : W'.heap[g]? = some (.cells cur t (lo, hi)) := (hW g (h0 g rfl) (Array.getElem?_eq_some_iff.1 h2).1).trans h2
  refine Kd.C_of_reads (enc := Value.int .u8) (d := (0 : Int)) (h1 := fun _ => rfl) ⟨rfl, h5, fun _ => ⟨_, rfl, fun j hj => ?_⟩⟩
  have := (cell_of_row W' g j cur t _ h2').trans (h6 j hj)
  rwa [show (Addr.add ⟨g, 0, none⟩ j) = ⟨g, j, none⟩ from by cases j <;> simp [Addr.add]]
end
end Kx
namespace F
open Go.Proofs.YtdffgeoegdkiaaaGreatDoor
end F
end Go.Proofs.YtdffgeoegdkiaaaGreatDoor

namespace Go.Proofs.YtdffgeoegdkiaaaGreatDoor
theorem compact_same {α : Type} [Inhabited α] [DecidableEq α] (zs : List α) : (Go.Lib.compact zs).length = zs.length ↔ ∀ j, j < zs.length → Go.Lib.keeps zs.toArray j = true := by
  unfold Go.Lib.compact Go.Lib.compactUpTo
  rw [List.length_map]
  constructor
  · intro h j hj
    have h2 : ((List.range zs.length).filter (Go.Lib.keeps zs.toArray)).length = (List.range zs.length).length := by rw [h, List.length_range]
    exact List.length_filter_eq_length_iff.1 h2 j (List.mem_range.2 hj)
  · intro h
    rw [List.length_filter_eq_length_iff.2 (fun j hj => h j (List.mem_range.1 hj)), List.length_range]
theorem compact_le {α : Type} [Inhabited α] [DecidableEq α] (zs : List α) : (Go.Lib.compact zs).length ≤ zs.length := by
  unfold Go.Lib.compact Go.Lib.compactUpTo
  rw [List.length_map]
  exact Nat.le_trans (List.length_filter_le _ _) (by rw [List.length_range]; exact Nat.le_refl _)
end Go.Proofs.YtdffgeoegdkiaaaGreatDoor

namespace Go.Proofs.YtdffgeoegdkiaaaGreatDoor.F
open Go.Proofs.YtdffgeoegdkiaaaGreatDoor
open Go.RowKit Go.Proofs.YtdffgeoegdkiaaaGreatDoorW.PrintWords Go.Proofs.YtdffgeoegdkiaaaGreatDoorW.PrintLast Go.Proofs.YtdffgeoegdkiaaaGreatDoorW.PrintMore Go.Lib Go.Sort
attribute [local go_sem] max2_int min2_int
def impl_ShortWord.f (a0 : ByteArray) : Option (ByteArray × Bool) := (impl_IsWord.f a0).bind fun b => if b = true then (if a0.size < 65536 then some (strOfNums (Go.Lib.compact (bytesOf a0)), true) else none) else some (ByteArray.empty, false)
theorem Sv_holds {t : TypeId} {W : World} {base : Nat} {ok : Nat → Prop} {v : Value} {xs : List Int} (h : Sv t W base ok v xs) : ∃ g cap, v = .slice (some ⟨g, 0, none⟩) xs.length cap ∧ xs.length ≤ cap ∧ ok g ∧ Holds (Value.int .u8) W g 0 xs.toArray ∧ xs.length ≤ 9223372036854775807 ∧
    ∀ (ds : List Int) (m n : Nat), ds.length = xs.length → m ≤ ds.length → (Kd.int .u8).C (putRow (Value.int .u8) (Sort.ahead W n) g 0 ds.toArray) (some ⟨g, 0, none⟩) m (ds.take m) := by
  obtain ⟨g, cap, cur, lo, hi, rfl, hok, hrow, hcl, hlo, hm, hcur⟩ := h
  refine ⟨g, cap, rfl, hcl, hok, fun j hj => ?_, hm, fun ds m n hds hmd => ?_⟩
  · have hj' : j < xs.length := by simpa using hj
    refine ⟨?_, ?_⟩
    · rw [Nat.zero_add, (cell_of_row W g j cur t _ hrow).trans (hcur j hj'), getElem!_pos xs.toArray j hj, List.getD_eq_getElem?_getD, List.getElem?_eq_getElem hj']; simp
    · rw [Nat.zero_add]
      simp [World.frozen?, hrow]
      omega
  · have hb : (putRow (Value.int .u8) (Sort.ahead W n) g 0 ds.toArray).heap[g]? = some (.cells (putCells (Value.int .u8) 0 ds.toArray cur) t (lo, hi)) := by
      rw [putRow_heapE, if_pos rfl, hrow]; rfl
    have hsz : ∀ j, j < xs.length → j < cur.size := fun j hj => (Array.getElem?_eq_some_iff.1 (hcur j hj)).1
    have hl : (ds.take m).length = m := by rw [List.length_take]; omega
    have hC : (Kd.int .u8).C (putRow (Value.int .u8) (Sort.ahead W n) g 0 ds.toArray) (some ⟨g, 0, none⟩) (ds.take m).length (ds.take m) := by
      refine Kd.C_of_reads (enc := Value.int .u8) (d := (0 : Int)) (h1 := fun _ => rfl) ⟨rfl, by omega, fun _ => ⟨_, rfl, fun j hj => ?_⟩⟩
      have hj : j < m := by omega
      have hjd : j < ds.length := by omega
      have := cell_of_row (putRow (Value.int .u8) (Sort.ahead W n) g 0 ds.toArray) g j _ t _ hb
      rw [show (Addr.add ⟨g, 0, none⟩ j) = ⟨g, j, none⟩ from by cases j <;> simp [Addr.add], this]
      unfold putCells
      have h1 := hsz j (by omega)
      rw [Array.getElem?_mapIdx, Array.getElem?_eq_getElem h1, List.getD_eq_getElem?_getD, List.getElem?_take, if_pos hj, List.getElem?_eq_getElem hjd]
      simp [hjd]
    rwa [hl] at hC
theorem compact_byte_calls {W : World} {g cap : Nat} {xs : List Int} (hH : Holds (Value.int .u8) W g 0 xs.toArray) (h1 : xs.length ≤ 9223372036854775807) (h2 : xs.length ≤ cap) :
    Calls Tryz.prog 105 #[.slice (some ⟨g, 0, none⟩) xs.length cap] W fun e w' => e = .returned (.slice (some ⟨g, 0, none⟩) (Go.Lib.compact xs).length cap) ∧ ∃ q, w' = putRow (Value.int .u8) (Sort.ahead W q) g 0 (Go.Lib.compact xs ++ List.replicate (xs.length - (Go.Lib.compact xs).length) 0).toArray := by
  have h := Tryz.slices_Compact_f105 (Value.int .u8) (fun _ => rfl) (EqlAt.intD _ _ .u8) (NeqAt.intD _ _ .u8) (0 : Int) Tryz.zeroValue5 g 0 cap xs.toArray W hH (by simpa using h1) (by simpa using h2)
  simpa [Go.Lib.compact] using h
theorem put_below {w W : World} {g q : Nat} (ds : List Int) (h : Below w.heap.size w W) (hg : w.heap.size ≤ g) : Below w.heap.size w (putRow (Value.int .u8) (Sort.ahead W q) g 0 ds.toArray) := by
  have := sortWorld_below (Value.int .u8) g q ds.toArray #[] h hg
  unfold sortWorld at this
  rwa [Go.Sort.grow_empty] at this
set_option maxHeartbeats 4000000 in
set_option maxRecDepth 100000 in
theorem impl_ShortWord.calls (a0 : ByteArray) (r1 : ByteArray) (r2 : Bool) (w : World) (h : impl_ShortWord.f a0 = some (r1, r2)) :
    Calls Tryz.prog 59 #[.string a0] w fun e w' => e = .returned (.tuple #[.string r1, .bool r2]) ∧ Below w.heap.size w w' := by
  unfold impl_ShortWord.f at h
  obtain ⟨b, hw, h⟩ := Option.bind_eq_some_iff.mp h
  have HW := am hw
  clear hw
  cases b with
  | false =>
    obtain ⟨rfl, rfl⟩ : ByteArray.empty = r1 ∧ false = r2 := by simpa using h
    clear h
    go_enter Tryz.func59, Tryz.ntmps59
    go_wp2_with (first | (go_at_call 65; refine (impl_IsWord.calls a0 false _ HW.out).mono ?_; rintro e w' ⟨rfl, hb⟩))
    go_ret2
    exact ⟨rfl, hb⟩
  | true =>
    by_cases hl : a0.size < 65536
    · obtain ⟨rfl, rfl⟩ : strOfNums (Go.Lib.compact (bytesOf a0)) = r1 ∧ true = r2 := by simpa [hl] using h
      have HC := am (show conv_bytes.f a0 = some (bytesOf a0) from by unfold conv_bytes.f; rw [if_pos (by omega)])
      have HLE := am (compact_le (bytesOf a0))
      clear h hl
      go_enter Tryz.func59, Tryz.ntmps59
      go_wp2_with (first
        | (go_at_call 65; refine (impl_IsWord.calls a0 true _ HW.out).mono ?_; rintro e w1 ⟨rfl, hb⟩; have HB := am hb; clear hb)
        | ((with_reducible refine gate_dst (N := 8) rfl ?_); refine conv_eventS rfl (N := 8) rfl 9 60 5 _ rfl a0 rfl Tryz.underlying9 Tryz.underlying60 Tryz.underlying5 (bytesOf a0) HC.out ?_; intro v w2 hs hb; obtain ⟨g, cap, rfl, hcap, hg, hH, hm, hput⟩ := Sv_holds hs; have HB2 := am (below_step HB.out hb); have HG := am (show w.heap.size ≤ g from Nat.le_trans HB.out.size hg); have HH := am hH; have HCM := am (And.intro hcap hm); have HP := am hput; clear hs hb hcap hg hH hm hput)
        | (go_at_call 105; refine (compact_byte_calls HH.out HCM.out.2 HCM.out.1).mono ?_; rintro e w3 ⟨rfl, q, rfl⟩; have hC := HP.out (Go.Lib.compact (bytesOf a0) ++ List.replicate ((bytesOf a0).length - (Go.Lib.compact (bytesOf a0)).length) 0) (Go.Lib.compact (bytesOf a0)).length q (by rw [List.length_append, List.length_replicate]; have := HLE.out; omega) (by rw [List.length_append]; omega); rw [List.take_left] at hC; have hcv := Kd.C_string (P := Tryz.prog) (c := cap) Tryz.underlying60 Tryz.underlying5 Tryz.underlying9 hC; have HB3 := am (put_below (q := q) (Go.Lib.compact (bytesOf a0) ++ List.replicate ((bytesOf a0).length - (Go.Lib.compact (bytesOf a0)).length) 0) HB2.out HG.out); clear hC))
      go_ret2
      exact ⟨rfl, HB3.out⟩
    · simp [hl] at h
end Go.Proofs.YtdffgeoegdkiaaaGreatDoor.F

namespace Go.Proofs.YtdffgeoegdkiaaaGreatDoor.F
open Go.Proofs.YtdffgeoegdkiaaaGreatDoor
open Go.RowKit Go.Proofs.YtdffgeoegdkiaaaGreatDoorW.PrintWords Go.Proofs.YtdffgeoegdkiaaaGreatDoorW.PrintLast Go.Proofs.YtdffgeoegdkiaaaGreatDoorW.PrintMore Go.Lib
attribute [local go_sem] max2_int min2_int
theorem Held.setCell {F : Nat → Prop} {w w1 : World} (h : Held F w w1) {p : Addr} (u : Value) (hp : F p.block) : Held F w (w1.setCell p u) :=
  ⟨h.os, h.tape, h.output, by rw [World.size_setCell]; exact h.size, fun k hk hn => (Below.heap_setCell w1 p u k (fun e => hn (e ▸ hp))).trans (h.block k hk hn)⟩
def wbStep (k : Nat) (t : ByteArray) (o : List ByteArray) (x : ByteArray) : Option (List ByteArray × Bool) :=
  (impl_ShortWord.f x).bind fun r => if r.1.toList = x.toList then (impl_comesBack.f k t x).bind fun q => if q.2 = true then (if o.length < 65536 then some (o ++ [x], true) else none) else some (o, true) else some (o, true)
theorem LeO.elim {α : Type} {a b : Option α} (h : LeO a b) {r : α} (hr : a = some r) : b = some r := h r hr
theorem wbStep_mono (k : Nat) (t : ByteArray) (o : List ByteArray) (x : ByteArray) : LeO (wbStep k t o x) (wbStep (k + 1) t o x) := by
  unfold wbStep
  exact LeO.bind (LeO.refl _) (fun _ => LeO.ite (LeO.bind (impl_comesBack.mono _ _ _) (fun _ => LeO.refl _)) (LeO.refl _))
def wbInv (t : ByteArray) (base bt bo : Nat) (o : List ByteArray) (F : Nat → Prop) (W : World) : Prop :=
  base ≤ bt ∧ base ≤ bo ∧ W.heap[bt]? = some (.cells #[.string t] 9 (0, 0)) ∧ ∃ v, (∀ k, F k ↔ k = bt ∨ k = bo ∨ v.ownBlock = some k) ∧ W.heap[bo]? = some (.cells #[v] 22 (0, 0)) ∧ Kd.string.R 9 W base (fun k => k ≠ bt) v o
theorem wbInv_lt {t : ByteArray} {base bt bo : Nat} {o : List ByteArray} {F : Nat → Prop} {W : World} (h : wbInv t base bt bo o F W) : ∀ k, F k → k < W.heap.size := by
  obtain ⟨_, _, ht, v, hF, ho, hR⟩ := h
  intro k hk
  rcases (hF k).1 hk with rfl | rfl | e
  · exact blkx_lt ht
  · exact blkx_lt ho
  · exact Kd.R_lt hR k e
theorem wbInv_st {t : ByteArray} {base bt bo : Nat} {o : List ByteArray} {F G : Nat → Prop} {W W' : World} (h : wbInv t base bt bo o F W) (hh : Held G W W') (hG : ∀ k, G k → ¬ F k) : wbInv t base bt bo o F W' := by
  have hk : ∀ k, F k → W'.heap[k]? = W.heap[k]? := fun k hf => hh.block k (wbInv_lt h k hf) (fun g => hG k g hf)
  obtain ⟨h1, h2, ht, v, hF, ho, hR⟩ := h
  exact ⟨h1, h2, (hk bt ((hF _).2 (.inl rfl))).trans ht, v, hF, (hk bo ((hF _).2 (.inr (.inl rfl)))).trans ho, Kd.R_mono (Kd.R_move (Kd.R_tight rfl hR) (fun k e => hk k ((hF _).2 (.inr (.inr e.symm))))) (fun k e => hR.1 k e.symm)⟩
set_option maxRecDepth 100000 in
set_option maxHeartbeats 8000000 in
theorem wb_closure (k : Nat) (t : ByteArray) (base bt bo : Nat) (o : List ByteArray) (F : Nat → Prop) (W : World) (x : ByteArray) (o' : List ByteArray) (b : Bool) (hi : wbInv t base bt bo o F W) (hs : wbStep k t o x = some (o', b)) :
    Calls Tryz.prog 58 (#[.string x] ++ #[.pointer (some ⟨bt, 0, none⟩), .pointer (some ⟨bo, 0, none⟩)]) W fun e W' => e = .returned (.bool b) ∧ ∃ F', wbInv t base bt bo o' F' W' ∧ Held F W W' ∧ ∀ k, F' k → F k ∨ W.heap.size ≤ k := by
  have HI := am hi
  obtain ⟨hb1, hb2, ht, v, hF, hbo, hR⟩ := hi
  unfold wbStep at hs
  obtain ⟨⟨sh, sb⟩, hsh, hs⟩ := Option.bind_eq_some_iff.mp hs
  have HSH := am hsh
  have HT := am ht
  have HBO := am hbo
  have HR := am hR
  have HF := am hF
  have HBB := am (And.intro hb1 hb2)
  clear ht hbo hR hF hb1 hb2 hsh
  by_cases c1 : sh.toList = x.toList
  · replace hs : (impl_comesBack.f k t x).bind (fun q => if q.2 = true then (if o.length < 65536 then some (o ++ [x], true) else none) else some (o, true)) = some (o', b) := by simpa [c1] using hs
    have c1b : (sh.toList == x.toList) = true := beq_iff_eq.2 c1
    obtain ⟨⟨p, q⟩, hcb, hs⟩ := Option.bind_eq_some_iff.mp hs
    have HCB := am hcb
    clear hcb c1
    cases q with
    | false =>
      obtain ⟨rfl, rfl⟩ : o = o' ∧ true = b := by simpa using hs
      clear hs
      show Calls _ _ #[.string x, .pointer (some ⟨bt, 0, none⟩), .pointer (some ⟨bo, 0, none⟩)] _ _
      go_enter Tryz.func58, Tryz.ntmps58
      go_wp2_with (first
        | (go_at_call 59; refine (impl_ShortWord.calls x sh sb _ HSH.out).mono ?_; rintro e w1 ⟨rfl, hb⟩; have HB := am hb; have ht1 : w1.heap[bt]? = _ := (hb.block bt (blkx_lt HT.out)).trans HT.out; have z1 : w1.cell? ⟨bt, 0, none⟩ = some (.string t) := (blk_cell ht1 0).trans rfl; clear hb ht1)
        | (go_at_call 60; refine (impl_comesBack.calls k t x p false _ HCB.out).mono ?_; rintro e w2 ⟨v2, rfl, ho2, hb⟩; have HB2 := am (below_step HB.out hb); clear hb ho2))
      go_ret
      exact ⟨rfl, F, wbInv_st HI.out (Held.of_below (F := fun _ => False) HB2.out) (fun _ h => h.elim), Held.of_below HB2.out, fun k hk => .inl hk⟩
    | true =>
      by_cases c2 : o.length < 65536
      · obtain ⟨rfl, rfl⟩ : o ++ [x] = o' ∧ true = b := by simpa [c2] using hs
        have HL := am c2
        clear hs c2
        show Calls _ _ #[.string x, .pointer (some ⟨bt, 0, none⟩), .pointer (some ⟨bo, 0, none⟩)] _ _
        go_enter Tryz.func58, Tryz.ntmps58
        go_wp2_with (first
          | (go_at_call 59; refine (impl_ShortWord.calls x sh sb _ HSH.out).mono ?_; rintro e w1 ⟨rfl, hb⟩; have HB := am hb; have ht1 : w1.heap[bt]? = _ := (hb.block bt (blkx_lt HT.out)).trans HT.out; have z1 : w1.cell? ⟨bt, 0, none⟩ = some (.string t) := (blk_cell ht1 0).trans rfl; clear hb ht1)
          | (go_at_call 60; refine (impl_comesBack.calls k t x p true _ HCB.out).mono ?_; rintro e w2 ⟨v2, rfl, ho2, hb⟩; have HB2 := am (below_step HB.out hb); have hbo2 : w2.heap[bo]? = _ := (HB2.out.block bo (blkx_lt HBO.out)).trans HBO.out; have z2 : w2.cell? ⟨bo, 0, none⟩ = some v := (blk_cell hbo2 0).trans rfl; have HBO2 := am hbo2; have HT2 := am ((HB2.out.block bt (blkx_lt HT.out)).trans HT.out); have HR2 := am (Kd.R_below HR.out HB2.out); clear hb ho2 hbo2)
          | ((with_reducible refine gate_builtin (b := .append) (xs := #[.tmp 24, .tmp 26]) rfl ?_); at_builtin; refine Kd.R_append Kd.string (w0 := w2) base rfl (.tmp 24) (.tmp 26) 22 9 (.string ⟨#[]⟩) 16 rfl Tryz.underlying22 info9 rfl (by decide) (by omega) v o x [.string x] (fun k => k ≠ bt) (fun _ => False) rfl rfl ?aP (fun _ hk => hk.elim) ?aF ?aO ?aB ?aS ?aL ?_; (case aP => exact rfl); (case aB => exact Below.refl _ _); (case aF => exact (fun k hk => by have := blkx_lt HT2.out; show k ≠ bt; omega)); (case aO => exact HR2.out); (case aS => have h1 := blkx_lt HBO2.out; have h2 := HBB.out.2; omega); (case aL => have := HL.out; omega); intro v7 w7 ho hb hg hat; obtain ⟨A7, c7, hv7⟩ := Kd.R_slice ho; obtain ⟨n7, hn7⟩ : ∃ n, (o ++ [x]).length = n := ⟨_, rfl⟩; rw [hn7] at hv7; subst hv7; have HN7 := am hn7; clear hn7; have nbo : some bo ≠ v.ownBlock := Kd.R_ne HR2.out HBO2.out (by decide); have nbt : some bt ≠ v.ownBlock := fun e => HR2.out.1 bt e.symm rfl; have hbo7 : w7.heap[bo]? = _ := (hg.block bo (blkx_lt HBO2.out) nbo).trans HBO2.out; have z7 : w7.cell? ⟨bo, 0, none⟩ = some v := (blk_cell hbo7 0).trans rfl; have f7 := blk_frozen hbo7 0; have HBO7 := am hbo7; have HT7 := am ((hg.block bt (blkx_lt HT2.out) nbt).trans HT2.out); have HR7 := am ho; have HG7 := am hg; have HAT := am hat; clear ho hb hg hat nbo nbt hbo7))
        go_ret
        have hne : bt ≠ bo := blk_ne HT7.out HBO7.out (by decide)
        have nb7 : some bo ≠ (.slice A7 n7 c7 : Value).ownBlock := Kd.R_ne HR7.out HBO7.out (by decide)
        refine ⟨rfl, fun k => k = bt ∨ k = bo ∨ (.slice A7 n7 c7 : Value).ownBlock = some k, ⟨HBB.out.1, HBB.out.2, ?_, (.slice A7 n7 c7), fun k => Iff.rfl, ?_, ?_⟩, ?_, ?_⟩
        · exact (Below.heap_setCell w7 _ _ bt (fun e => hne e)).trans HT7.out
        · exact (blk_set HBO7.out 0 (.slice A7 n7 c7)).trans rfl
        · exact Kd.R_mono (Kd.R_far (p := ⟨bo, 0, none⟩) (Kd.R_mono (Kd.R_tight rfl HR7.out) (ok' := fun k => k ≠ bt ∧ k ≠ bo) (fun k e => ⟨fun e2 => HR7.out.1 k e.symm e2, fun e2 => nb7 (by rw [← e2, e])⟩)) (fun k hk => hk.2) (.slice A7 n7 c7)) (fun k hk => hk.1)
        · refine Held.setCell (Held.trans (Held.of_below (F := F) HB2.out) (Held.of_grown (F := F) HG7.out (fun k e => (HF.out k).2 (.inr (.inr e)))) (fun k hk => .inl hk)) (.slice A7 n7 c7) ((HF.out bo).2 (.inr (.inl rfl)))
        · rintro k (rfl | rfl | e)
          · exact .inl ((HF.out _).2 (.inl rfl))
          · exact .inl ((HF.out _).2 (.inr (.inl rfl)))
          · rcases HAT.out with h | ⟨b, h, hb⟩
            · exact .inl ((HF.out k).2 (.inr (.inr (by rw [← h]; exact e))))
            · rw [h] at e; injection e with e; subst e
              exact .inr (Nat.le_trans HB2.out.size hb)
      · simp [c2] at hs
  · obtain ⟨rfl, rfl⟩ : o = o' ∧ true = b := by simpa [c1] using hs
    have c1b : (sh.toList == x.toList) = false := beq_eq_false_iff_ne.2 c1
    clear hs c1
    show Calls _ _ #[.string x, .pointer (some ⟨bt, 0, none⟩), .pointer (some ⟨bo, 0, none⟩)] _ _
    go_enter Tryz.func58, Tryz.ntmps58
    go_wp2_with (first
      | (go_at_call 59; refine (impl_ShortWord.calls x sh sb _ HSH.out).mono ?_; rintro e w1 ⟨rfl, hb⟩; have HB := am hb; clear hb))
    go_ret
    exact ⟨rfl, F, wbInv_st HI.out (Held.of_below (F := fun _ => False) HB.out) (fun _ h => h.elim), Held.of_below HB.out, fun k hk => .inl hk⟩
def impl_WordsBack.f (k : Nat) (a0 : ByteArray) (a1 : Int) : Option (List ByteArray × Bool) := (impl_IsTray.f k a0).bind fun b => if b = true ∧ 0 ≤ a1 ∧ a1 ≤ 4 then (wordsF (wbStep k a0) (a1.toNat + 1) [] [ByteArray.empty]).bind fun o => some (o, true) else some ([], false)
theorem impl_WordsBack.mono : ∀ a0 a1 k, LeO (impl_WordsBack.f k a0 a1) (impl_WordsBack.f (k + 1) a0 a1) := fun a0 a1 k => by
  unfold impl_WordsBack.f
  exact LeO.bind (impl_IsTray.mono _ _) (fun _ => LeO.ite (LeO.bind (wordsF_mono (fun s x => wbStep_mono k a0 s x) _ _ _) (fun _ => LeO.refl _)) (LeO.refl _))
set_option maxRecDepth 100000 in
set_option maxHeartbeats 8000000 in
theorem impl_WordsBack.calls (k : Nat) (a0 : ByteArray) (a1 : Int) (r1 : List ByteArray) (r2 : Bool) (w : World) (h : impl_WordsBack.f k a0 a1 = some (r1, r2)) :
    Calls Tryz.prog 16 #[.string a0, .int .i64 a1] w fun e w' => ∃ v0_ : Value, e = .returned (.tuple #[v0_, .bool r2]) ∧ Kd.R Kd.string 9 w' w.heap.size (fun _ => True) v0_ r1 ∧ Below w.heap.size w w' := by
  unfold impl_WordsBack.f at h
  obtain ⟨b, hI, h⟩ := Option.bind_eq_some_iff.mp h
  have HI := am hI
  have HB := am (Below.refl w.heap.size w)
  clear hI
  cases b with
  | false =>
    obtain ⟨rfl, rfl⟩ : [] = r1 ∧ false = r2 := by simpa using h
    clear h
    go_enter Tryz.func16, Tryz.ntmps16
    go_wp2_with (first
      | ((with_reducible refine gate_dst (N := 2) rfl ?_); refine box_event ?hg (N := 2) ?hd (cs := #[.string a0]) (t := 9) ?hr ?_; (case hd => rfl); (case hg => rfl); (case hr => first | (go_simp; done) | (go_simp; rfl)); intro b1 hg1 w1 hbox1 hb1; have z1 : w1.cell? ⟨b1, 0, none⟩ = some (.string a0) := (blk_cell hbox1 0).trans rfl; have HB1 := am hb1; clear hbox1 hb1 hg1)
      | (go_at_call 55; refine (impl_IsTray.calls k a0 false _ HI.out).mono ?_; rintro e w2 ⟨rfl, hb⟩; have HB2 := am (below_step HB1.out hb); clear hb))
    go_ret2
    exact ⟨_, rfl, Kd.R_nil _ _ _ _ _, HB2.out⟩
  | true =>
    by_cases c1 : 0 ≤ a1 ∧ a1 ≤ 4
    · obtain ⟨n, rfl⟩ : ∃ n : Nat, a1 = n := ⟨a1.toNat, by omega⟩
      rw [if_pos ⟨rfl, c1⟩, Int.toNat_natCast] at h
      obtain ⟨o, ho, h⟩ := Option.bind_eq_some_iff.mp h
      obtain ⟨rfl, rfl⟩ : o = r1 ∧ true = r2 := by simpa using h
      have HO := am ho
      have HN := am (show n ≤ 6 by omega)
      have HWI := am (show impl_within.f (n : Int) 0 4 = some true from by unfold impl_within.f; rw [if_pos c1.1, decide_eq_true c1.2])
      clear h ho c1
      go_enter Tryz.func16, Tryz.ntmps16
      go_wp2_with (first
        | ((with_reducible refine gate_dst (N := 2) rfl ?_); refine box_event ?hg (N := 2) ?hd (cs := #[.string a0]) (t := 9) ?hr ?_; (case hd => rfl); (case hg => rfl); (case hr => first | (go_simp; done) | (go_simp; rfl)); intro b1 hg1 w1 hbox1 hb1; have z1 : w1.cell? ⟨b1, 0, none⟩ = some (.string a0) := (blk_cell hbox1 0).trans rfl; have HB1 := am hb1; have HG1 := am hg1; have X1 := am hbox1; clear hbox1 hb1 hg1)
        | (go_at_call 55; refine (impl_IsTray.calls k a0 true _ HI.out).mono ?_; rintro e w2 ⟨rfl, hb⟩; have HB2 := am (below_step HB1.out hb); have X2 := am ((hb.block b1 (blkx_lt X1.out)).trans X1.out); clear hb)
        | (go_at_call 56; refine (impl_within.calls (n : Int) 0 4 true _ HWI.out).mono ?_; rintro e w3 ⟨rfl, ⟨nd, rfl⟩⟩; have HB3 := am (pw_below_drewN HB2.out nd))
        | ((with_reducible refine gate_dst (N := 15) rfl ?_); refine Kd.R_lit Kd.string _ 9 ?hg (N := 15) ?hd (xs := ([] : List ByteArray)) (inner := []) (ok := fun _ => True) (okp := fun _ => True) ?hr ?hp (fun _ hk => hk) trivial (Below.refl _ _) (Nat.le_refl _) (by simp) ?_; (case hd => rfl); (case hg => rfl); (case hr => first | (go_simp; done) | (go_simp; rfl)); (case hp => exact (Reps.none _ _)); intro v4 w4 ho hb hg_ hnew_; obtain ⟨A4, c4, rfl⟩ := Kd.R_slice ho; have HB4 := am (below_step HB3.out hb); have HR4 := am ho; have X4 := am ((hb.block b1 (blkx_lt X2.out)).trans X2.out); have HG4 := am (show w.heap.size ≤ w4.heap.size from HB4.out.size); clear ho hb hg_ hnew_)
        | (go_at_call 57; refine (words_calls (wbStep k a0) (wbInv a0 w.heap.size b1 w4.heap.size) 58 _ (enters_of Tryz.func58 (by kernel_rfl) rfl) (fun s F W h => wbInv_lt h) (fun s F W x s' b hi hs => wb_closure k a0 _ _ _ s F W x s' b hi hs) n HN.out [] o (fun k => k = b1 ∨ k = w4.heap.size ∨ (.slice A4 0 c4 : Value).ownBlock = some k) _ (fun s F W W' h hh => wbInv_st h hh (fun k hk => hk.1)) ⟨by rw [HG1.out]; exact HB.out.size, HG4.out, (((Below.refl _ w4).alloc (Nat.le_refl _) _).block b1 (blkx_lt X4.out)).trans X4.out, .slice A4 0 c4, fun k => Iff.rfl, heap_alloc_new _ _, Kd.R_alloc (Kd.R_lower (Kd.R_mono (Kd.R_bound HR4.out) (fun k hk => by have h1 := hk.2.1; have h2 := blkx_lt X2.out; show k ≠ b1; intro e; subst e; exact absurd h1 (Nat.not_le.2 h2))) HB3.out.size) _⟩ HO.out).mono ?_; rintro e w6 ⟨rfl, F', hinv, hheld, hsub⟩; have HB6 := am (Held.below (HB4.out.alloc HG4.out _) hheld (Nat.le_trans HG4.out (by simp)) (fun k hk => by rcases hk with rfl | rfl | e <;> first | (rw [HG1.out]; exact HB.out.size) | exact HG4.out | exact Nat.le_trans HB3.out.size (Kd.R_base HR4.out k e))); obtain ⟨_, _, _, v6, _, hbo6, hR6⟩ := hinv; have z6 : w6.cell? ⟨w4.heap.size, 0, none⟩ = some v6 := (blk_cell hbo6 0).trans rfl; have HR6 := am hR6; clear hheld hsub hbo6 hR6))
      go_ret2
      exact ⟨v6, rfl, Kd.R_mono HR6.out (fun _ _ => trivial), HB6.out⟩
    · rw [if_neg (fun q => c1 q.2)] at h
      obtain ⟨rfl, rfl⟩ : [] = r1 ∧ false = r2 := by simpa using h
      have HWI := am (show impl_within.f a1 0 4 = some false from by
        unfold impl_within.f
        by_cases h0 : 0 ≤ a1
        · rw [if_pos h0, decide_eq_false (fun q => c1 ⟨h0, q⟩)]
        · rw [if_neg h0])
      clear h c1
      go_enter Tryz.func16, Tryz.ntmps16
      go_wp2_with (first
        | ((with_reducible refine gate_dst (N := 2) rfl ?_); refine box_event ?hg (N := 2) ?hd (cs := #[.string a0]) (t := 9) ?hr ?_; (case hd => rfl); (case hg => rfl); (case hr => first | (go_simp; done) | (go_simp; rfl)); intro b1 hg1 w1 hbox1 hb1; have z1 : w1.cell? ⟨b1, 0, none⟩ = some (.string a0) := (blk_cell hbox1 0).trans rfl; have HB1 := am hb1; clear hbox1 hb1 hg1)
        | (go_at_call 55; refine (impl_IsTray.calls k a0 true _ HI.out).mono ?_; rintro e w2 ⟨rfl, hb⟩; have HB2 := am (below_step HB1.out hb); clear hb)
        | (go_at_call 56; refine (impl_within.calls a1 0 4 false _ HWI.out).mono ?_; rintro e w3 ⟨rfl, ⟨nd, rfl⟩⟩; have HB3 := am (pw_below_drewN HB2.out nd)))
      go_ret2
      exact ⟨_, rfl, Kd.R_nil _ _ _ _ _, HB3.out⟩
end Go.Proofs.YtdffgeoegdkiaaaGreatDoor.F

namespace Go.Proofs.YtdffgeoegdkiaaaGreatDoor.F
open Go.Proofs.YtdffgeoegdkiaaaGreatDoor
open Go.RowKit Go.Proofs.YtdffgeoegdkiaaaGreatDoorW.PrintWords Go.Proofs.YtdffgeoegdkiaaaGreatDoorW.PrintLast Go.Proofs.YtdffgeoegdkiaaaGreatDoorW.PrintMore
attribute [local go_sem] max2_int min2_int max_two min_two max_three min_three max_four min_four
mutual
def spec_WordsBack.j0 : Nat → Int → Bool → Int → Int → List Int → Option (List ByteArray × Bool)
 | 0, _, _, _, _, _ => none
 | k + 1, x1, x25, x108000, x108001, x108002 => if x25 = true then (some (([] : List ByteArray), false)) else (spec_WordsBack.l0 k x1 ([] : List ByteArray) 0 x108000 x108001 x108002)
def spec_WordsBack.l0 : Nat → Int → List ByteArray → Int → Int → Int → List Int → Option (List ByteArray × Bool)
 | 0, _, _, _, _, _, _ => none
 | k + 1, x1, x8, x9, x108000, x108001, x108002 => if x9 ≤ x1 then ((spec_mcWords.f k x9).bind fun t109 => (spec_WordsBack.l1 k x1 x8 x9 t109 (t109.length : Int) 0 x108000 x108001 x108002)) else (some (x8, true))
def spec_WordsBack.l1 : Nat → Int → List ByteArray → Int → List ByteArray → Int → Int → Int → Int → List Int → Option (List ByteArray × Bool)
 | 0, _, _, _, _, _, _, _, _, _ => none
 | k + 1, x1, x8, x9, x32, x33, x34, x108000, x108001, x108002 => if x34 < x33 then (if 0 ≤ x34 then (if x34 < (x32.length : Int) then ((spec_mcBack.f k x108000 x108001 x108002 (rdOf ByteArray.empty x32 x34)).bind fun bt113 => (if bt113.2.2.2 = true then (if x8.length < 8796093022208 then (spec_WordsBack.l1 k x1 (x8 ++ [rdOf ByteArray.empty x32 x34]) x9 x32 x33 (wrap64 (x34 + 1)) x108000 x108001 x108002) else (none)) else (spec_WordsBack.l1 k x1 x8 x9 x32 x33 (wrap64 (x34 + 1)) x108000 x108001 x108002))) else (none)) else (none)) else (spec_WordsBack.l0 k x1 x8 (wrap64 (x9 + 1)) x108000 x108001 x108002)
end
def spec_WordsBack.f (k : Nat) (a0 : ByteArray) (a1 : Int) : Option (List ByteArray × Bool) := (spec_tyRead.f k a0).bind fun bt101 => (if bt101.2.2.2 = true then ((spec_l1In.f a1 0 4).bind fun t108 => (spec_WordsBack.j0 k a1 (!t108) bt101.1 bt101.2.1 bt101.2.2.1)) else (spec_WordsBack.j0 k a1 true bt101.1 bt101.2.1 bt101.2.2.1))
theorem spec_WordsBack.mono_l : ∀ k, (∀ y0 y1 y2 y3 y4, LeO (spec_WordsBack.j0 k y0 y1 y2 y3 y4) (spec_WordsBack.j0 (k + 1) y0 y1 y2 y3 y4)) ∧ (∀ y0 y1 y2 y3 y4 y5, LeO (spec_WordsBack.l0 k y0 y1 y2 y3 y4 y5) (spec_WordsBack.l0 (k + 1) y0 y1 y2 y3 y4 y5)) ∧ (∀ y0 y1 y2 y3 y4 y5 y6 y7 y8, LeO (spec_WordsBack.l1 k y0 y1 y2 y3 y4 y5 y6 y7 y8) (spec_WordsBack.l1 (k + 1) y0 y1 y2 y3 y4 y5 y6 y7 y8))
 | 0 => ⟨fun _ _ _ _ _ r h => by simp [spec_WordsBack.j0] at h, fun _ _ _ _ _ _ r h => by simp [spec_WordsBack.l0] at h, fun _ _ _ _ _ _ _ _ _ r h => by simp [spec_WordsBack.l1] at h⟩
 | k + 1 => by
  obtain ⟨ih0, ih1, ih2⟩ := spec_WordsBack.mono_l k
  refine ⟨?_, ?_, ?_⟩
  ·intro y0 y1 y2 y3 y4
   unfold spec_WordsBack.j0
   have im0 := @spec_mcBack.mono; have im1 := @spec_mcWords.mono; have im2 := @spec_tyRead.mono; exact mo
  ·intro y0 y1 y2 y3 y4 y5
   unfold spec_WordsBack.l0
   have im0 := @spec_mcBack.mono; have im1 := @spec_mcWords.mono; have im2 := @spec_tyRead.mono; exact mo
  ·intro y0 y1 y2 y3 y4 y5 y6 y7 y8
   unfold spec_WordsBack.l1
   have im0 := @spec_mcBack.mono; have im1 := @spec_mcWords.mono; have im2 := @spec_tyRead.mono; exact mo
theorem spec_WordsBack.mono : ∀ a0 a1 k, LeO (spec_WordsBack.f k a0 a1) (spec_WordsBack.f (k + 1) a0 a1) := by
 intro a0 a1 k
 obtain ⟨ih0, ih1, ih2⟩ := spec_WordsBack.mono_l k
 unfold spec_WordsBack.f
 have im0 := @spec_mcBack.mono; have im1 := @spec_mcWords.mono; have im2 := @spec_tyRead.mono; exact mo
set_option maxHeartbeats 8000000 in
set_option maxRecDepth 100000 in
theorem spec_WordsBack.calls (k : Nat) (a0 : ByteArray) (a1 : Int) (r1 : List ByteArray) (r2 : Bool) (w : World) (h : spec_WordsBack.f k a0 a1 = some (r1, r2)) :
  Calls Tryz.prog 15 #[.string a0, .int .i64 a1] w fun e w' => ∃ v0_ : Value, e = .returned (.tuple #[v0_, .bool r2]) ∧ Kd.R Kd.string 9 w' w.heap.size (fun _ => True) v0_ r1 ∧ Below w.heap.size w w' := by
 have hu62 := Tryz.underlying62
 have HB := am (Below.refl w.heap.size w)
 have H : ((spec_tyRead.f k a0).bind fun bt101 => (if bt101.2.2.2 = true then ((spec_l1In.f a1 0 4).bind fun t108 => (spec_WordsBack.j0 k a1 (!t108) bt101.1 bt101.2.1 bt101.2.2.1)) else (spec_WordsBack.j0 k a1 true bt101.1 bt101.2.1 bt101.2.2.1))) = some (r1, r2) := h
 clear h
 replace H := Option.bind_eq_some_iff.mp H
 obtain ⟨⟨t101, t102, t103, t106⟩, A30, H⟩ := H
 replace H : (if t106 = true then ((spec_l1In.f a1 0 4).bind fun t108 => (spec_WordsBack.j0 k a1 (!t108) t101 t102 t103)) else (spec_WordsBack.j0 k a1 true t101 t102 t103)) = some (r1, r2) := H
 have A3 := am A30
 clear A30
 have HC4 := am H
 clear H
 go_enter Tryz.func15, Tryz.ntmps15
 go_upto_region 2 with (first | ((with_reducible refine gate_callee (f := 51) rfl ?_); refine goesL_ (some 16) rfl rfl Tryz.func51 (by kernel_rfl) rfl #[.string a0] rfl aq5 ?_; (with_reducible refine (spec_tyRead.calls k a0 t101 t102 t103 t106 _ A3.out).mono ?_); rintro e w5 ⟨v104, rfl, ho0, hb⟩; refine ⟨_, rfl, ?_⟩; have n0_ := am (Kd.R_lower ho0 (below_size aq1)); have n1_ := am (below_step aq1 hb); clear HB; have HO105 := n0_; have HB := n1_; clear n0_ n1_; (try clear hb); (try clear hb2); (try clear hk); (try clear hi); (try clear ho0)) | ((with_reducible refine gate_dst (N := 6) rfl ?_); refine box_event ?hg (N := 6) ?hd (cs := #[.int .i64 0, .int .i64 0, .slice none 0 0]) (t := 62) ?hr ?_; (case hd => rfl); (case hg => rfl); (case hr => exact aq15); intro gb107 hg w6 hbox hb; have n0_ := am (Kd.R_below (by (with_reducible repeat (first | apply Kd.R_alloc | apply Kd.R_drewN | apply Kd.R_drew)); exact HO105.out) hb); have n1_ := am (below_step aq1 hb); have n2_ := am (hbox); have n3_ := am ((by rw [hg]; exact (below_size aq1) : w.heap.size ≤ gb107)); have n4_ := am ((by rw [hg]; exact (below_size aq1) : w.heap.size ≤ gb107)); clear HO105; clear HB; have HO105 := n0_; have HB := n1_; have BK107 := n2_; have GW107 := n3_; have GE107 := n4_; clear n0_ n1_ n2_ n3_ n4_; clear hb hbox hg; obtain ⟨hcz7_0, hcz7_1, hcz7_2, hfz7_0, hfz7_1, hfz7_2⟩ := blk3_ BK107.out; obtain ⟨Ao8, co8, eo8⟩ := Kd.R_slice HO105.out; subst eo8))
 (try simp only [Act.put, List.setIfInBounds_toArray, List.set_cons_zero, List.set_cons_succ])
 go_cut [25] (fun v25 wc => ∃ (kq : Nat) (x25_3 : Bool), v25 = .bool x25_3 ∧ Aside0 (spec_WordsBack.j0 kq a1 x25_3 t101 t102 t103 = some (r1, r2)) ∧ Aside0 (kq ≤ k) ∧ Aside0 (Kd.R (Kd.int .u8) 5 wc w.heap.size (fun _ => True) (.slice Ao8 t103.length co8) t103) ∧ Aside0 (wc.heap[gb107]? = some (.cells #[.int .i64 t101, .int .i64 t102, (.slice Ao8 t103.length co8)] 62 (0, 0))) ∧ Aside0 (Below w.heap.size w wc))
 case first =>
  have H := HC4.out
  clear HC4
  by_cases c9 : t106 = true
  ·subst c9
   rw [if_pos rfl] at H
   obtain ⟨t108, A100, H⟩ := Option.bind_eq_some_iff.mp H
   have A10 := am A100
   clear A100
   have H' := am H
   clear H
   go_wp2_with (first | (go_at_call 52; (with_reducible refine (spec_l1In.calls a1 0 4 t108 _ A10.out).mono ?_); rintro e w' ⟨rfl, ⟨nd, rfl⟩⟩))
   go_meet
   case rel => exact ⟨_, (!t108), aq7, H', ⟨aq82⟩, ⟨aq57⟩, ⟨aq35⟩, ⟨aq12⟩⟩
  ·replace c9 := Bool.eq_false_iff.mpr c9
   subst c9
   rw [if_neg Bool.false_ne_true] at H
   have H' := am H
   clear H
   go_wp2
   go_meet
   case rel => exact ⟨_, (true), aq7, H', ⟨aq82⟩, ⟨aq57⟩, ⟨aq35⟩, ⟨aq12⟩⟩
 case rest =>
  clear HC4
  try clear c1
  try clear p2
  try clear c5
  try clear c9
  try clear hcz7_0
  try clear hcz7_1
  try clear hcz7_2
  try clear hfz7_0
  try clear hfz7_1
  try clear hfz7_2
  obtain ⟨kq, x25_3, rfl, HA, HJ3, HO_108002, BK107, HB⟩ := hcut
  cases kq with
  | zero => exact absurd HA.out (by simp [spec_WordsBack.j0])
  | succ kj3 =>
   have H := HA.out
   clear HA
   simp only [spec_WordsBack.j0] at H
   by_cases c11 : x25_3 = true
   ·subst c11
    rw [if_pos rfl] at H
    simp only [Option.some.injEq, Prod.mk.injEq] at H
    obtain ⟨rfl, rfl⟩ := H
    go_wp2
    go_ret2
    exact ⟨_, aq8, aq18, aq12⟩
   ·replace c11 := Bool.eq_false_iff.mpr c11
    subst c11
    rw [if_neg Bool.false_ne_true] at H
    have H' := am H
    clear H
    go_wp2
    go_loopg [8, 9] kj3 (fun kq v8 v9 w' => ∃ (x8_2 : List ByteArray) (x9_2 : Int), v9 = .int .i64 x9_2 ∧ Aside0 (spec_WordsBack.l0 kq a1 x8_2 x9_2 t101 t102 t103 = some (r1, r2)) ∧ Aside0 (kq ≤ kj3) ∧ Aside0 (Kd.R Kd.string 9 w' w.heap.size (fun _ => True) v8 x8_2) ∧ Aside0 (Kd.R (Kd.int .u8) 5 w' w.heap.size (fun _ => True) (.slice Ao8 t103.length co8) t103) ∧ Aside0 (w'.heap[gb107]? = some (.cells #[.int .i64 t101, .int .i64 t102, (.slice Ao8 t103.length co8)] 62 (0, 0))) ∧ Aside0 (Below w.heap.size w w'))
    case atStart => exact ⟨(([] : List ByteArray)), (0), aq7, H', ⟨Nat.le_refl _⟩, ⟨aq18⟩, ⟨aq27⟩, ⟨aq17⟩, ⟨aq12⟩⟩
    case round =>
     clear H'
     try clear c1
     try clear p2
     try clear c5
     try clear c9
     try clear c11
     try clear hcz7_0
     try clear hcz7_1
     try clear hcz7_2
     try clear hfz7_0
     try clear hfz7_1
     try clear hfz7_2
     try clear p2
     obtain ⟨x8_2, x9_2, rfl, HA, HK2, HO_8, HO_108002, BK107, HB⟩ := hrel
     cases gk with
     | zero => exact absurd HA.out (by simp [spec_WordsBack.l0])
     | succ k2 =>
      have H := HA.out
      clear HA
      simp only [spec_WordsBack.l0] at H
      by_cases c12 : x9_2 ≤ a1
      ·rw [if_pos c12] at H
       have c12b0 := decide_eq_true c12
       clear c12
       obtain ⟨t109, A130, H⟩ := Option.bind_eq_some_iff.mp H
       have A13 := am A130
       clear A130
       have H' := am H
       clear H
       go_wp2_with (first | ((with_reducible refine gate_callee (f := 53) rfl ?_); refine goesL_ (some 32) rfl rfl Tryz.func53 (by kernel_rfl) rfl #[.int .i64 x9_2] rfl aq5 ?_; (with_reducible refine (spec_mcWords.calls k2 x9_2 t109 _ A13.out).mono ?_); rintro e w14 ⟨v110, rfl, ho0, hb⟩; refine ⟨_, rfl, ?_⟩; have n0_ := am (Kd.R_elder' aq13 (Kd.R_base ho0) hb); have n1_ := am (Kd.R_below aq27 hb); have n2_ := am (Kd.R_lower (Kd.R_new' ho0 (Kd.R_lt aq13)) (below_size aq12)); have n3_ := am (blk_below (g := gb107) (o := .cells #[.int .i64 t101, .int .i64 t102, .slice Ao8 t103.length co8] 62 (0, 0)) aq17 hb); have n4_ := am (below_step aq12 hb); clear HO_8; clear HO_108002; clear BK107; clear HB; have HO_8 := n0_; have HO_108002 := n1_; have HO111 := n2_; have BK107 := n3_; have HB := n4_; clear n0_ n1_ n2_ n3_ n4_; (try clear hb); (try clear hb2); (try clear hk); (try clear hi); (try clear ho0); obtain ⟨Ao15, co15, eo15⟩ := Kd.R_slice HO111.out; subst eo15))
       go_loopg [8, 34] k2 (fun kq v8 v34 w' => ∃ (x8_3 : List ByteArray) (x34_3 : Int), v34 = .int .i64 x34_3 ∧ Aside0 (spec_WordsBack.l1 kq a1 x8_3 x9_2 t109 (t109.length : Int) x34_3 t101 t102 t103 = some (r1, r2)) ∧ Aside0 (kq ≤ k2) ∧ Aside0 (Kd.R Kd.string 9 w' w.heap.size (fun k_ => some k_ ≠ ((.slice Ao15 t109.length co15) : Value).ownBlock) v8 x8_3) ∧ Aside0 (Kd.R Kd.string 9 w' w.heap.size (fun k_ => some k_ ≠ (v8 : Value).ownBlock) (.slice Ao15 t109.length co15) t109) ∧ Aside0 (Kd.R (Kd.int .u8) 5 w' w.heap.size (fun _ => True) (.slice Ao8 t103.length co8) t103) ∧ Aside0 (w'.heap[gb107]? = some (.cells #[.int .i64 t101, .int .i64 t102, (.slice Ao8 t103.length co8)] 62 (0, 0))) ∧ Aside0 (Below w.heap.size w w'))
       case atStart => exact ⟨(x8_2), (0), aq7, H', ⟨Nat.le_refl _⟩, ⟨by (with_reducible repeat (first | apply Kd.R_alloc | apply Kd.R_drewN | apply Kd.R_drew)); exact Kd.R_mono HO_8.out (fun _ hk => hk.2)⟩, ⟨by (with_reducible repeat (first | apply Kd.R_alloc | apply Kd.R_drewN | apply Kd.R_drew)); exact Kd.R_mono HO111.out (fun _ hk => hk.2)⟩, ⟨aq27⟩, ⟨aq17⟩, ⟨aq12⟩⟩
       case round =>
        clear H'
        try clear c1
        try clear p2
        try clear c5
        try clear c9
        try clear c11
        try clear c12
        try clear c12b0
        try clear c15
        try clear hcz7_0
        try clear hcz7_1
        try clear hcz7_2
        try clear hfz7_0
        try clear hfz7_1
        try clear hfz7_2
        try clear p2
        obtain ⟨x8_3, x34_3, rfl, HA, HK3, HO_8, HO_32, HO_108002, BK107, HB⟩ := hrel
        cases gk with
        | zero => exact absurd HA.out (by simp [spec_WordsBack.l1])
        | succ k3 =>
         have H := HA.out
         clear HA
         simp only [spec_WordsBack.l1] at H
         by_cases c16 : x34_3 < (t109.length : Int)
         ·rw [if_pos c16] at H
          have c16b0 := decide_eq_true c16
          clear c16
          by_cases c17 : 0 ≤ x34_3
          ·rw [if_pos c17] at H
           have c17b0 := decide_eq_true c17
           clear c17
           by_cases c18 : x34_3 < (t109.length : Int)
           ·rw [if_pos c18] at H
            have c18b0 := decide_eq_true c18
            clear c18
            replace H := Option.bind_eq_some_iff.mp H
            obtain ⟨⟨t113, t114, t115, t118⟩, A190, H⟩ := H
            replace H : (if t118 = true then (if x8_3.length < 8796093022208 then (spec_WordsBack.l1 k3 a1 (x8_3 ++ [rdOf ByteArray.empty t109 x34_3]) x9_2 t109 (t109.length : Int) (wrap64 (x34_3 + 1)) t101 t102 t103) else (none)) else (spec_WordsBack.l1 k3 a1 x8_3 x9_2 t109 (t109.length : Int) (wrap64 (x34_3 + 1)) t101 t102 t103)) = some (r1, r2) := H
            have A19 := am A190
            clear A190
            by_cases c20 : t118 = true
            ·subst c20
             rw [if_pos rfl] at H
             by_cases c21 : x8_3.length < 8796093022208
             ·rw [if_pos c21] at H
              have LMc21 := am c21
              clear c21
              obtain ⟨y120, hy_⟩ : ∃ y_ : List ByteArray, y_ = (x8_3 ++ [rdOf ByteArray.empty t109 x34_3]) := ⟨_, rfl⟩
              replace H : (spec_WordsBack.l1 k3 a1 y120 x9_2 t109 (t109.length : Int) (wrap64 (x34_3 + 1)) t101 t102 t103) = some (r1, r2) := aq4
              have Ny120 := am hy_
              clear hy_
              have H' := am H
              clear H
              have p112 : 0 ≤ (x34_3 : Int) := of_decide_eq_true aq6
              have q112 : x34_3 < (t109.length : Int) := of_decide_eq_true aq6
              obtain ⟨ad112, e112, hx112_0⟩ := Kd.at_string (Kd.R_reads' HO_32.out).2.2 x34_3 p112 q112
              cases e112
              replace p112 := eq_true p112
              replace q112 := eq_true q112
              obtain ⟨hcz22_0, hcz22_1, hcz22_2, hfz22_0, hfz22_1, hfz22_2⟩ := blk3_ BK107.out
              go_wp2_with (first | ((with_reducible refine gate_callee (f := 54) rfl ?_); refine goesL_ (some 41) rfl rfl Tryz.func54 (by kernel_rfl) rfl #[.agg #[.int .i64 t101, .int .i64 t102, .slice Ao8 t103.length co8], .string (rdOf ByteArray.empty t109 x34_3)] rfl aq5 ?_; (with_reducible refine (spec_mcBack.calls k3 t101 t102 (fun k_ => some k_ = (.slice Ao8 t103.length co8 : Value).ownBlock) _ _ t103 (rdOf ByteArray.empty t109 x34_3) t113 t114 t115 true _ ?side1 A19.out).mono ?_); (case side1 => exact aq89); rintro e w23 ⟨v116, rfl, ho0, hb⟩; refine ⟨_, rfl, ?_⟩; have n0_ := am (Kd.R_below aq13 hb); have n1_ := am (Kd.R_below aq41 hb); have n2_ := am (Kd.R_below aq27 hb); have n3_ := am (Kd.V_lower (Kd.V_mono (ok' := fun k_ => some k_ ≠ (u8 : Value).ownBlock ∧ some k_ ≠ (.slice (some ad112) t109.length co15 : Value).ownBlock ∧ k_ ≠ gb107) ho0 (fun k_ hk_ => ⟨Or.elim hk_ (fun hs_ => ((Kd.R_types (Kd.R_apart' (Kd.R_apart' (HO_108002.out) (Kd.R_typed HO_8.out) (by decide)) (Kd.R_typed HO_32.out) (by decide)) BK107.out (by decide)).1 k_ hs_.symm).1.1.2) (fun hn_ => (Kd.fresh' (Kd.R_lt aq13) k_ hn_)), Or.elim hk_ (fun hs_ => ((Kd.R_types (Kd.R_apart' (Kd.R_apart' (HO_108002.out) (Kd.R_typed HO_8.out) (by decide)) (Kd.R_typed HO_32.out) (by decide)) BK107.out (by decide)).1 k_ hs_.symm).1.2) (fun hn_ => (Kd.fresh' (Kd.R_lt aq41) k_ hn_)), Or.elim hk_ (fun hs_ => ((Kd.R_types (Kd.R_apart' (Kd.R_apart' (HO_108002.out) (Kd.R_typed HO_8.out) (by decide)) (Kd.R_typed HO_32.out) (by decide)) BK107.out (by decide)).1 k_ hs_.symm).2) (fun hn_ => (Kd.freshB (g := gb107) (o := .cells #[.int .i64 t101, .int .i64 t102, .slice Ao8 t103.length co8] 62 (0, 0)) aq17 k_ hn_))⟩)) (below_size aq12)); have n4_ := am (blk_below (g := gb107) (o := .cells #[.int .i64 t101, .int .i64 t102, .slice Ao8 t103.length co8] 62 (0, 0)) aq17 hb); have n5_ := am (below_step aq12 hb); clear HO_8; clear HO_32; clear HO_108002; clear BK107; clear HB; have HO_8 := n0_; have HO_32 := n1_; have HO_108002 := n2_; have HO117 := n3_; have BK107 := n4_; have HB := n5_; clear n0_ n1_ n2_ n3_ n4_ n5_; (try clear hb); (try clear hb2); (try clear hk); (try clear hi); (try clear ho0)) | ((with_reducible refine gate_dst (N := 12) rfl ?_); refine box_event ?hg (N := 12) ?hd (cs := #[.int .i64 0, .int .i64 0, .slice none 0 0]) (t := 62) ?hr ?_; (case hd => rfl); (case hg => rfl); (case hr => exact aq15); intro gb119 hg w24 hbox hb; have n0_ := am (Kd.R_below aq13 hb); have n1_ := am (Kd.R_below aq41 hb); have n2_ := am (Kd.R_below aq27 hb); have n3_ := am (Kd.V_below (Kd.V_elderB (by (with_reducible repeat (first | apply Kd.V_alloc | apply Kd.V_drewN | apply Kd.V_drew)); exact HO117.out) gb119 (Nat.le_of_eq hg.symm)) hb); have n4_ := am (blk_below (g := gb107) (o := .cells #[.int .i64 t101, .int .i64 t102, .slice Ao8 t103.length co8] 62 (0, 0)) aq17 hb); have n5_ := am (below_step aq12 hb); have n6_ := am (hbox); have n7_ := am ((by rw [hg]; exact (below_size aq12) : w.heap.size ≤ gb119)); have n8_ := am ((by rw [hg]; exact (below_size aq12) : w.heap.size ≤ gb119)); have n9_ := am ((by rw [hg]; exact Nat.ne_of_lt (blk_lt (g := gb107) (o := .cells #[.int .i64 t101, .int .i64 t102, .slice Ao8 t103.length co8] 62 (0, 0)) aq17) : gb107 ≠ gb119)); have n10_ := am ((by rw [hg]; exact Nat.ne_of_gt (blk_lt (g := gb107) (o := .cells #[.int .i64 t101, .int .i64 t102, .slice Ao8 t103.length co8] 62 (0, 0)) aq17) : gb119 ≠ gb107)); clear HO_8; clear HO_32; clear HO_108002; clear HO117; clear BK107; clear HB; have HO_8 := n0_; have HO_32 := n1_; have HO_108002 := n2_; have HO117 := n3_; have BK107 := n4_; have HB := n5_; have BK119 := n6_; have GW119 := n7_; have GE119 := n8_; have NB107_119 := n9_; have NB119_107 := n10_; clear n0_ n1_ n2_ n3_ n4_ n5_ n6_ n7_ n8_ n9_ n10_; clear hb hbox hg; have hnb25 := NB119_107.out; have hnc25 := NB107_119.out; obtain ⟨hcz26_0, hcz26_1, hcz26_2, hfz26_0, hfz26_1, hfz26_2⟩ := blk3_ BK119.out; obtain ⟨Ao27, co27, eo27⟩ := Kd.V_slice HO117.out; subst eo27) | ((with_reducible refine gate_builtin (b := .append) (xs := #[.tmp 45, .tmp 47]) rfl ?_); at_builtin; refine Kd.R_append Kd.string (w0 := w) w.heap.size rfl (.tmp 45) (.tmp 47) 22 9 (.string ⟨#[]⟩) 16 rfl Tryz.underlying22 info9 rfl (by decide) (by omega) u8 x8_3 (rdOf ByteArray.empty t109 x34_3) [.string (rdOf ByteArray.empty t109 x34_3)] (fun k_ => some k_ ≠ (.slice (some ad112) t109.length co15 : Value).ownBlock) (fun _ => False) rfl aq15 ?aP (fun _ hk => hk.elim) ?aF ?aO ?aB ?aS ?aL ?_; (case aP => exact rfl); (case aB => exact aq38); (case aF => exact (fun k_ hk => Kd.fresh' (Kd.R_lt (by (with_reducible repeat (first | apply Kd.R_alloc | apply Kd.R_drewN | apply Kd.R_drew)); exact (Kd.R_mono (Kd.R_far (p := ⟨gb119, 2, none⟩) (Kd.R_far (p := ⟨gb119, 1, none⟩) (Kd.R_far (p := ⟨gb119, 0, none⟩) (Kd.R_types HO_32.out BK119.out (by decide)) (fun _ hk => hk.2) (.int .i64 t113)) (fun _ hk => hk.2) (.int .i64 t114)) (fun _ hk => hk.2) (.slice Ao27 t115.length co27)) (fun _ h_ => h_.1)))) k_ hk)); (case aO => exact (by (with_reducible repeat (first | apply Kd.R_alloc | apply Kd.R_drewN | apply Kd.R_drew)); exact Kd.R_mono (Kd.R_far (p := ⟨gb119, 2, none⟩) (Kd.R_far (p := ⟨gb119, 1, none⟩) (Kd.R_far (p := ⟨gb119, 0, none⟩) (Kd.R_types HO_8.out BK119.out (by decide)) (fun _ hk => hk.2) (.int .i64 t113)) (fun _ hk => hk.2) (.int .i64 t114)) (fun _ hk => hk.2) (.slice Ao27 t115.length co27)) (fun _ hk => hk.1))); (case aS => exact (below_size aq38)); (case aL => have := LMc21.out; omega); intro v121 w28 ho hb hg hat; rw [← Ny120.out] at ho; have n0_ := am (Kd.R_after (ok := (fun _ => True)) (by (with_reducible repeat (first | apply Kd.R_alloc | apply Kd.R_drewN | apply Kd.R_drew)); exact Kd.R_mono (Kd.R_far (p := ⟨gb119, 2, none⟩) (Kd.R_far (p := ⟨gb119, 1, none⟩) (Kd.R_far (p := ⟨gb119, 0, none⟩) (Kd.R_types HO_32.out BK119.out (by decide)) (fun _ hk => hk.2) (.int .i64 t113)) (fun _ hk => hk.2) (.int .i64 t114)) (fun _ hk => hk.2) (.slice Ao27 t115.length co27)) (fun _ hk => ⟨trivial, hk.1⟩)) hg hat); have n1_ := am (Kd.R_over' (by (with_reducible repeat (first | apply Kd.R_alloc | apply Kd.R_drewN | apply Kd.R_drew)); exact (Kd.R_mono (Kd.R_far (p := ⟨gb119, 2, none⟩) (Kd.R_far (p := ⟨gb119, 1, none⟩) (Kd.R_far (p := ⟨gb119, 0, none⟩) (Kd.R_types HO_108002.out BK119.out (by decide)) (fun _ hk => hk.2) (.int .i64 t113)) (fun _ hk => hk.2) (.int .i64 t114)) (fun _ hk => hk.2) (.slice Ao27 t115.length co27)) (fun _ h_ => h_.1))) (Kd.R_typed (by (with_reducible repeat (first | apply Kd.R_alloc | apply Kd.R_drewN | apply Kd.R_drew)); exact (Kd.R_mono (Kd.R_far (p := ⟨gb119, 2, none⟩) (Kd.R_far (p := ⟨gb119, 1, none⟩) (Kd.R_far (p := ⟨gb119, 0, none⟩) (Kd.R_types HO_8.out BK119.out (by decide)) (fun _ hk => hk.2) (.int .i64 t113)) (fun _ hk => hk.2) (.int .i64 t114)) (fun _ hk => hk.2) (.slice Ao27 t115.length co27)) (fun _ h_ => h_.1)))) (by decide) hg); have n2_ := am (blk_grown (g := gb107) (o := .cells #[.int .i64 t101, .int .i64 t102, .slice Ao8 t103.length co8] 62 (0, 0)) aq40 hg (Kd.R_ne HO_8.out BK107.out (by decide))); have n3_ := am (Kd.V_afterv (ok := (fun k_ => some k_ ≠ (.slice (some ad112) t109.length co15 : Value).ownBlock ∧ k_ ≠ gb107 ∧ k_ ≠ gb119)) (by (with_reducible repeat (first | apply Kd.V_alloc | apply Kd.V_drewN | apply Kd.V_drew)); exact Kd.V_mono (Kd.V_far (p := ⟨gb119, 2, none⟩) (Kd.V_far (p := ⟨gb119, 1, none⟩) (Kd.V_far (p := ⟨gb119, 0, none⟩) (Kd.V_mono HO117.out (fun k_ hk => (⟨hk, hk.2⟩ : _ ∧ k_ ≠ gb119))) (fun _ hk => hk.2) (.int .i64 t113)) (fun _ hk => hk.2) (.int .i64 t114)) (fun _ hk => hk.2) (.slice Ao27 t115.length co27)) (fun _ hk => ⟨⟨hk.1.1.2.1, ⟨hk.1.1.2.2, hk.1.2⟩⟩, hk.1.1.1⟩)) hg hat); have n4_ := am (blk_grown (g := gb119) (o := .cells #[.int .i64 t113, .int .i64 t114, .slice Ao27 t115.length co27] 62 (0, 0)) (by (with_reducible repeat (first | refine blk_drewN ?_ _ | refine blk_drew ?_ | refine blk_alloc ?_ _)); refine blk_put (cs := #[.int .i64 t113, .int .i64 t114, .slice none 0 0]) ?_ 2 _ rfl; (with_reducible repeat (first | refine blk_drewN ?_ _ | refine blk_drew ?_ | refine blk_alloc ?_ _)); refine blk_put (cs := #[.int .i64 t113, .int .i64 0, .slice none 0 0]) ?_ 1 _ rfl; (with_reducible repeat (first | refine blk_drewN ?_ _ | refine blk_drew ?_ | refine blk_alloc ?_ _)); refine blk_put (cs := #[.int .i64 0, .int .i64 0, .slice none 0 0]) ?_ 0 _ rfl; (with_reducible repeat (first | refine blk_drewN ?_ _ | refine blk_drew ?_ | refine blk_alloc ?_ _)); exact BK119.out) hg (Kd.R_ne HO_8.out BK119.out (by decide))); have n5_ := am (hb); have n6_ := am (ho); clear HO_32; clear HO_108002; clear BK107; clear HO117; clear BK119; clear HB; clear HO_8; have HO_32 := n0_; have HO_108002 := n1_; have BK107 := n2_; have HO117 := n3_; have BK119 := n4_; have HB := n5_; have HO122 := n6_; clear n0_ n1_ n2_ n3_ n4_ n5_ n6_; clear ho hb hg hat))
              go_roundg k3
              case measure => have := HJ3.out; have := HK2.out; have := HK3.out; omega
              case rel => exact ⟨(y120), (wrap64 (x34_3 + 1)), aq7, H', ⟨by have := HJ3.out; have := HK2.out; have := HK3.out; omega⟩, ⟨aq77⟩, ⟨by (with_reducible repeat (first | apply Kd.R_alloc | apply Kd.R_drewN | apply Kd.R_drew)); exact Kd.R_mono HO_32.out (fun _ hk => hk.2)⟩, ⟨aq27⟩, ⟨aq17⟩, ⟨aq38⟩⟩
             ·rw [if_neg c21] at H
              exact absurd H (by simp)
            ·replace c20 := Bool.eq_false_iff.mpr c20
             subst c20
             rw [if_neg Bool.false_ne_true] at H
             have H' := am H
             clear H
             have p112 : 0 ≤ (x34_3 : Int) := of_decide_eq_true aq6
             have q112 : x34_3 < (t109.length : Int) := of_decide_eq_true aq6
             obtain ⟨ad112, e112, hx112_0⟩ := Kd.at_string (Kd.R_reads' HO_32.out).2.2 x34_3 p112 q112
             cases e112
             replace p112 := eq_true p112
             replace q112 := eq_true q112
             obtain ⟨hcz29_0, hcz29_1, hcz29_2, hfz29_0, hfz29_1, hfz29_2⟩ := blk3_ BK107.out
             go_wp2_with (first | ((with_reducible refine gate_callee (f := 54) rfl ?_); refine goesL_ (some 41) rfl rfl Tryz.func54 (by kernel_rfl) rfl #[.agg #[.int .i64 t101, .int .i64 t102, .slice Ao8 t103.length co8], .string (rdOf ByteArray.empty t109 x34_3)] rfl aq5 ?_; (with_reducible refine (spec_mcBack.calls k3 t101 t102 (fun k_ => some k_ = (.slice Ao8 t103.length co8 : Value).ownBlock) _ _ t103 (rdOf ByteArray.empty t109 x34_3) t113 t114 t115 false _ ?side1 A19.out).mono ?_); (case side1 => exact aq89); rintro e w30 ⟨v116, rfl, ho0, hb⟩; refine ⟨_, rfl, ?_⟩; have n0_ := am (Kd.R_below aq13 hb); have n1_ := am (Kd.R_below aq41 hb); have n2_ := am (Kd.R_below aq27 hb); have n3_ := am (Kd.V_lower (Kd.V_mono (ok' := fun k_ => some k_ ≠ (u8 : Value).ownBlock ∧ some k_ ≠ (.slice (some ad112) t109.length co15 : Value).ownBlock ∧ k_ ≠ gb107) ho0 (fun k_ hk_ => ⟨Or.elim hk_ (fun hs_ => ((Kd.R_types (Kd.R_apart' (Kd.R_apart' (HO_108002.out) (Kd.R_typed HO_8.out) (by decide)) (Kd.R_typed HO_32.out) (by decide)) BK107.out (by decide)).1 k_ hs_.symm).1.1.2) (fun hn_ => (Kd.fresh' (Kd.R_lt aq13) k_ hn_)), Or.elim hk_ (fun hs_ => ((Kd.R_types (Kd.R_apart' (Kd.R_apart' (HO_108002.out) (Kd.R_typed HO_8.out) (by decide)) (Kd.R_typed HO_32.out) (by decide)) BK107.out (by decide)).1 k_ hs_.symm).1.2) (fun hn_ => (Kd.fresh' (Kd.R_lt aq41) k_ hn_)), Or.elim hk_ (fun hs_ => ((Kd.R_types (Kd.R_apart' (Kd.R_apart' (HO_108002.out) (Kd.R_typed HO_8.out) (by decide)) (Kd.R_typed HO_32.out) (by decide)) BK107.out (by decide)).1 k_ hs_.symm).2) (fun hn_ => (Kd.freshB (g := gb107) (o := .cells #[.int .i64 t101, .int .i64 t102, .slice Ao8 t103.length co8] 62 (0, 0)) aq17 k_ hn_))⟩)) (below_size aq12)); have n4_ := am (blk_below (g := gb107) (o := .cells #[.int .i64 t101, .int .i64 t102, .slice Ao8 t103.length co8] 62 (0, 0)) aq17 hb); have n5_ := am (below_step aq12 hb); clear HO_8; clear HO_32; clear HO_108002; clear BK107; clear HB; have HO_8 := n0_; have HO_32 := n1_; have HO_108002 := n2_; have HO117 := n3_; have BK107 := n4_; have HB := n5_; clear n0_ n1_ n2_ n3_ n4_ n5_; (try clear hb); (try clear hb2); (try clear hk); (try clear hi); (try clear ho0)) | ((with_reducible refine gate_dst (N := 12) rfl ?_); refine box_event ?hg (N := 12) ?hd (cs := #[.int .i64 0, .int .i64 0, .slice none 0 0]) (t := 62) ?hr ?_; (case hd => rfl); (case hg => rfl); (case hr => exact aq15); intro gb119 hg w31 hbox hb; have n0_ := am (Kd.R_below aq13 hb); have n1_ := am (Kd.R_below aq41 hb); have n2_ := am (Kd.R_below aq27 hb); have n3_ := am (Kd.V_below (Kd.V_elderB (by (with_reducible repeat (first | apply Kd.V_alloc | apply Kd.V_drewN | apply Kd.V_drew)); exact HO117.out) gb119 (Nat.le_of_eq hg.symm)) hb); have n4_ := am (blk_below (g := gb107) (o := .cells #[.int .i64 t101, .int .i64 t102, .slice Ao8 t103.length co8] 62 (0, 0)) aq17 hb); have n5_ := am (below_step aq12 hb); have n6_ := am (hbox); have n7_ := am ((by rw [hg]; exact (below_size aq12) : w.heap.size ≤ gb119)); have n8_ := am ((by rw [hg]; exact (below_size aq12) : w.heap.size ≤ gb119)); have n9_ := am ((by rw [hg]; exact Nat.ne_of_lt (blk_lt (g := gb107) (o := .cells #[.int .i64 t101, .int .i64 t102, .slice Ao8 t103.length co8] 62 (0, 0)) aq17) : gb107 ≠ gb119)); have n10_ := am ((by rw [hg]; exact Nat.ne_of_gt (blk_lt (g := gb107) (o := .cells #[.int .i64 t101, .int .i64 t102, .slice Ao8 t103.length co8] 62 (0, 0)) aq17) : gb119 ≠ gb107)); clear HO_8; clear HO_32; clear HO_108002; clear HO117; clear BK107; clear HB; have HO_8 := n0_; have HO_32 := n1_; have HO_108002 := n2_; have HO117 := n3_; have BK107 := n4_; have HB := n5_; have BK119 := n6_; have GW119 := n7_; have GE119 := n8_; have NB107_119 := n9_; have NB119_107 := n10_; clear n0_ n1_ n2_ n3_ n4_ n5_ n6_ n7_ n8_ n9_ n10_; clear hb hbox hg; have hnb32 := NB119_107.out; have hnc32 := NB107_119.out; obtain ⟨hcz33_0, hcz33_1, hcz33_2, hfz33_0, hfz33_1, hfz33_2⟩ := blk3_ BK119.out; obtain ⟨Ao34, co34, eo34⟩ := Kd.V_slice HO117.out; subst eo34))
             go_roundg k3
             case measure => have := HJ3.out; have := HK2.out; have := HK3.out; omega
             case rel => exact ⟨(x8_3), (wrap64 (x34_3 + 1)), aq7, H', ⟨by have := HJ3.out; have := HK2.out; have := HK3.out; omega⟩, ⟨by (with_reducible repeat (first | apply Kd.R_alloc | apply Kd.R_drewN | apply Kd.R_drew)); exact Kd.R_mono (Kd.R_far (p := ⟨gb119, 2, none⟩) (Kd.R_far (p := ⟨gb119, 1, none⟩) (Kd.R_far (p := ⟨gb119, 0, none⟩) (Kd.R_types HO_8.out BK119.out (by decide)) (fun _ hk => hk.2) (.int .i64 t113)) (fun _ hk => hk.2) (.int .i64 t114)) (fun _ hk => hk.2) (.slice Ao34 t115.length co34)) (fun _ hk => hk.1)⟩, ⟨by (with_reducible repeat (first | apply Kd.R_alloc | apply Kd.R_drewN | apply Kd.R_drew)); exact Kd.R_mono (Kd.R_far (p := ⟨gb119, 2, none⟩) (Kd.R_far (p := ⟨gb119, 1, none⟩) (Kd.R_far (p := ⟨gb119, 0, none⟩) (Kd.R_types HO_32.out BK119.out (by decide)) (fun _ hk => hk.2) (.int .i64 t113)) (fun _ hk => hk.2) (.int .i64 t114)) (fun _ hk => hk.2) (.slice Ao34 t115.length co34)) (fun _ hk => hk.1)⟩, ⟨by (with_reducible repeat (first | apply Kd.R_alloc | apply Kd.R_drewN | apply Kd.R_drew)); exact Kd.R_mono (Kd.R_far (p := ⟨gb119, 2, none⟩) (Kd.R_far (p := ⟨gb119, 1, none⟩) (Kd.R_far (p := ⟨gb119, 0, none⟩) (Kd.R_types HO_108002.out BK119.out (by decide)) (fun _ hk => hk.2) (.int .i64 t113)) (fun _ hk => hk.2) (.int .i64 t114)) (fun _ hk => hk.2) (.slice Ao34 t115.length co34)) (fun _ hk => trivial)⟩, ⟨aq40⟩, ⟨aq38⟩⟩
           ·rw [if_neg c18] at H
            exact absurd H (by simp)
          ·rw [if_neg c17] at H
           exact absurd H (by simp)
         ·rw [if_neg c16] at H
          have c16b0 := decide_eq_false c16
          clear c16
          have H' := am H
          clear H
          go_wp2
          go_roundg k3
          case measure => have := HJ3.out; have := HK2.out; have := HK3.out; omega
          case rel => exact ⟨(x8_3), (wrap64 (x9_2 + 1)), aq7, H', ⟨by have := HJ3.out; have := HK2.out; have := HK3.out; omega⟩, ⟨by (with_reducible repeat (first | apply Kd.R_alloc | apply Kd.R_drewN | apply Kd.R_drew)); exact Kd.R_mono HO_8.out (fun _ hk => trivial)⟩, ⟨aq27⟩, ⟨aq17⟩, ⟨aq12⟩⟩
      ·rw [if_neg c12] at H
       have c12b0 := decide_eq_false c12
       clear c12
       simp only [Option.some.injEq, Prod.mk.injEq] at H
       obtain ⟨rfl, rfl⟩ := H
       go_wp2
       go_ret2
       exact ⟨_, aq8, aq13, aq12⟩
mutual
def laws_FnExactWordsBack.j0 : Nat → ByteArray → Int → List ByteArray → Bool → List ByteArray → Bool → Option (Bool)
 | 0, _, _, _, _, _, _ => none
 | k + 1, x0, x1, x5, x6, x7, x36 => if x36 = true then (some false) else ((laws_markStringS.f k x7 1).bind fun bt110 => ((laws_heldStringS.f k bt110.2 1).bind fun t112 => (if t112 < 0 then (some false) else (if t112 = bt110.1 then ((impl_WordsBack.f k x0 x1).bind fun bt113 => ((laws_eqStringS.f k bt113.1 x5).bind fun t117 => (if t117 = true then (laws_FnExactWordsBack.j1 k bt110.2 bt110.1 (bt113.2 != x6)) else (laws_FnExactWordsBack.j1 k bt110.2 bt110.1 true)))) else (some false)))))
def laws_FnExactWordsBack.j1 : Nat → List ByteArray → Int → Bool → Option (Bool)
 | 0, _, _, _ => none
 | k + 1, x7, x9, x62 => if x62 = true then (some false) else ((laws_heldStringS.f k x7 1).bind fun t118 => (if t118 < 0 then (some false) else (if t118 = x9 then (some true) else (some false))))
end
def laws_FnExactWordsBack.f (k : Nat) (a0 : ByteArray) (a1 : Int) : Option (Bool) := if (a0.size : Int) > 1048576 then (some true) else ((spec_WordsBack.f k a0 a1).bind fun bt101 => ((impl_WordsBack.f k a0 a1).bind fun bt105 => ((laws_eqStringS.f k bt105.1 bt101.1).bind fun t109 => (if t109 = true then (laws_FnExactWordsBack.j0 k a0 a1 bt101.1 bt101.2 bt105.1 (bt105.2 != bt101.2)) else (laws_FnExactWordsBack.j0 k a0 a1 bt101.1 bt101.2 bt105.1 true)))))
theorem laws_FnExactWordsBack.mono_l : ∀ k, (∀ y0 y1 y2 y3 y4 y5, LeO (laws_FnExactWordsBack.j0 k y0 y1 y2 y3 y4 y5) (laws_FnExactWordsBack.j0 (k + 1) y0 y1 y2 y3 y4 y5)) ∧ (∀ y0 y1 y2, LeO (laws_FnExactWordsBack.j1 k y0 y1 y2) (laws_FnExactWordsBack.j1 (k + 1) y0 y1 y2))
 | 0 => ⟨fun _ _ _ _ _ _ r h => by simp [laws_FnExactWordsBack.j0] at h, fun _ _ _ r h => by simp [laws_FnExactWordsBack.j1] at h⟩
 | k + 1 => by
  obtain ⟨ih0, ih1⟩ := laws_FnExactWordsBack.mono_l k
  refine ⟨?_, ?_⟩
  ·intro y0 y1 y2 y3 y4 y5
   unfold laws_FnExactWordsBack.j0
   have im0 := @impl_WordsBack.mono; have im1 := @laws_eqStringS.mono; have im2 := @laws_heldStringS.mono; have im3 := @laws_markStringS.mono; have im4 := @spec_WordsBack.mono; exact mo
  ·intro y0 y1 y2
   unfold laws_FnExactWordsBack.j1
   have im0 := @impl_WordsBack.mono; have im1 := @laws_eqStringS.mono; have im2 := @laws_heldStringS.mono; have im3 := @laws_markStringS.mono; have im4 := @spec_WordsBack.mono; exact mo
set_option maxHeartbeats 8000000 in
set_option maxRecDepth 100000 in
theorem laws_FnExactWordsBack.calls (k : Nat) (a0 : ByteArray) (a1 : Int) (r : Bool) (w : World) (h : laws_FnExactWordsBack.f k a0 a1 = some r) :
  Calls Tryz.prog 3 #[.string a0, .int .i64 a1] w fun e w' => e = .returned (.bool r) ∧ Below w.heap.size w w' := by
 have HB := am (Below.refl w.heap.size w)
 have H : (if (a0.size : Int) > 1048576 then (some true) else ((spec_WordsBack.f k a0 a1).bind fun bt101 => ((impl_WordsBack.f k a0 a1).bind fun bt105 => ((laws_eqStringS.f k bt105.1 bt101.1).bind fun t109 => (if t109 = true then (laws_FnExactWordsBack.j0 k a0 a1 bt101.1 bt101.2 bt105.1 (bt105.2 != bt101.2)) else (laws_FnExactWordsBack.j0 k a0 a1 bt101.1 bt101.2 bt105.1 true)))))) = some r := h
 clear h
 by_cases c3 : (a0.size : Int) > 1048576
 ·rw [if_pos c3] at H
  have c3b0 := decide_eq_true c3
  have c3b1 : decide (1048576 < a0.size) = true := decide_eq_true (by omega)
  clear c3
  obtain rfl := Option.some.inj H
  go_enter Tryz.func3, Tryz.ntmps3
  go_wp2
  go_ret
  exact ⟨aq8, aq1⟩
 ·rw [if_neg c3] at H
  have c3b0 := decide_eq_false c3
  have c3b1 : decide (1048576 < a0.size) = false := decide_eq_false (by omega)
  clear c3
  replace H := Option.bind_eq_some_iff.mp H
  obtain ⟨⟨t101, t102⟩, A40, H⟩ := H
  replace H : ((impl_WordsBack.f k a0 a1).bind fun bt105 => ((laws_eqStringS.f k bt105.1 t101).bind fun t109 => (if t109 = true then (laws_FnExactWordsBack.j0 k a0 a1 t101 t102 bt105.1 (bt105.2 != t102)) else (laws_FnExactWordsBack.j0 k a0 a1 t101 t102 bt105.1 true)))) = some r := H
  have A4 := am A40
  clear A40
  replace H := Option.bind_eq_some_iff.mp H
  obtain ⟨⟨t105, t106⟩, A50, H⟩ := H
  replace H : ((laws_eqStringS.f k t105 t101).bind fun t109 => (if t109 = true then (laws_FnExactWordsBack.j0 k a0 a1 t101 t102 t105 (t106 != t102)) else (laws_FnExactWordsBack.j0 k a0 a1 t101 t102 t105 true))) = some r := H
  have A5 := am A50
  clear A50
  have HC6 := am H
  clear H
  go_enter Tryz.func3, Tryz.ntmps3
  go_upto_region 5 with (first | ((with_reducible refine gate_callee (f := 15) rfl ?_); refine goesL_ (some 19) rfl rfl Tryz.func15 (by kernel_rfl) rfl #[.string a0, .int .i64 a1] rfl aq5 ?_; (with_reducible refine (spec_WordsBack.calls k a0 a1 t101 t102 _ A4.out).mono ?_); rintro e w7 ⟨v103, rfl, ho0, hb⟩; refine ⟨_, rfl, ?_⟩; have n0_ := am (Kd.R_lower ho0 (below_size aq1)); have n1_ := am (below_step aq1 hb); clear HB; have HO104 := n0_; have HB := n1_; clear n0_ n1_; (try clear hb); (try clear hb2); (try clear hk); (try clear hi); (try clear ho0)) | ((with_reducible refine gate_callee (f := 16) rfl ?_); refine goesL_ (some 25) rfl rfl Tryz.func16 (by kernel_rfl) rfl #[.string a0, .int .i64 a1] rfl aq5 ?_; (with_reducible refine (impl_WordsBack.calls k a0 a1 t105 t106 _ A5.out).mono ?_); rintro e w8 ⟨v107, rfl, ho0, hb⟩; refine ⟨_, rfl, ?_⟩; have n0_ := am (Kd.R_elder' aq42 (Kd.R_base ho0) hb); have n1_ := am (Kd.R_lower (Kd.R_new' ho0 (Kd.R_lt aq42)) (below_size aq1)); have n2_ := am (below_step aq1 hb); clear HO104; clear HB; have HO104 := n0_; have HO108 := n1_; have HB := n2_; clear n0_ n1_ n2_; (try clear hb); (try clear hb2); (try clear hk); (try clear hi); (try clear ho0)))
  (try simp only [Act.put, List.setIfInBounds_toArray, List.set_cons_zero, List.set_cons_succ])
  go_cut [36] (fun v36 wc => ∃ (kq : Nat) (x36_5 : Bool), v36 = .bool x36_5 ∧ Aside0 (laws_FnExactWordsBack.j0 kq a0 a1 t101 t102 t105 x36_5 = some r) ∧ Aside0 (kq ≤ k) ∧ Aside0 (Kd.R Kd.string 9 wc w.heap.size (fun k_ => some k_ ≠ (v107 : Value).ownBlock) v103 t101) ∧ Aside0 (Kd.R Kd.string 9 wc w.heap.size (fun k_ => some k_ ≠ (v103 : Value).ownBlock) v107 t105) ∧ Aside0 (Below w.heap.size w wc))
  case first =>
   have H := HC6.out
   clear HC6
   obtain ⟨t109, A90, H⟩ := Option.bind_eq_some_iff.mp H
   have A9 := am A90
   clear A90
   by_cases c10 : t109 = true
   ·subst c10
    rw [if_pos rfl] at H
    have H' := am H
    clear H
    obtain ⟨Ao11, co11, eo11⟩ := Kd.R_slice HO108.out
    subst eo11
    obtain ⟨Ao12, co12, eo12⟩ := Kd.R_slice HO104.out
    subst eo12
    go_wp2_with (first | ((with_reducible refine gate_callee (f := 17) rfl ?_); refine goesL_ (some 30) rfl rfl Tryz.func17 (by kernel_rfl) rfl #[.slice Ao11 t105.length co11, .slice Ao12 t101.length co12] rfl aq5 ?_; (with_reducible refine (laws_eqStringS.calls k _ _ t105 _ _ t101 true _ ?side1 ?side2 ?side3 ?side4 A9.out).mono ?_); (case side1 => exact aq92); (case side2 => exact (Kd.R_reads' HO108.out).2.1); (case side3 => exact aq61); (case side4 => exact (Kd.R_reads' HO104.out).2.1); rintro e w' ⟨rfl, ⟨nd, rfl⟩⟩; refine ⟨_, rfl, ?_⟩))
    go_meet
    case rel => exact ⟨_, ((t106 != t102)), aq7, H', ⟨aq82⟩, ⟨aq105⟩, ⟨aq104⟩, ⟨aq1⟩⟩
   ·replace c10 := Bool.eq_false_iff.mpr c10
    subst c10
    rw [if_neg Bool.false_ne_true] at H
    have H' := am H
    clear H
    obtain ⟨Ao13, co13, eo13⟩ := Kd.R_slice HO108.out
    subst eo13
    obtain ⟨Ao14, co14, eo14⟩ := Kd.R_slice HO104.out
    subst eo14
    go_wp2_with (first | ((with_reducible refine gate_callee (f := 17) rfl ?_); refine goesL_ (some 30) rfl rfl Tryz.func17 (by kernel_rfl) rfl #[.slice Ao13 t105.length co13, .slice Ao14 t101.length co14] rfl aq5 ?_; (with_reducible refine (laws_eqStringS.calls k _ _ t105 _ _ t101 false _ ?side1 ?side2 ?side3 ?side4 A9.out).mono ?_); (case side1 => exact aq92); (case side2 => exact (Kd.R_reads' HO108.out).2.1); (case side3 => exact aq61); (case side4 => exact (Kd.R_reads' HO104.out).2.1); rintro e w' ⟨rfl, ⟨nd, rfl⟩⟩; refine ⟨_, rfl, ?_⟩))
    go_meet
    case rel => exact ⟨_, (true), aq7, H', ⟨aq82⟩, ⟨aq105⟩, ⟨aq104⟩, ⟨aq1⟩⟩
  case rest =>
   clear HC6
   try clear c1
   try clear p2
   try clear c3
   try clear c3b0
   try clear c3b1
   try clear c10
   obtain ⟨kq, x36_5, rfl, HA, HJ5, HO_5, HO_7, HB⟩ := hcut
   cases kq with
   | zero => exact absurd HA.out (by simp [laws_FnExactWordsBack.j0])
   | succ kj5 =>
    have H := HA.out
    clear HA
    simp only [laws_FnExactWordsBack.j0] at H
    by_cases c15 : x36_5 = true
    ·subst c15
     rw [if_pos rfl] at H
     obtain rfl := Option.some.inj H
     go_wp2
     go_ret
     exact ⟨aq8, aq1⟩
    ·replace c15 := Bool.eq_false_iff.mpr c15
     subst c15
     rw [if_neg Bool.false_ne_true] at H
     replace H := Option.bind_eq_some_iff.mp H
     obtain ⟨⟨t110, t111⟩, A160, H⟩ := H
     replace H : ((laws_heldStringS.f kj5 t111 1).bind fun t112 => (if t112 < 0 then (some false) else (if t112 = t110 then ((impl_WordsBack.f kj5 a0 a1).bind fun bt113 => ((laws_eqStringS.f kj5 bt113.1 t101).bind fun t117 => (if t117 = true then (laws_FnExactWordsBack.j1 kj5 t111 t110 (bt113.2 != t102)) else (laws_FnExactWordsBack.j1 kj5 t111 t110 true)))) else (some false)))) = some r := H
     have A16 := am A160
     clear A160
     obtain ⟨t112, A170, H⟩ := Option.bind_eq_some_iff.mp H
     have A17 := am A170
     clear A170
     by_cases c18 : t112 < 0
     ·rw [if_pos c18] at H
      have c18b0 := decide_eq_true c18
      clear c18
      obtain rfl := Option.some.inj H
      obtain ⟨Ao19, co19, eo19⟩ := Kd.R_slice HO_7.out
      subst eo19
      go_wp2_with (first | ((with_reducible refine gate_callee (f := 18) rfl ?_); refine goesL_ (some 39) rfl rfl Tryz.func18 (by kernel_rfl) rfl #[.slice Ao19 t105.length co19, .int .i64 1] rfl aq5 ?_; (with_reducible refine (laws_markStringS.calls kj5 (fun k_ => some k_ = (.slice Ao19 t105.length co19 : Value).ownBlock) (.slice Ao19 t105.length co19) t105 1 t110 t111 w _ ?side1 ?side2 A16.out).mono ?_); (case side1 => exact aq1); (case side2 => exact Kd.R_tight rfl HO_7.out); rintro e w20 ⟨rfl, hy0, hb, hkp⟩; refine ⟨_, rfl, ?_⟩; have n0_ := am (Kd.R_mono (ok' := fun k_ => some k_ ≠ (.slice Ao19 t105.length co19 : Value).ownBlock) (Kd.R_keptB (HO_5.out) hkp (fun k_ hk_ hs_ => (hk_) hs_)) (fun k_ hk_ => hk_.1)); have n1_ := am (Kd.R_reok rfl hy0 (fun k_ e_ => HO_7.out.1 k_ e_)); have n2_ := am (hb); clear HO_5; clear HO_7; clear HB; have HO_5 := n0_; have HO_7 := n1_; have HB := n2_; clear n0_ n1_ n2_; (try clear hb); (try clear hkp); (try clear hy0)) | ((with_reducible refine gate_callee (f := 19) rfl ?_); refine goesL_ (some 42) rfl rfl Tryz.func19 (by kernel_rfl) rfl #[.slice Ao19 t111.length co19, .int .i64 1] rfl aq46 ?_; (with_reducible refine (laws_heldStringS.calls kj5 _ _ t111 1 t112 _ ?side1 ?side2 A17.out).mono ?_); (case side1 => exact aq25); (case side2 => exact aq81); rintro e w21 ⟨rfl, hb⟩; refine ⟨_, rfl, ?_⟩; have n0_ := am (Kd.R_below aq30 hb); have n1_ := am (Kd.R_below aq21 hb); have n2_ := am (below_step aq1 hb); clear HO_5; clear HO_7; clear HB; have HO_5 := n0_; have HO_7 := n1_; have HB := n2_; clear n0_ n1_ n2_; (try clear hb); (try clear hb2); (try clear hk); (try clear hi)))
      go_ret
      exact ⟨aq8, aq1⟩
     ·rw [if_neg c18] at H
      have c18b0 := decide_eq_false c18
      clear c18
      by_cases c22 : t112 = t110
      ·rw [if_pos c22] at H
       have c22b0 := beq_iff_eq.mpr c22
       have c22b1 := bne_eq_false_iff_eq.mpr c22
       clear c22
       replace H := Option.bind_eq_some_iff.mp H
       obtain ⟨⟨t113, t114⟩, A230, H⟩ := H
       replace H : ((laws_eqStringS.f kj5 t113 t101).bind fun t117 => (if t117 = true then (laws_FnExactWordsBack.j1 kj5 t111 t110 (t114 != t102)) else (laws_FnExactWordsBack.j1 kj5 t111 t110 true))) = some r := H
       have A23 := am A230
       clear A230
       have HC24 := am H
       clear H
       obtain ⟨Ao25, co25, eo25⟩ := Kd.R_slice HO_7.out
       subst eo25
       go_upto_region 16 with (first | ((with_reducible refine gate_callee (f := 18) rfl ?_); refine goesL_ (some 39) rfl rfl Tryz.func18 (by kernel_rfl) rfl #[.slice Ao25 t105.length co25, .int .i64 1] rfl aq5 ?_; (with_reducible refine (laws_markStringS.calls kj5 (fun k_ => some k_ = (.slice Ao25 t105.length co25 : Value).ownBlock) (.slice Ao25 t105.length co25) t105 1 t110 t111 w _ ?side1 ?side2 A16.out).mono ?_); (case side1 => exact aq1); (case side2 => exact Kd.R_tight rfl HO_7.out); rintro e w26 ⟨rfl, hy0, hb, hkp⟩; refine ⟨_, rfl, ?_⟩; have n0_ := am (Kd.R_mono (ok' := fun k_ => some k_ ≠ (.slice Ao25 t105.length co25 : Value).ownBlock) (Kd.R_keptB (HO_5.out) hkp (fun k_ hk_ hs_ => (hk_) hs_)) (fun k_ hk_ => hk_.1)); have n1_ := am (Kd.R_reok rfl hy0 (fun k_ e_ => HO_7.out.1 k_ e_)); have n2_ := am (hb); clear HO_5; clear HO_7; clear HB; have HO_5 := n0_; have HO_7 := n1_; have HB := n2_; clear n0_ n1_ n2_; (try clear hb); (try clear hkp); (try clear hy0)) | ((with_reducible refine gate_callee (f := 19) rfl ?_); refine goesL_ (some 42) rfl rfl Tryz.func19 (by kernel_rfl) rfl #[.slice Ao25 t111.length co25, .int .i64 1] rfl aq46 ?_; (with_reducible refine (laws_heldStringS.calls kj5 _ _ t111 1 t112 _ ?side1 ?side2 A17.out).mono ?_); (case side1 => exact aq25); (case side2 => exact aq81); rintro e w27 ⟨rfl, hb⟩; refine ⟨_, rfl, ?_⟩; have n0_ := am (Kd.R_below aq30 hb); have n1_ := am (Kd.R_below aq21 hb); have n2_ := am (below_step aq1 hb); clear HO_5; clear HO_7; clear HB; have HO_5 := n0_; have HO_7 := n1_; have HB := n2_; clear n0_ n1_ n2_; (try clear hb); (try clear hb2); (try clear hk); (try clear hi)) | ((with_reducible refine gate_callee (f := 16) rfl ?_); refine goesL_ (some 51) rfl rfl Tryz.func16 (by kernel_rfl) rfl #[.string a0, .int .i64 a1] rfl aq5 ?_; (with_reducible refine (impl_WordsBack.calls kj5 a0 a1 t113 t114 _ A23.out).mono ?_); rintro e w28 ⟨v115, rfl, ho0, hb⟩; refine ⟨_, rfl, ?_⟩; have n0_ := am (Kd.R_elder' aq30 (Kd.R_base ho0) hb); have n1_ := am (Kd.R_elder' aq21 (Kd.R_base ho0) hb); have n2_ := am (Kd.R_lower (Kd.R_new' (Kd.R_new' ho0 (Kd.R_lt aq30)) (Kd.R_lt aq21)) (below_size aq1)); have n3_ := am (below_step aq1 hb); clear HO_5; clear HO_7; clear HB; have HO_5 := n0_; have HO_7 := n1_; have HO116 := n2_; have HB := n3_; clear n0_ n1_ n2_ n3_; (try clear hb); (try clear hb2); (try clear hk); (try clear hi); (try clear ho0)))
       (try simp only [Act.put, List.setIfInBounds_toArray, List.set_cons_zero, List.set_cons_succ])
       go_cut [62] (fun v62 wc => ∃ (kq : Nat) (x62_23 : Bool), v62 = .bool x62_23 ∧ Aside0 (laws_FnExactWordsBack.j1 kq t111 t110 x62_23 = some r) ∧ Aside0 (kq ≤ kj5) ∧ Aside0 (Kd.R Kd.string 9 wc w.heap.size (fun _ => True) (.slice Ao25 t105.length co25) t111) ∧ Aside0 (Below w.heap.size w wc))
       case first =>
        have H := HC24.out
        clear HC24
        obtain ⟨t117, A290, H⟩ := Option.bind_eq_some_iff.mp H
        have A29 := am A290
        clear A290
        by_cases c30 : t117 = true
        ·subst c30
         rw [if_pos rfl] at H
         have H' := am H
         clear H
         obtain ⟨Ao31, co31, eo31⟩ := Kd.R_slice HO116.out
         subst eo31
         obtain ⟨Ao32, co32, eo32⟩ := Kd.R_slice HO_5.out
         subst eo32
         go_wp2_with (first | ((with_reducible refine gate_callee (f := 17) rfl ?_); refine goesL_ (some 56) rfl rfl Tryz.func17 (by kernel_rfl) rfl #[.slice Ao31 t113.length co31, .slice Ao32 t101.length co32] rfl aq5 ?_; (with_reducible refine (laws_eqStringS.calls kj5 _ _ t113 _ _ t101 true _ ?side1 ?side2 ?side3 ?side4 A29.out).mono ?_); (case side1 => exact aq91); (case side2 => exact (Kd.R_reads' HO116.out).2.1); (case side3 => exact aq94); (case side4 => exact (Kd.R_reads' HO_5.out).2.1); rintro e w' ⟨rfl, ⟨nd, rfl⟩⟩; refine ⟨_, rfl, ?_⟩))
         go_meet
         case rel => exact ⟨_, ((t114 != t102)), aq7, H', ⟨by have := HJ5.out; first | omega | exact Nat.le_refl _⟩, ⟨aq102⟩, ⟨aq1⟩⟩
        ·replace c30 := Bool.eq_false_iff.mpr c30
         subst c30
         rw [if_neg Bool.false_ne_true] at H
         have H' := am H
         clear H
         obtain ⟨Ao33, co33, eo33⟩ := Kd.R_slice HO116.out
         subst eo33
         obtain ⟨Ao34, co34, eo34⟩ := Kd.R_slice HO_5.out
         subst eo34
         go_wp2_with (first | ((with_reducible refine gate_callee (f := 17) rfl ?_); refine goesL_ (some 56) rfl rfl Tryz.func17 (by kernel_rfl) rfl #[.slice Ao33 t113.length co33, .slice Ao34 t101.length co34] rfl aq5 ?_; (with_reducible refine (laws_eqStringS.calls kj5 _ _ t113 _ _ t101 false _ ?side1 ?side2 ?side3 ?side4 A29.out).mono ?_); (case side1 => exact aq91); (case side2 => exact (Kd.R_reads' HO116.out).2.1); (case side3 => exact aq94); (case side4 => exact (Kd.R_reads' HO_5.out).2.1); rintro e w' ⟨rfl, ⟨nd, rfl⟩⟩; refine ⟨_, rfl, ?_⟩))
         go_meet
         case rel => exact ⟨_, (true), aq7, H', ⟨by have := HJ5.out; first | omega | exact Nat.le_refl _⟩, ⟨aq102⟩, ⟨aq1⟩⟩
       case rest =>
        clear HC24
        try clear c1
        try clear c2
        try clear p2
        try clear c3
        try clear c3b0
        try clear c3b1
        try clear c10
        try clear c15
        try clear c16
        try clear c17
        try clear c18
        try clear c18b0
        try clear c19
        try clear c22
        try clear c22b0
        try clear c22b1
        try clear c30
        try clear p2
        obtain ⟨kq, x62_23, rfl, HA, HJ23, HO_7, HB⟩ := hcut
        have hl7_23 := (Kd.R_reads' HO_7.out).1
        rw [hl7_23] at HO_7
        (try simp only [hl7_23])
        cases kq with
        | zero => exact absurd HA.out (by simp [laws_FnExactWordsBack.j1])
        | succ kj23 =>
         have H := HA.out
         clear HA
         simp only [laws_FnExactWordsBack.j1] at H
         by_cases c35 : x62_23 = true
         ·subst c35
          rw [if_pos rfl] at H
          obtain rfl := Option.some.inj H
          go_wp2
          go_ret
          exact ⟨aq8, aq1⟩
         ·replace c35 := Bool.eq_false_iff.mpr c35
          subst c35
          rw [if_neg Bool.false_ne_true] at H
          obtain ⟨t118, A360, H⟩ := Option.bind_eq_some_iff.mp H
          have A36 := am A360
          clear A360
          by_cases c37 : t118 < 0
          ·rw [if_pos c37] at H
           have c37b0 := decide_eq_true c37
           clear c37
           obtain rfl := Option.some.inj H
           go_wp2_with (first | ((with_reducible refine gate_callee (f := 19) rfl ?_); refine goesL_ (some 65) rfl rfl Tryz.func19 (by kernel_rfl) rfl #[.slice Ao25 t111.length co25, .int .i64 1] rfl aq5 ?_; (with_reducible refine (laws_heldStringS.calls kj23 _ _ t111 1 t118 _ ?side1 ?side2 A36.out).mono ?_); (case side1 => exact aq25); (case side2 => exact (Kd.R_reads' HO_7.out).2.1); rintro e w38 ⟨rfl, hb⟩; refine ⟨_, rfl, ?_⟩; have n0_ := am (Kd.R_below aq21 hb); have n1_ := am (below_step aq1 hb); clear HO_7; clear HB; have HO_7 := n0_; have HB := n1_; clear n0_ n1_; (try clear hb); (try clear hb2); (try clear hk); (try clear hi)))
           go_ret
           exact ⟨aq8, aq1⟩
          ·rw [if_neg c37] at H
           have c37b0 := decide_eq_false c37
           clear c37
           by_cases c39 : t118 = t110
           ·rw [if_pos c39] at H
            have c39b0 := beq_iff_eq.mpr c39
            have c39b1 := bne_eq_false_iff_eq.mpr c39
            clear c39
            obtain rfl := Option.some.inj H
            go_wp2_with (first | ((with_reducible refine gate_callee (f := 19) rfl ?_); refine goesL_ (some 65) rfl rfl Tryz.func19 (by kernel_rfl) rfl #[.slice Ao25 t111.length co25, .int .i64 1] rfl aq5 ?_; (with_reducible refine (laws_heldStringS.calls kj23 _ _ t111 1 t118 _ ?side1 ?side2 A36.out).mono ?_); (case side1 => exact aq25); (case side2 => exact (Kd.R_reads' HO_7.out).2.1); rintro e w40 ⟨rfl, hb⟩; refine ⟨_, rfl, ?_⟩; have n0_ := am (Kd.R_below aq21 hb); have n1_ := am (below_step aq1 hb); clear HO_7; clear HB; have HO_7 := n0_; have HB := n1_; clear n0_ n1_; (try clear hb); (try clear hb2); (try clear hk); (try clear hi)))
            go_ret
            exact ⟨aq8, aq1⟩
           ·rw [if_neg c39] at H
            have c39b0 := beq_eq_false_iff_ne.mpr c39
            have c39b1 := bne_iff_ne.mpr c39
            obtain rfl := Option.some.inj H
            go_wp2_with (first | ((with_reducible refine gate_callee (f := 19) rfl ?_); refine goesL_ (some 65) rfl rfl Tryz.func19 (by kernel_rfl) rfl #[.slice Ao25 t111.length co25, .int .i64 1] rfl aq5 ?_; (with_reducible refine (laws_heldStringS.calls kj23 _ _ t111 1 t118 _ ?side1 ?side2 A36.out).mono ?_); (case side1 => exact aq25); (case side2 => exact (Kd.R_reads' HO_7.out).2.1); rintro e w41 ⟨rfl, hb⟩; refine ⟨_, rfl, ?_⟩; have n0_ := am (Kd.R_below aq21 hb); have n1_ := am (below_step aq1 hb); clear HO_7; clear HB; have HO_7 := n0_; have HB := n1_; clear n0_ n1_; (try clear hb); (try clear hb2); (try clear hk); (try clear hi)))
            go_ret
            exact ⟨aq8, aq1⟩
      ·rw [if_neg c22] at H
       have c22b0 := beq_eq_false_iff_ne.mpr c22
       have c22b1 := bne_iff_ne.mpr c22
       obtain rfl := Option.some.inj H
       obtain ⟨Ao42, co42, eo42⟩ := Kd.R_slice HO_7.out
       subst eo42
       go_wp2_with (first | ((with_reducible refine gate_callee (f := 18) rfl ?_); refine goesL_ (some 39) rfl rfl Tryz.func18 (by kernel_rfl) rfl #[.slice Ao42 t105.length co42, .int .i64 1] rfl aq5 ?_; (with_reducible refine (laws_markStringS.calls kj5 (fun k_ => some k_ = (.slice Ao42 t105.length co42 : Value).ownBlock) (.slice Ao42 t105.length co42) t105 1 t110 t111 w _ ?side1 ?side2 A16.out).mono ?_); (case side1 => exact aq1); (case side2 => exact Kd.R_tight rfl HO_7.out); rintro e w43 ⟨rfl, hy0, hb, hkp⟩; refine ⟨_, rfl, ?_⟩; have n0_ := am (Kd.R_mono (ok' := fun k_ => some k_ ≠ (.slice Ao42 t105.length co42 : Value).ownBlock) (Kd.R_keptB (HO_5.out) hkp (fun k_ hk_ hs_ => (hk_) hs_)) (fun k_ hk_ => hk_.1)); have n1_ := am (Kd.R_reok rfl hy0 (fun k_ e_ => HO_7.out.1 k_ e_)); have n2_ := am (hb); clear HO_5; clear HO_7; clear HB; have HO_5 := n0_; have HO_7 := n1_; have HB := n2_; clear n0_ n1_ n2_; (try clear hb); (try clear hkp); (try clear hy0)) | ((with_reducible refine gate_callee (f := 19) rfl ?_); refine goesL_ (some 42) rfl rfl Tryz.func19 (by kernel_rfl) rfl #[.slice Ao42 t111.length co42, .int .i64 1] rfl aq46 ?_; (with_reducible refine (laws_heldStringS.calls kj5 _ _ t111 1 t112 _ ?side1 ?side2 A17.out).mono ?_); (case side1 => exact aq25); (case side2 => exact aq81); rintro e w44 ⟨rfl, hb⟩; refine ⟨_, rfl, ?_⟩; have n0_ := am (Kd.R_below aq30 hb); have n1_ := am (Kd.R_below aq21 hb); have n2_ := am (below_step aq1 hb); clear HO_5; clear HO_7; clear HB; have HO_5 := n0_; have HO_7 := n1_; have HB := n2_; clear n0_ n1_ n2_; (try clear hb); (try clear hb2); (try clear hk); (try clear hi)))
       go_ret
       exact ⟨aq8, aq1⟩
end Go.Proofs.YtdffgeoegdkiaaaGreatDoor.F

namespace Go.Proofs.YtdffgeoegdkiaaaGreatDoor.F
open Go.RowKit Go.Proofs.YtdffgeoegdkiaaaGreatDoor Go.Proofs.YtdffgeoegdkiaaaGreatDoorW.PrintWords Go.Proofs.YtdffgeoegdkiaaaGreatDoorW.PrintMore
theorem noRep_iff : ∀ u : List Nat, noRep u = true ↔ ∀ j, (h : j + 1 < u.length) → u[j] ≠ u[j + 1]
  | [] => ⟨fun _ j h => by simp at h, fun _ => rfl⟩
  | [a] => ⟨fun _ j h => by simp at h, fun _ => rfl⟩
  | a :: b :: t => by
    have ih := noRep_iff (b :: t)
    show (a != b && noRep (b :: t)) = true ↔ _
    rw [Bool.and_eq_true, bne_iff_ne, ih]
    constructor
    · rintro ⟨h1, h2⟩ j h
      cases j with
      | zero => exact h1
      | succ j => exact h2 j (by simpa using h)
    · intro h
      exact ⟨h 0 (by simp), fun j hj => h (j + 1) (by simpa using hj)⟩
theorem dirB_inj {a b : Nat} (ha : a < 4) (hb : b < 4) (e : dirB a = dirB b) : a = b := by
  have h1 := (dirB_ok ha).2.1
  have h2 := (dirB_ok hb).2.1
  rw [e] at h1
  omega
theorem keeps_noRep {u : List Nat} (hu : ∀ d ∈ u, d < 4) : (∀ j, j < (u.map dirB).length → Go.Lib.keeps (u.map dirB).toArray j = true) ↔ noRep u = true := by
  rw [noRep_iff]
  constructor
  · intro h j hj e
    rcases of_decide_eq_true (h (j + 1) (by simpa using hj)) with q | q
    · omega
    · apply q
      rw [getElem!_pos _ _ (by simpa using hj), getElem!_pos _ _ (by simp; omega)]
      simp [e]
  · intro h j hj
    rw [List.length_map] at hj
    refine decide_eq_true ?_
    by_cases hj0 : j = 0
    · exact .inl hj0
    · obtain ⟨i, rfl⟩ : ∃ i, j = i + 1 := ⟨j - 1, by omega⟩
      refine .inr fun q => h i hj ?_
      rw [getElem!_pos _ _ (by simpa using hj), getElem!_pos _ _ (by simp; omega)] at q
      have q' : dirB u[i + 1] = dirB u[i] := by simpa using q
      exact (dirB_inj (hu _ (List.getElem_mem _)) (hu _ (List.getElem_mem _)) q').symm
theorem str_toList_len (l : List Int) : (strOfNums l).toList.length = l.length := by
  rw [Lib.toList_data, ← strOfNums_len l, Array.length_toList]; rfl
theorem short_self {u : List Nat} (hu : ∀ d ∈ u, d < 4) : (strOfNums (Go.Lib.compact (bytesOf (txtW u)))).toList = (txtW u).toList ↔ noRep u = true := by
  rw [← keeps_noRep hu, bytes_txtW hu]
  constructor
  · intro h
    have h1 := congrArg List.length h
    rw [str_toList_len] at h1
    unfold txtW at h1
    rw [str_toList_len] at h1
    exact (compact_same _).1 h1
  · intro h
    rw [Go.Lib.compact_all _ h]; rfl
theorem shortW_ev {u : List Nat} (hu : ∀ d ∈ u, d < 4) (hl : u.length ≤ 40) : impl_ShortWord.f (txtW u) = some (strOfNums (Go.Lib.compact (bytesOf (txtW u))), true) := by
  unfold impl_ShortWord.f
  rw [impl_IsWord_eq, word_txtW hu hl, Option.bind_some, if_pos rfl, if_pos (by rw [txtW_size]; omega)]
section
variable {t : ByteArray} {w h : Nat} {cs : List Int} (hg : tyGrid (bytesOf t) = some (w, h, cs))
include hg
def goodW (w h : Nat) (cs : List Int) (x : ByteArray) : Bool := noRep (wordD x) && comesD w h cs (wordD x)
theorem wb_step (u : List Nat) (hu : ∀ d ∈ u, d < 4) (hl : u.length ≤ 6) (o : List ByteArray) (ho : o.length < 10000) : Ev (fun k => wbStep k t o (txtW u)) ((if goodW w h cs (txtW u) = true then o ++ [txtW u] else o), true) := by
  unfold wbStep
  rw [shortW_ev hu (by omega)]
  simp only [Option.bind_some]
  have hc := comes_ev (wd := txtW u) hg (word_txtW hu (by omega))
  rw [wordD_txtW hu] at hc
  unfold goodW
  rw [wordD_txtW hu]
  by_cases hn : noRep u = true
  · refine Ev.congr (fun k => if_pos ((short_self hu).2 hn)) (Ev.bind hc ?_)
    rw [hn, Bool.true_and]
    cases comesD w h cs u with
    | true => exact Ev.congr (fun k => by rw [if_pos rfl, if_pos (by omega), if_pos rfl]) (Ev.now _)
    | false => exact Ev.congr (fun k => by rw [if_neg Bool.false_ne_true, if_neg Bool.false_ne_true]) (Ev.now _)
  · refine Ev.congr (fun k => if_neg (fun q => hn ((short_self hu).1 q))) ?_
    rw [Bool.eq_false_iff.2 hn, Bool.false_and]
    exact Ev.now _
omit hg in
theorem foldl_filter (p : ByteArray → Bool) : ∀ (l o : List ByteArray), l.foldl (fun o x => if p x = true then o ++ [x] else o) o = o ++ l.filter p
  | [], o => by simp
  | x :: l, o => by
    rw [List.foldl_cons, foldl_filter p l, List.filter_cons]
    by_cases hp : p x = true
    · rw [if_pos hp, if_pos hp, List.append_assoc]; rfl
    · rw [if_neg hp, if_neg hp]
def backsW (w h : Nat) (cs : List Int) (n : Nat) : List ByteArray := (((levels n).filter noRep).filter (comesD w h cs)).map txtW
omit hg in
theorem filter_map_txt (n : Nat) : ((levels n).map txtW).filter (goodW w h cs) = backsW w h cs n := by
  unfold backsW
  rw [List.filter_map, List.filter_filter]
  congr 1
  refine List.filter_congr fun u hu => ?_
  obtain ⟨m, _, hu⟩ := List.mem_flatMap.1 hu
  have hd := ((mem_level m u).1 hu).2
  show (noRep (wordD (txtW u)) && comesD w h cs (wordD (txtW u))) = (comesD w h cs u && noRep u)
  rw [wordD_txtW hd, Bool.and_comm]
theorem impl_words_ev (n : Nat) (hn : n ≤ 4) : Ev (fun k => wordsF (wbStep k t) (n + 1) [] [ByteArray.empty]) (backsW w h cs n) := by
  have := words_all (step := fun k => wbStep k t) (g := fun o x => if goodW w h cs x = true then o ++ [x] else o) (P := fun m o => o.length ≤ m) (fun m s u hu hl hm hp => ⟨wb_step hg u hu hl s (by omega), by
    show (if goodW w h cs (txtW u) = true then s ++ [txtW u] else s).length ≤ m + 1
    split
    · rw [List.length_append, List.length_singleton]; omega
    · omega⟩) (n + 1) 0 0 [] (by omega) (by rw [Nat.zero_add]; exact levels_small (by omega)) (Nat.le_refl _)
  rw [level0_map, levels_map, foldl_filter, List.nil_append, filter_map_txt] at this
  exact this
omit hg in
theorem backs_len (n : Nat) (hn : n ≤ 4) : (backsW w h cs n).length ≤ 1000 := by
  unfold backsW
  rw [List.length_map]
  refine Nat.le_trans (List.length_filter_le _ _) (Nat.le_trans (List.length_filter_le _ _) ?_)
  have h1 := levels_len n
  have h2 : 4 ^ (n + 1) ≤ 4 ^ 5 := Nat.pow_le_pow_right (by decide) (by omega)
  have h3 : 4 ^ 5 = 1024 := rfl
  omega
omit hg in
theorem mcBack_ev {wd : ByteArray} (hw : 1 ≤ w ∧ w ≤ 7) (hh : 1 ≤ h ∧ h ≤ 7) (hl : cs.length = w * h) (hs : isWordB (bytesOf wd) = true) : Ev (fun k => spec_mcBack.f k w h cs wd) ((w : Int), (h : Int), runD w h cs (wordD wd), comesD w h cs (wordD wd)) := by
  have h49 : w * h ≤ 49 := Nat.mul_le_mul hw.2 hh.2
  have hB := mcBack_l0 (cs := cs) (ds := runD w h cs (wordD wd)) (by omega) (runD_length _ _ _ _) (w : Int) (h : Int) cs.length 0 (by omega)
  have hf : decide (∀ j, j < cs.length → 0 ≤ j → ballAt cs j = ballAt (runD w h cs (wordD wd)) j) = comesD w h cs (wordD wd) := by
    rw [Bool.eq_iff_iff, decide_eq_true_iff, comes_iff hl (wordD_lt wd), hl]
    exact ⟨fun q j hj => q j hj (Nat.zero_le _), fun q j hj _ => q j hj⟩
  rw [hf] at hB
  exact Ev.bind (tiRun_ev hw hh hs hl) hB
omit hg in
theorem spec_wb_l1 (hw : 1 ≤ w ∧ w ≤ 7) (hh : 1 ≤ h ∧ h ≤ 7) (hl : cs.length = w * h) {n j : Nat} (hj : j ≤ 4) {R : List ByteArray × Bool} : ∀ (d i : Nat) (o : List ByteArray), i + d = (levelS j).length → o.length + d ≤ 100000 →
    Ev (fun k => spec_WordsBack.l0 k (n : Int) (o ++ (((levelS j).drop i).filter (comesD w h cs)).map txtW) (wrap64 ((j : Int) + 1)) w h cs) R →
    Ev (fun k => spec_WordsBack.l1 k (n : Int) o (j : Int) ((levelS j).map txtW) (((levelS j).map txtW).length : Int) (i : Int) w h cs) R
  | 0, i, o, hi, ho, hr => by
    rw [List.drop_eq_nil_of_le (by omega)] at hr
    simp only [List.filter_nil, List.map_nil, List.append_nil] at hr
    exact Ev.step (fun k => by rw [spec_WordsBack.l1, if_neg (by rw [List.length_map]; omega)]) hr
  | d + 1, i, o, hi, ho, hr => by
    have hil : i < (levelS j).length := by omega
    have hlen := (levelS_sub j).1
    have h4 : 4 ^ j ≤ 4 ^ 4 := Nat.pow_le_pow_right (by decide) hj
    have h44 : 4 ^ 4 = 256 := rfl
    have HW : Aside0 (wrap64 ((i : Int) + 1) = ((i + 1 : Nat) : Int)) := ⟨by rw [w64 (by omega) (by omega)]; rfl⟩
    obtain ⟨q1, q2⟩ := (levelS_sub j).2 _ (List.getElem_mem hil)
    have hrd : rdOf ByteArray.empty ((levelS j).map txtW) (i : Int) = txtW (levelS j)[i] := by unfold rdOf; rw [Int.toNat_natCast, List.getD_eq_getElem?_getD, List.getElem?_map, List.getElem?_eq_getElem hil]; rfl
    have hB := mcBack_ev (wd := txtW (levelS j)[i]) hw hh hl (word_txtW q1 (by omega))
    rw [wordD_txtW q1] at hB
    rw [List.drop_eq_getElem_cons hil, List.filter_cons] at hr
    refine Ev.step (f := fun k => (spec_mcBack.f k w h cs (txtW (levelS j)[i])).bind fun bt113 => if bt113.2.2.2 = true then (if o.length < 8796093022208 then spec_WordsBack.l1 k (n : Int) (o ++ [txtW (levelS j)[i]]) (j : Int) ((levelS j).map txtW) (((levelS j).map txtW).length : Int) ((i + 1 : Nat) : Int) w h cs else none) else spec_WordsBack.l1 k (n : Int) o (j : Int) ((levelS j).map txtW) (((levelS j).map txtW).length : Int) ((i + 1 : Nat) : Int) w h cs) (fun k => ?_) (Ev.bind hB ?_)
    · rw [spec_WordsBack.l1, if_pos (by rw [List.length_map]; omega), if_pos (by omega), if_pos (by rw [List.length_map]; omega), hrd, HW.out]
    · cases hc : comesD w h cs (levelS j)[i] with
      | true =>
        rw [if_pos hc, List.map_cons, show o ++ txtW (levelS j)[i] :: ((((levelS j).drop (i + 1)).filter (comesD w h cs)).map txtW) = (o ++ [txtW (levelS j)[i]]) ++ (((levelS j).drop (i + 1)).filter (comesD w h cs)).map txtW by simp] at hr
        exact Ev.congr (fun k => by rw [if_pos rfl, if_pos (by omega)]) (spec_wb_l1 hw hh hl hj d (i + 1) (o ++ [txtW (levelS j)[i]]) (by omega) (by rw [List.length_append, List.length_singleton]; omega) hr)
      | false =>
        rw [if_neg (by rw [hc]; exact Bool.false_ne_true)] at hr
        exact Ev.congr (fun k => if_neg Bool.false_ne_true) (spec_wb_l1 hw hh hl hj d (i + 1) o (by omega) (by omega) hr)
omit hg in
theorem spec_wb_l0 (hw : 1 ≤ w ∧ w ≤ 7) (hh : 1 ≤ h ∧ h ≤ 7) (hl : cs.length = w * h) {n : Nat} (hn : n ≤ 4) : ∀ (d j : Nat), j + d = n + 1 → 
    Ev (fun k => spec_WordsBack.l0 k (n : Int) ((((List.range j).flatMap levelS).filter (comesD w h cs)).map txtW) (j : Int) w h cs) ((((levelsS n)).filter (comesD w h cs)).map txtW, true)
  | 0, j, hj => by
    obtain rfl : j = n + 1 := by omega
    exact Ev.step (f := fun _ => some ((((levelsS n)).filter (comesD w h cs)).map txtW, true)) (fun k => by rw [spec_WordsBack.l0, if_neg (by omega)]; rfl) (Ev.now _)
  | d + 1, j, hj => by
    have HW : Aside0 (wrap64 ((j : Int) + 1) = ((j + 1 : Nat) : Int)) := ⟨by rw [w64 (by omega) (by omega)]; rfl⟩
    have ih := spec_wb_l0 hw hh hl hn d (j + 1) (by omega)
    rw [List.range_succ, List.flatMap_append, List.flatMap_cons, List.flatMap_nil, List.append_nil, List.filter_append, List.map_append] at ih
    have hlen : ∀ m, m ≤ 5 → ((List.range m).flatMap levelS).length ≤ 300 * m := fun m hm => by
      induction m with
      | zero => simp
      | succ m ihm =>
        rw [List.range_succ, List.flatMap_append, List.length_append, List.flatMap_cons, List.flatMap_nil, List.append_nil]
        have h1 := ihm (by omega)
        have h2 := (levelS_sub m).1
        have h4 : 4 ^ m ≤ 4 ^ 4 := Nat.pow_le_pow_right (by decide) (by omega)
        have h44 : 4 ^ 4 = 256 := rfl
        omega
    have hj5 := hlen j (by omega)
    have hf := List.length_filter_le (comesD w h cs) ((List.range j).flatMap levelS)
    have hs := (levelS_sub j).1
    have h4 : 4 ^ j ≤ 4 ^ 4 := Nat.pow_le_pow_right (by decide) (by omega)
    have h44 : 4 ^ 4 = 256 := rfl
    have hl1 := spec_wb_l1 (n := n) (j := j) hw hh hl (by omega) (levelS j).length 0 ((((List.range j).flatMap levelS).filter (comesD w h cs)).map txtW) (by omega) (by rw [List.length_map]; omega) (by rw [HW.out, List.drop_zero]; exact ih)
    refine Ev.step (f := fun k => (spec_mcWords.f k (j : Int)).bind fun t109 => spec_WordsBack.l1 k (n : Int) ((((List.range j).flatMap levelS).filter (comesD w h cs)).map txtW) (j : Int) t109 (t109.length : Int) 0 w h cs) (fun k => ?_) (Ev.bind (mcWords_ev (n := j) (by omega)) hl1)
    rw [spec_WordsBack.l0, if_pos (by omega)]
end
def wbA (t : ByteArray) (n : Int) : List ByteArray × Bool := match tyGrid (bytesOf t) with | none => ([], false) | some g => if 0 ≤ n ∧ n ≤ 4 then (backsW g.1 g.2.1 g.2.2 n.toNat, true) else ([], false)
theorem impl_wb_ev (t : ByteArray) (ht : t.size < 4294967281) (n : Int) : Ev (fun k => impl_WordsBack.f k t n) (wbA t n) := by
  have hT := impl_IsTray_ev t ht
  unfold impl_WordsBack.f wbA
  refine Ev.bind hT ?_
  cases hg : tyGrid (bytesOf t) with
  | none => exact Ev.congr (fun k => if_neg (by simp)) (Ev.now _)
  | some g =>
    obtain ⟨w, h, cs⟩ := g
    by_cases hn : 0 ≤ n ∧ n ≤ 4
    · have := impl_words_ev hg n.toNat (by omega)
      simp only [if_pos hn]
      refine Ev.congr (fun k => if_pos ⟨rfl, hn⟩) (Ev.bind this (Ev.now _))
    · simp only [if_neg hn]
      exact Ev.congr (fun k => if_neg (fun q => hn q.2)) (Ev.now _)
theorem spec_wb_ev (t : ByteArray) (n : Int) : Ev (fun k => spec_WordsBack.f k t n) (wbA t n) := by
  have hT := spec_tyRead_ev t
  have hno : ∀ A B C, Ev (fun k => spec_WordsBack.j0 k n true A B C) (([] : List ByteArray), false) := fun A B C => Ev.step (f := fun _ => some (([] : List ByteArray), false)) (fun k => by rw [spec_WordsBack.j0, if_pos rfl]) (Ev.now _)
  unfold wbA spec_WordsBack.f
  cases hg : tyGrid (bytesOf t) with
  | none =>
    rw [hg] at hT
    exact Ev.bind hT (Ev.congr (fun k => if_neg (by simp [ansT])) (hno _ _ _))
  | some g =>
    rw [hg] at hT
    obtain ⟨w, h, cs⟩ := g
    obtain ⟨hw, hh, hl, _⟩ := tyGrid_some hg
    refine Ev.bind hT (Ev.congr (fun k => if_pos rfl) ?_)
    by_cases hn : 0 ≤ n ∧ n ≤ 4
    · obtain ⟨m, rfl⟩ : ∃ m : Nat, n = m := ⟨n.toNat, by omega⟩
      have h0 := spec_wb_l0 (cs := cs) hw hh hl (n := m) (by omega) (m + 1) 0 (by omega)
      simp only [if_pos hn, Int.toNat_natCast]
      rw [show backsW w h cs m = ((levelsS m).filter (comesD w h cs)).map txtW from by unfold backsW; rw [levelsS_eq]]
      have h1 : spec_l1In.f (m : Int) 0 4 = some true := by unfold spec_l1In.f; rw [if_pos (by omega), decide_eq_true (by omega)]
      rw [h1]
      simp only [Option.bind_some]
      exact Ev.step (fun k => by rw [spec_WordsBack.j0, if_neg (by decide)]; rfl) h0
    · simp only [if_neg hn]
      have h1 : spec_l1In.f n 0 4 = some false := by
        unfold spec_l1In.f
        by_cases h0 : n ≥ 0
        · rw [if_pos h0, decide_eq_false (by omega)]
        · rw [if_neg h0]
      rw [h1]
      simp only [Option.bind_some]
      exact hno _ _ _
theorem wbA_len (t : ByteArray) (n : Int) : (wbA t n).1.length ≤ 1000 := by
  unfold wbA
  cases tyGrid (bytesOf t) with
  | none => simp
  | some g =>
    simp only
    split
    · exact backs_len _ (by omega)
    · simp
theorem FnExactWordsBack (a : ByteArray) (n : Int) (ha : a.size ≤ 9223372036854775807) (hn : (Lit.int .i64 n).wf = true) : ∃ k, laws_FnExactWordsBack.f k a n = some true := by
  refine Ev.rounds (g := fun k => laws_FnExactWordsBack.f k a n) ?_
  unfold laws_FnExactWordsBack.f
  by_cases h0 : (a.size : Int) > 1048576
  · exact Ev.congr (fun k => if_pos h0) (Ev.now _)
  refine Ev.congr (fun k => if_neg h0) ?_
  have hI := impl_wb_ev a (by omega) n
  have hS := spec_wb_ev a n
  have hlen := wbA_len a n
  generalize wbA a n = R at hI hS hlen
  have hE := eqS_ev R.1 (by omega)
  have hM := markS_ev R.1 (by omega)
  have hH := heldS_ev R.1.length (by omega)
  have hend : Ev (fun k => laws_FnExactWordsBack.j1 k (marksT 1 R.1.length) ((1 + R.1.length : Nat) : Int) false) true := by
    refine Ev.step (fun k => by rw [laws_FnExactWordsBack.j1, if_neg Bool.false_ne_true]) (Ev.bind hH ?_)
    exact Ev.congr (fun k => by rw [if_neg (by omega), if_pos rfl]) (Ev.now _)
  have hmid : Ev (fun k => laws_FnExactWordsBack.j0 k a n R.1 R.2 R.1 false) true := by
    refine Ev.step (fun k => by rw [laws_FnExactWordsBack.j0, if_neg Bool.false_ne_true]) (Ev.bind hM (Ev.bind hH ?_))
    refine Ev.congr (fun k => by rw [if_neg (by omega), if_pos rfl]) (Ev.bind hI (Ev.bind hE ?_))
    refine Ev.congr (fun k => if_pos rfl) ?_
    rw [bne_self_eq_false]
    exact hend
  refine Ev.bind hS (Ev.bind hI (Ev.bind hE ?_))
  refine Ev.congr (fun k => if_pos rfl) ?_
  rw [bne_self_eq_false]
  exact hmid
end Go.Proofs.YtdffgeoegdkiaaaGreatDoor.F
