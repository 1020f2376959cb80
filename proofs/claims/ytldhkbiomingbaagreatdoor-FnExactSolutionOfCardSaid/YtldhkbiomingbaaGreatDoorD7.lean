/- The proof that the law's row holds, part 7: the kit's words, the printed walks and the plain law. No conditions beyond the card's own. -/
import Derived.Deep.RegionHeld3
import Derived.Test.YtldhkbiomingbaaGreatDoorD0
import Derived.Test.YtldhkbiomingbaaGreatDoorD1
import Derived.Test.YtldhkbiomingbaaGreatDoorD2
import Derived.Test.YtldhkbiomingbaaGreatDoorD3
import Derived.Test.YtldhkbiomingbaaGreatDoorD4
import Derived.Test.YtldhkbiomingbaaGreatDoorD5
import Derived.Test.YtldhkbiomingbaaGreatDoorD6
set_option linter.unusedVariables false
set_option linter.unusedSimpArgs false
set_option maxHeartbeats 8000000
set_option maxRecDepth 100000
namespace Go.Proofs.YtldhkbiomingbaaGreatDoor.F
open Go.Proofs.YtldhkbiomingbaaGreatDoor
open Go.RowKit Go.YW.PrintWords Go.YW.PrintLast Go.YW.PrintMore
attribute [local go_sem] max2_int min2_int max_two min_two max_three min_three max_four min_four
def impl_reach_cells.l0:Nat → ByteArray → List Int → List ByteArray → Int → Int → Option (List Int)
 | 0,_,_,_,_,_=>none
 | k + 1,x1,x5,x10,x11,x12=>if x12 < x11 then (if 0 ≤ x12 then (if x12 < (x10.length:Int) then ((impl_read.f (rdOf ByteArray.empty x10 x12)).bind fun bt106=>(if 0 < (x1.size:Int) then ((slices_Index_byte_byte.f k bt106.2.2 (bt x1 0)).bind fun t111=>(if x5.length < 17592186044416 then (impl_reach_cells.l0 k x1 (x5 ++ [t111]) x10 x11 (wrap64 (x12 + 1))) else (none))) else (none))) else (none)) else (none)) else (some x5)
def impl_reach_cells.f (k:Nat) (l0_0:List ByteArray) (l0_1:List Int) (l0_2:List (List Int)) (l0_3:List ByteArray) (a1:ByteArray):Option (List Int):=impl_reach_cells.l0 k a1 (([]:List Int)) l0_0 (l0_0.length:Int) 0
theorem impl_reach_cells.mono_l:∀ k,(∀ y0 y1 y2 y3 y4,LeO (impl_reach_cells.l0 k y0 y1 y2 y3 y4) (impl_reach_cells.l0 (k + 1) y0 y1 y2 y3 y4))
 | 0=>fun _ _ _ _ _ r h=>by simp [impl_reach_cells.l0] at h
 | k + 1=>by
  have ih0:=impl_reach_cells.mono_l k
  ·intro y0 y1 y2 y3 y4
   unfold impl_reach_cells.l0
   have im0:=@slices_Index_byte_byte.mono;exact mo
def impl_reach_cells.T5:Bool × List (List Nat × List Nat):=(true,[([],[]),([],[]),([1],[1]),([2],[2]),([],[]),([4],[4]),([3,5,2],[3,5]),([6],[6]),([0,7,6],[0,7]),([8,8,0,1,2,3,4,5,6,7,8],[0,8])])
def impl_reach_cells.B5:List Nat:=[0,0,2,6,0,16,62,126,255,511]
theorem impl_reach_cells.tab5:rtab .any (opsOf Tryz.f50 5) = impl_reach_cells.T5:=by kernel_rfl
theorem impl_reach_cells.bits5:waitsOk impl_reach_cells.T5.2 impl_reach_cells.B5 = true:=by kernel_rfl
theorem impl_reach_cells.calls (k:Nat) (A0_0:Option Addr) (c0_0:Nat) (l0_0:List ByteArray) (A0_1:Option Addr) (c0_1:Nat) (l0_1:List Int) (A0_2:Option Addr) (c0_2:Nat) (l0_2:List (List Int)) (A0_3:Option Addr) (c0_3:Nat) (l0_3:List ByteArray) (a1:ByteArray) (r:List Int) (w:World) (hr0_0:Kd.C Kd.string w A0_0 l0_0.length l0_0) (hc0_0:l0_0.length ≤ c0_0) (hr0_1:Kd.C (Kd.int .i64) w A0_1 l0_1.length l0_1) (hc0_1:l0_1.length ≤ c0_1) (hr0_2:Kd.C (Kd.slice 3 (Kd.int .i64)) w A0_2 l0_2.length l0_2) (hc0_2:l0_2.length ≤ c0_2) (hr0_3:Kd.C Kd.string w A0_3 l0_3.length l0_3) (hc0_3:l0_3.length ≤ c0_3) (h:impl_reach_cells.f k l0_0 l0_1 l0_2 l0_3 a1 = some r) :
  Calls Tryz.prog 50 #[.agg #[.slice A0_0 l0_0.length c0_0,.slice A0_1 l0_1.length c0_1,.slice A0_2 l0_2.length c0_2,.slice A0_3 l0_3.length c0_3],.string a1] w fun e w'=>∃ v0_:Value,e = .returned (v0_) ∧ Kd.R (Kd.int .i64) 3 w' w.heap.size (fun _=>True) v0_ r ∧ Below w.heap.size w w':=by
 have hu59:=Tryz.underlying59
 have hfd65_2:∀ (x0_ x1_ x2_:Value) (W:World),(Instr.field 65 (.agg #[x0_,x1_,x2_]) 2).run Tryz.prog W = .ok x2_ W:=fun _ _ _  _=>by kernel_rfl
 have HR0_0:=am hr0_0
 have HC0_0:=am hc0_0
 clear hr0_0 hc0_0
 have HR0_1:=am hr0_1
 have HC0_1:=am hc0_1
 clear hr0_1 hc0_1
 have HR0_2:=am hr0_2
 have HC0_2:=am hc0_2
 clear hr0_2 hc0_2
 have HR0_3:=am hr0_3
 have HC0_3:=am hc0_3
 clear hr0_3 hc0_3
 have HB:=am (Below.refl w.heap.size w)
 have H:(impl_reach_cells.l0 k a1 (([]:List Int)) l0_0 (l0_0.length:Int) 0) = some r:=h
 clear h
 obtain ⟨y102,hy_⟩:∃ y_:List Int,y_ = (([]:List Int)):=⟨_,rfl⟩
 replace H:(impl_reach_cells.l0 k a1 y102 l0_0 (l0_0.length:Int) 0) = some r:=aq5
 have Ny102:=am hy_
 clear hy_
 have H':=am H
 clear H
 go_enter Tryz.func50,Tryz.ntmps50
 go_wp2_with (first | (refine bx 2 #[.slice A0_0 l0_0.length c0_0,.slice A0_1 l0_1.length c0_1,.slice A0_2 l0_2.length c0_2,.slice A0_3 l0_3.length c0_3] 59 ?_;intro gb101 hg w3 hbox hb;have BK101:=am (hbox);have GW101:=am ((by rw [hg];exact (below_size aq2):w.heap.size ≤ gb101));have GE101:=GW101;replace HB:=am (below_step aq2 hb);clear hb hbox hg) | ((with_reducible refine gate_dst (N:=8) rfl ?_);refine Kd.R_lit (Kd.int .i64) _ 3 ?hg (N:=8) ?hd (xs:=([]:List Int)) (inner:=[]) (ok:=fun _=>True) (okp:=fun _=>True) ?hr ?hp (fun _ hk=>hk) trivial (Below.refl _ _) (Nat.le_refl _) (by simp) ?_;(case hd=>rfl);(case hg=>rfl);(case hr=>exact aq12);(case hp=>exact (Reps.none _ _));intro v103 w4 ho5 hb hg_ hnew_;clear hg_ hnew_;(first | rw [← Ny102.out] at ho5 | (simp only [Int.reduceToNat] at ho5;rw [← Ny102.out] at ho5));have HO104:=am (Kd.R_lower ho5 (below_size aq0));replace BK101:=am (bb BK101 hb);replace HB:=am (below_step aq0 hb);clear hb ho5;obtain ⟨hcz6_0,hcz6_1,hcz6_2,hcz6_3,hfz6_0,hfz6_1,hfz6_2,hfz6_3⟩:=blk4_ BK101.out))
 go_loopg [5,12] k (fun kq v5 v12 w'=>∃ (x5_1:List Int) (x12_1:Int),v12 = .int .i64 x12_1 ∧ Aside0 (impl_reach_cells.l0 kq a1 x5_1 l0_0 (l0_0.length:Int) x12_1 = some r) ∧ Aside0 (kq ≤ k) ∧ Aside0 (Kd.R (Kd.int .i64) 3 w' w.heap.size (fun _=>True) v5 x5_1) ∧ Aside0 (w'.heap[gb101]? = some (.cells #[(.slice A0_0 l0_0.length c0_0),(.slice A0_1 l0_1.length c0_1),(.slice A0_2 l0_2.length c0_2),(.slice A0_3 l0_3.length c0_3)] 59 (0,0))) ∧ Aside0 (Below w.heap.size w w'))
 case atStart=>exact ⟨(y102),(0),aq8,H',⟨Nat.le_refl _⟩,⟨aq38⟩,⟨aq1⟩,⟨aq0⟩⟩
 case round =>
  clear H'
  try clear p2
  try clear c5
  try clear hcz6_0
  try clear hcz6_1
  try clear hcz6_2
  try clear hcz6_3
  try clear hfz6_0
  try clear hfz6_1
  try clear hfz6_2
  try clear hfz6_3
  obtain ⟨x5_1,x12_1,rfl,HA,HK1,HO_5,BK101,HB⟩:=hrel
  cases gk with
  | zero=>exact absurd HA.out (by simp [impl_reach_cells.l0])
  | succ k1 =>
   have H:=HA.out
   clear HA
   simp only [impl_reach_cells.l0] at H
   by_cases c7:x12_1 < (l0_0.length:Int)
   rotate_left
   ·rw [if_neg c7] at H
    have c7b0:=decide_eq_false c7
    clear c7
    obtain rfl:=Option.some.inj H
    go_wp2
    go_ret
    exact ⟨_,aq7,aq50,aq0⟩
   rw [if_pos c7] at H
   have c7b0:=decide_eq_true c7
   clear c7
   replace H:=gd H
   obtain ⟨c8,H⟩:=H
   have c8b0:=decide_eq_true c8
   clear c8
   replace H:=gd H
   obtain ⟨c9,H⟩:=H
   have c9b0:=decide_eq_true c9
   clear c9
   replace H:=Option.bind_eq_some_iff.mp H
   obtain ⟨⟨t106,t107,t108⟩,A100,H⟩:=H
   replace H:(if 0 < (a1.size:Int) then ((slices_Index_byte_byte.f k1 t108 (bt a1 0)).bind fun t111=>(if x5_1.length < 17592186044416 then (impl_reach_cells.l0 k1 a1 (x5_1 ++ [t111]) l0_0 (l0_0.length:Int) (wrap64 (x12_1 + 1))) else (none))) else (none)) = some r:=H
   have A10:=am A100
   clear A100
   replace H:=gd H
   obtain ⟨c11,H⟩:=H
   have c11b0:=decide_eq_true c11
   have c11b1:decide (0 < a1.size) = true:=decide_eq_true o_m
   clear c11
   obtain ⟨t111,A13,H⟩:=bn H
   replace H:=gd H
   obtain ⟨c14,H⟩:=H
   have LMc14:=am c14
   clear c14
   obtain ⟨y112,hy_⟩:∃ y_:List Int,y_ = (x5_1 ++ [t111]):=⟨_,rfl⟩
   replace H:(impl_reach_cells.l0 k1 a1 y112 l0_0 (l0_0.length:Int) (wrap64 (x12_1 + 1))) = some r:=aq5
   have Ny112:=am hy_
   clear hy_
   have H':=am H
   clear H
   have p105:0 ≤ (x12_1:Int):=of_decide_eq_true aq6
   have q105:x12_1 < (l0_0.length:Int):=of_decide_eq_true aq6
   obtain ⟨ad105,e105,hx105_0⟩:=Kd.at_string HR0_0.out x12_1 p105 q105
   cases e105
   try replace hx105_0:=(HB.out.cell (World.block_lt_of_cell? w _ hx105_0)).trans hx105_0
   replace p105:=eq_true p105
   replace q105:=eq_true q105
   try go_wp2
   replace HO_5:=am (Kd.R_drew HO_5.out)
   replace BK101:=am (blk_drew BK101.out)
   replace HB:=am (below_drew1 HB.out)
   have p12:0 ≤ (0:Int):=o_m
   have q12:0 < a1.size:=(by have:(0:Int) < (a1.size:Int):=of_decide_eq_true aq6;omega)
   have hx12:∀ h:0 < a1.size,((a1[0]'h).toNat:Int) = bt a1 0:=bt_at a1 0
   clear p12
   have qi12:(0 < (a1.size:Int)) = True:=eq_true (of_decide_eq_true aq6)
   replace q12:=eq_true q12
   refine start_ (n:=10) (S:=fun w'=>True) (ds:=[]) (bm 10 0) k_r rfl rfl trivial (fun hHeld=>?_);refine with_tabW impl_reach_cells.tab5 impl_reach_cells.bits5 (fun HT_ HW_=>?_)
   generalize wr.drew = w15 at HO_5 BK101 HB hHeld ⊢
   refine py (i:=0) (N:=some 16) (bm 10 1) ?_
   refine py (i:=1) (N:=some 17) (bm 10 3) ?_
   refine py (i:=4) (N:=some 20) (bm 10 19) ?_
   refine tk1 (i:=5) (N:=some 21) (bm 10 51) hHeld ?_
   refine one_ (i:=2) (N:=some 18) (bm 10 55) rfl rfl (one_of HT_.out k_r) d_c (fun K hK=>?_)
   refine goes_ Tryz.func51 k_r rfl #[.string (rdOf ByteArray.empty l0_0 x12_1)] (by rfl) rfl rfl aq4 ?_
   with_reducible refine (impl_read.calls (rdOf ByteArray.empty l0_0 x12_1) t106 t107 t108 _ A10.out).mono ?_
   rintro e w16 ⟨v109,rfl,ho0,hb⟩
   refine ⟨_,rfl,?_⟩
   have HO110:=am (Kd.V_lower (Kd.V_mono (ok':=fun k_=>some k_ ≠ (u5:Value).ownBlock ∧ k_ ≠ gb101) ho0 (fun k_ hk_=>⟨(Kd.fresh' (Kd.R_lt aq50) k_ hk_),(Kd.freshB (g:=gb101) (o:=.cells #[.slice (some ad105) l0_0.length c0_0,.slice A0_1 l0_1.length c0_1,.slice A0_2 l0_2.length c0_2,.slice A0_3 l0_3.length c0_3] 59 (0,0)) aq1 k_ hk_)⟩)) (below_size aq0))
   replace HO_5:=am (Kd.R_below aq50 hb)
   replace BK101:=am (bb BK101 hb)
   replace HB:=am (below_step aq0 hb)
   (try clear hb)
   (try clear ho0)
   obtain ⟨Ao17,co17,eo17⟩:=Kd.V_slice HO110.out
   (first | subst eo17 | (injection eo17 with f1_ f2_ f3_;have f4_:=f1_.symm;have f5_:=f3_.symm;clear f1_ f2_ f3_;subst f4_;subst f5_))
   refine hK.out _ _ trivial (fun hHeld=>?_)
   clear hK K
   refine nm (some 18) ?_
   refine py (i:=3) (N:=some 19) (bm 10 63) ?_
   refine one_ (i:=6) (N:=some 22) (bm 10 127) rfl rfl (one_of HT_.out k_r) d_c (fun K hK=>?_)
   refine goes_ Tryz.func89 k_r rfl #[.slice Ao17 t108.length co17,.int .u8 (bt a1 0)] (by rfl) rfl rfl aq4 ?_
   with_reducible refine (slices_Index_byte_byte.calls k1 _ _ t108 (bt a1 0) t111 _ ?side1 ?side2 A13.out).mono ?_
   (case side1=>repeat (first | exact (Kd.V_reads' HO110.out).2.2 | (with_reducible refine Kd.C_alloc ?_ _) | (with_reducible refine Kd.C_drewN ?_ _) | (with_reducible refine Kd.C_drew ?_)))
   (case side2=>exact (Kd.V_reads' HO110.out).2.1)
   rintro e w' ⟨rfl,⟨nd,rfl⟩⟩
   refine ⟨_,rfl,?_⟩
   refine hK.out _ _ trivial (fun hHeld=>?_)
   clear hK K
   refine nm (some 22) ?_
   refine one_ (i:=7) (N:=some 23) (bm 10 255) rfl rfl (one_of HT_.out k_r) d_c (fun K hK=>?_)
   refine value_ (w1:=?_) (v:=?_) (by rfl) rfl ?_ ?_
   rotate_left 2
   ·go_simp
    constructor
    ·rfl
    ·rfl
   refine hK.out _ _ trivial (fun hHeld=>?_)
   clear hK K
   refine nm (some 23) ?_
   refine one_ (i:=8) (N:=some 24) (bm 10 511) rfl rfl (one_of HT_.out k_r) d_c (fun K hK=>?_)
   refine Kd.R_append_step (Kd.int .i64) (w0:=w) w.heap.size (by rfl) (.tmp 16) (.tmp 23) 40 3 (.int .i64 0) 8 rfl Tryz.underlying40 info3 rfl d_c o_m u5 x5_1 t111 [.int .i64 t111] (fun _=>True) (fun _=>False) rfl rfl ?aP (fun _ hk=>hk.elim) ?aF ?aO ?aB ?aS ?aL ?_
   (case aP=>exact rfl)
   (case aB=>exact aq0)
   (case aF=>exact aq61)
   (case aO=>exact aq50)
   (case aS=>exact aq56)
   (case aL=>have:=LMc14.out;omega)
   intro v113 w18 ho hb hg hat
   rw [← Ny112.out] at ho
   replace BK101:=am (bg BK101 hg (Kd.R_ne HO_5.out BK101.out d_c))
   replace HO110:=am (Kd.V_afterv (ok:=(fun k_=>k_ ≠ gb101)) (by (with_reducible repeat (first | apply Kd.V_alloc | apply Kd.V_drewN | apply Kd.V_drew));exact Kd.V_mono HO110.out (fun _ hk=>⟨hk.2,hk.1⟩)) hg hat)
   replace HB:=am (hb)
   have HO114:=am (ho)
   clear HO_5 ho hb hg hat
   refine hK.out _ _ trivial (fun hHeld=>?_)
   clear hK K
   refine nm (some 24) ?_
   refine py (i:=9) (N:=some 5) (bm 10 1023) ?_
   refine done_ (done_of HT_.out k_r) ?_
   try go_wp2
   go_roundg k1
   case measure=>have:=HK1.out;omega
   case rel=>exact ⟨(y112),(wrap64 (x12_1 + 1)),aq8,H',⟨aq65⟩,⟨by (with_reducible repeat (first | apply Kd.R_alloc | apply Kd.R_drewN | apply Kd.R_drew));exact HO114.out⟩,⟨aq1⟩,⟨aq0⟩⟩
def slices_Index_int_int.l0:Nat → List Int → Int → Int → Int → Option (Int)
 | 0,_,_,_,_=>none
 | k + 1,x0,x1,x7,x8=>if x8 < x7 then (if 0 ≤ x8 then (if x8 < (x0.length:Int) then (if x1 = (rd x0 x8) then (some x8) else (slices_Index_int_int.l0 k x0 x1 x7 (wrap64 (x8 + 1)))) else (none)) else (none)) else (some (-1))
def slices_Index_int_int.f (k:Nat) (l0:List Int) (a1:Int):Option (Int):=slices_Index_int_int.l0 k l0 a1 (l0.length:Int) 0
theorem slices_Index_int_int.mono_l:∀ k,(∀ y0 y1 y2 y3,LeO (slices_Index_int_int.l0 k y0 y1 y2 y3) (slices_Index_int_int.l0 (k + 1) y0 y1 y2 y3))
 | 0=>fun _ _ _ _ r h=>by simp [slices_Index_int_int.l0] at h
 | k + 1=>by
  have ih0:=slices_Index_int_int.mono_l k
  ·intro y0 y1 y2 y3
   unfold slices_Index_int_int.l0
   exact mo
theorem slices_Index_int_int.calls (k:Nat) (A0:Option Addr) (c0:Nat) (l0:List Int) (a1:Int) (r:Int) (w:World) (hr0:Kd.C (Kd.int .i64) w A0 l0.length l0) (hc0:l0.length ≤ c0) (h:slices_Index_int_int.f k l0 a1 = some r) :
  Calls Tryz.prog 52 #[.slice A0 l0.length c0,.int .i64 a1] w fun e w'=>e = .returned (.int .i64 r) ∧ Drawn0 w w':=by
 have HR0:=am hr0
 have HC0:=am hc0
 clear hr0 hc0
 have H:(slices_Index_int_int.l0 k l0 a1 (l0.length:Int) 0) = some r:=h
 clear h
 have H':=am H
 clear H
 go_enter Tryz.func52,Tryz.ntmps52
 go_wp2
 go_loopg [8] k (fun kq v8 w'=>∃ (x8_1:Int),v8 = .int .i64 x8_1 ∧ Aside0 (slices_Index_int_int.l0 kq l0 a1 (l0.length:Int) x8_1 = some r) ∧ Aside0 (kq ≤ k) ∧ Drawn0 w w')
 case atStart=>exact ⟨(0),aq8,H',⟨Nat.le_refl _⟩,aq17⟩
 case round =>
  clear H'
  try clear p2
  obtain ⟨x8_1,rfl,HA,HK1,⟨m1,rfl⟩⟩:=hrel
  cases gk with
  | zero=>exact absurd HA.out (by simp [slices_Index_int_int.l0])
  | succ k1 =>
   have H:=HA.out
   clear HA
   simp only [slices_Index_int_int.l0] at H
   by_cases c3:x8_1 < (l0.length:Int)
   rotate_left
   ·rw [if_neg c3] at H
    have c3b0:=decide_eq_false c3
    clear c3
    obtain rfl:=Option.some.inj H
    go_wp2
    go_ret
    exact ⟨aq8,aq17⟩
   rw [if_pos c3] at H
   have c3b0:=decide_eq_true c3
   clear c3
   replace H:=gd H
   obtain ⟨c4,H⟩:=H
   have c4b0:=decide_eq_true c4
   clear c4
   replace H:=gd H
   obtain ⟨c5,H⟩:=H
   have c5b0:=decide_eq_true c5
   clear c5
   by_cases c6:a1 = (rd l0 x8_1)
   ·rw [if_pos c6] at H
    have c6b0:=beq_iff_eq.mpr c6
    have c6b1:=bne_eq_false_iff_eq.mpr c6
    clear c6
    obtain rfl:=Option.some.inj H
    have p101:0 ≤ (x8_1:Int):=of_decide_eq_true aq6
    have q101:x8_1 < (l0.length:Int):=of_decide_eq_true aq6
    obtain ⟨ad101,e101,hx101_0⟩:=Kd.at_int HR0.out x8_1 p101 q101
    cases e101
    replace p101:=eq_true p101
    replace q101:=eq_true q101
    go_wp2
    go_ret
    exact ⟨aq8,aq17⟩
   rw [if_neg c6] at H
   have c6b0:=beq_eq_false_iff_ne.mpr c6
   have c6b1:=bne_iff_ne.mpr c6
   have H':=am H
   clear H
   have p101:0 ≤ (x8_1:Int):=of_decide_eq_true aq6
   have q101:x8_1 < (l0.length:Int):=of_decide_eq_true aq6
   obtain ⟨ad101,e101,hx101_0⟩:=Kd.at_int HR0.out x8_1 p101 q101
   cases e101
   replace p101:=eq_true p101
   replace q101:=eq_true q101
   go_wp2
   go_roundg k1
   case measure=>have:=HK1.out;omega
   case rel=>exact ⟨(wrap64 (x8_1 + 1)),aq8,H',⟨aq65⟩,aq17⟩
def impl_solution.f (k:Nat) (a0_0:ByteArray) (a0_1:ByteArray) (a0_2:Int):Option (List ByteArray × List Int × (List (List Int)) × List ByteArray × Int × Bool):=(impl_IsPuzzle.f k a0_0 a0_1 a0_2).bind fun t103=>(if t103 = true then ((impl_reachOf.f a0_0).bind fun bt104=>(if bt104.2.2.2.2 = true then ((impl_reach_cells.f k bt104.1 bt104.2.1 bt104.2.2.1 bt104.2.2.2.1 a0_1).bind fun t118=>((slices_Index_int_int.f k t118 a0_2).bind fun t121=>(if t121 ≥ 0 then (if 0 ≤ t121 then (if t121 < (bt104.2.1.length:Int) then (some (bt104.1,bt104.2.1,bt104.2.2.1,bt104.2.2.2.1,t121,decide ((rd bt104.2.1 t121) ≤ 40))) else (none)) else (none)) else (some (bt104.1,bt104.2.1,bt104.2.2.1,bt104.2.2.2.1,t121,false))))) else (some (([]:List ByteArray),([]:List Int),([]:List (List Int)),([]:List ByteArray),0,false)))) else (some (([]:List ByteArray),([]:List Int),([]:List (List Int)),([]:List ByteArray),0,false)))
def impl_solution.T6:Bool × List (List Nat × List Nat):=(true,[([],[]),([],[]),([1],[1]),([0,2],[0,2]),([],[]),([4],[4]),([3,5,3],[3,5]),([6,6,0,1,2,3,4,5,6],[6])])
def impl_solution.B6:List Nat:=[0,0,2,7,0,16,63,127]
theorem impl_solution.tab6:rtab .any (opsOf Tryz.f55 6) = impl_solution.T6:=by kernel_rfl
theorem impl_solution.bits6:waitsOk impl_solution.T6.2 impl_solution.B6 = true:=by kernel_rfl
def impl_solution.T7:Bool × List (List Nat × List Nat):=(true,[([],[]),([],[]),([],[]),([2],[2]),([3],[3]),([4],[4]),([5,4],[4,5]),([4],[4]),([6,7,4],[4,6,7]),([8,4],[4,8]),([9,4],[4,9]),([4,10],[4,10]),([0,4,0],[0]),([1,12,0,1,12],[1]),([11,13,0,1,2,3,4,5,6,7,8,9,10,11,12,13],[11])])
def impl_solution.B7:List Nat:=[0,0,0,4,12,28,60,28,252,508,1020,2044,29,4127,16383]
theorem impl_solution.tab7:rtab .any (opsOf Tryz.f55 7) = impl_solution.T7:=by kernel_rfl
theorem impl_solution.bits7:waitsOk impl_solution.T7.2 impl_solution.B7 = true:=by kernel_rfl
theorem impl_solution.calls (k:Nat) (a0_0:ByteArray) (a0_1:ByteArray) (a0_2:Int) (r1:List ByteArray) (r2:List Int) (r3:List (List Int)) (r4:List ByteArray) (r5:Int) (r6:Bool) (w:World) (h:impl_solution.f k a0_0 a0_1 a0_2 = some (r1,r2,r3,r4,r5,r6)) :
  Calls Tryz.prog 55 #[.agg #[.string a0_0,.string a0_1,.int .i64 a0_2]] w fun e w'=>∃ v0_ v1_ v2_ v3_:Value,e = .returned (.tuple #[.agg #[v0_,v1_,v2_,v3_],.int .i64 r5,.bool r6]) ∧ Kd.R Kd.string 9 w' w.heap.size (fun k_=>some k_ ≠ (v3_:Value).ownBlock) v0_ r1 ∧ Kd.R (Kd.int .i64) 3 w' w.heap.size (fun _=>True) v1_ r2 ∧ Kd.S (Kd.slice 3 (Kd.int .i64)) 40 w' w.heap.size (fun k_=>some k_ ≠ (v1_:Value).ownBlock) v2_ r3 ∧ Kd.R Kd.string 9 w' w.heap.size (fun k_=>some k_ ≠ (v0_:Value).ownBlock) v3_ r4 ∧ Below w.heap.size w w':=by
 have hu30:=Tryz.underlying30
 have hu59:=Tryz.underlying59
 have HB:=am (Below.refl w.heap.size w)
 have H:((impl_IsPuzzle.f k a0_0 a0_1 a0_2).bind fun t103=>(if t103 = true then ((impl_reachOf.f a0_0).bind fun bt104=>(if bt104.2.2.2.2 = true then ((impl_reach_cells.f k bt104.1 bt104.2.1 bt104.2.2.1 bt104.2.2.2.1 a0_1).bind fun t118=>((slices_Index_int_int.f k t118 a0_2).bind fun t121=>(if t121 ≥ 0 then (if 0 ≤ t121 then (if t121 < (bt104.2.1.length:Int) then (some (bt104.1,bt104.2.1,bt104.2.2.1,bt104.2.2.2.1,t121,decide ((rd bt104.2.1 t121) ≤ 40))) else (none)) else (none)) else (some (bt104.1,bt104.2.1,bt104.2.2.1,bt104.2.2.2.1,t121,false))))) else (some (([]:List ByteArray),([]:List Int),([]:List (List Int)),([]:List ByteArray),0,false)))) else (some (([]:List ByteArray),([]:List Int),([]:List (List Int)),([]:List ByteArray),0,false)))) = some (r1,r2,r3,r4,r5,r6):=h
 clear h
 obtain ⟨t103,A2,H⟩:=bn H
 by_cases c3:t103 = true
 rotate_left
 ·replace c3:=Bool.eq_false_iff.mpr c3
  subst c3
  rw [if_neg Bool.false_ne_true] at H
  simp only [Option.some.injEq,Prod.mk.injEq] at H
  obtain ⟨rfl,rfl,rfl,rfl,rfl,rfl⟩:=H
  go_enter Tryz.func55,Tryz.ntmps55
  go_wp2_with (first | (refine bx 1 #[.string a0_0,.string a0_1,.int .i64 a0_2] 30 ?_;intro gb101 hg w75 hbox hb;have BK101:=am (hbox);have GW101:=am ((by rw [hg];exact (below_size aq2):w.heap.size ≤ gb101));have GE101:=GW101;replace HB:=am (below_step aq2 hb);clear hb hbox hg) | (refine bx 2 #[.slice none 0 0,.slice none 0 0,.slice none 0 0,.slice none 0 0] 59 ?_;intro gb102 hg w76 hbox hb;have BK102:=am (hbox);have GW102:=am ((by rw [hg];exact (below_size aq0):w.heap.size ≤ gb102));have GE102:=GW102;replace HB:=am (below_step aq0 hb);have NB101_102:=am ((by rw [hg];exact Nat.ne_of_lt (blk_lt (g:=gb101) (o:=.cells #[.string a0_0,.string a0_1,.int .i64 a0_2] 30 (0,0)) aq1):gb101 ≠ gb102));have NB102_101:=am ((by rw [hg];exact Nat.ne_of_gt (blk_lt (g:=gb101) (o:=.cells #[.string a0_0,.string a0_1,.int .i64 a0_2] 30 (0,0)) aq1):gb102 ≠ gb101));replace BK101:=am (bb BK101 hb);clear hb hbox hg;have hnb77:=NB101_102.out;have hnc77:=NB102_101.out;obtain ⟨hcz78_0,hcz78_1,hcz78_2,hfz78_0,hfz78_1,hfz78_2⟩:=blk3_ BK101.out) | ((with_reducible refine gate_callee (f:=94) rfl ?_);refine goesL_ (some 9) rfl rfl Tryz.func94 k_r rfl #[.agg #[.string a0_0,.string a0_1,.int .i64 a0_2]] rfl aq4 ?_;(with_reducible refine (impl_IsPuzzle.calls k a0_0 a0_1 a0_2 false _ A2.out).mono ?_);rintro e w79 ⟨rfl,hb⟩;refine ⟨_,rfl,?_⟩;replace BK101:=am (bb BK101 hb);replace BK102:=am (bb BK102 hb);replace HB:=am (below_step aq3 hb);(try clear hb);obtain ⟨hcz80_0,hcz80_1,hcz80_2,hcz80_3,hfz80_0,hfz80_1,hfz80_2,hfz80_3⟩:=blk4_ BK102.out))
  refine bodyPost_ret (results_ctt rfl _ _ gb102 59 #[.slice none 0 0,.slice none 0 0,.slice none 0 0,.slice none 0 0] (0,0) _ rfl (by (with_reducible repeat (first | refine blk_drewN ?_ _ | refine blk_drew ?_ | refine blk_alloc ?_ _));refine blk_put (cs:=#[.slice none 0 0,.slice none 0 0,.slice none 0 0,.slice none 0 0]) ?_ 3 _ rfl;(with_reducible repeat (first | refine blk_drewN ?_ _ | refine blk_drew ?_ | refine blk_alloc ?_ _));refine blk_put (cs:=#[.slice none 0 0,.slice none 0 0,.slice none 0 0,.slice none 0 0]) ?_ 2 _ rfl;(with_reducible repeat (first | refine blk_drewN ?_ _ | refine blk_drew ?_ | refine blk_alloc ?_ _));refine blk_put (cs:=#[.slice none 0 0,.slice none 0 0,.slice none 0 0,.slice none 0 0]) ?_ 1 _ rfl;(with_reducible repeat (first | refine blk_drewN ?_ _ | refine blk_drew ?_ | refine blk_alloc ?_ _));refine blk_put (cs:=#[.slice none 0 0,.slice none 0 0,.slice none 0 0,.slice none 0 0]) ?_ 0 _ rfl;(with_reducible repeat (first | refine blk_drewN ?_ _ | refine blk_drew ?_ | refine blk_alloc ?_ _));exact BK102.out) Tryz.underlying59 rfl k_r) rfl ?_
  exact ⟨_,_,_,_,aq7,aq16,aq16,aq53,aq16,aq3⟩
 subst c3
 rw [if_pos rfl] at H
 replace H:=Option.bind_eq_some_iff.mp H
 obtain ⟨⟨t104,t107,t110,t113,t116⟩,A40,H⟩:=H
 replace H:(if t116 = true then ((impl_reach_cells.f k t104 t107 t110 t113 a0_1).bind fun t118=>((slices_Index_int_int.f k t118 a0_2).bind fun t121=>(if t121 ≥ 0 then (if 0 ≤ t121 then (if t121 < (t107.length:Int) then (some (t104,t107,t110,t113,t121,decide ((rd t107 t121) ≤ 40))) else (none)) else (none)) else (some (t104,t107,t110,t113,t121,false))))) else (some (([]:List ByteArray),([]:List Int),([]:List (List Int)),([]:List ByteArray),0,false))) = some (r1,r2,r3,r4,r5,r6):=H
 have A4:=am A40
 clear A40
 by_cases c5:t116 = true
 rotate_left
 ·replace c5:=Bool.eq_false_iff.mpr c5
  subst c5
  rw [if_neg Bool.false_ne_true] at H
  simp only [Option.some.injEq,Prod.mk.injEq] at H
  obtain ⟨rfl,rfl,rfl,rfl,rfl,rfl⟩:=H
  go_enter Tryz.func55,Tryz.ntmps55
  go_wp2_with (first | (refine bx 1 #[.string a0_0,.string a0_1,.int .i64 a0_2] 30 ?_;intro gb101 hg w59 hbox hb;have BK101:=am (hbox);have GW101:=am ((by rw [hg];exact (below_size aq2):w.heap.size ≤ gb101));have GE101:=GW101;replace HB:=am (below_step aq2 hb);clear hb hbox hg) | (refine bx 2 #[.slice none 0 0,.slice none 0 0,.slice none 0 0,.slice none 0 0] 59 ?_;intro gb102 hg w60 hbox hb;have BK102:=am (hbox);have GW102:=am ((by rw [hg];exact (below_size aq0):w.heap.size ≤ gb102));have GE102:=GW102;replace HB:=am (below_step aq0 hb);have NB101_102:=am ((by rw [hg];exact Nat.ne_of_lt (blk_lt (g:=gb101) (o:=.cells #[.string a0_0,.string a0_1,.int .i64 a0_2] 30 (0,0)) aq1):gb101 ≠ gb102));have NB102_101:=am ((by rw [hg];exact Nat.ne_of_gt (blk_lt (g:=gb101) (o:=.cells #[.string a0_0,.string a0_1,.int .i64 a0_2] 30 (0,0)) aq1):gb102 ≠ gb101));replace BK101:=am (bb BK101 hb);clear hb hbox hg;have hnb61:=NB101_102.out;have hnc61:=NB102_101.out;obtain ⟨hcz62_0,hcz62_1,hcz62_2,hfz62_0,hfz62_1,hfz62_2⟩:=blk3_ BK101.out) | ((with_reducible refine gate_callee (f:=94) rfl ?_);refine goesL_ (some 9) rfl rfl Tryz.func94 k_r rfl #[.agg #[.string a0_0,.string a0_1,.int .i64 a0_2]] rfl aq4 ?_;(with_reducible refine (impl_IsPuzzle.calls k a0_0 a0_1 a0_2 true _ A2.out).mono ?_);rintro e w63 ⟨rfl,hb⟩;refine ⟨_,rfl,?_⟩;replace BK101:=am (bb BK101 hb);replace BK102:=am (bb BK102 hb);replace HB:=am (below_step aq3 hb);(try clear hb);obtain ⟨hcz64_0,hcz64_1,hcz64_2,hfz64_0,hfz64_1,hfz64_2⟩:=blk3_ BK101.out) | ((with_reducible refine gate_callee (f:=74) rfl ?_);refine goesL_ (some 15) rfl rfl Tryz.func74 k_r rfl #[.string a0_0] rfl aq4 ?_;(with_reducible refine (impl_reachOf.calls a0_0 t104 t107 t110 t113 false _ A4.out).mono ?_);rintro e w65 ⟨v105,v108,v111,v114,rfl,ho0,ho1,ho2,ho3,hb⟩;refine ⟨_,rfl,?_⟩;have HO106:=am (Kd.R_lower ho0 (below_size aq3));have HO109:=am (Kd.R_lower ho1 (below_size aq3));have HO112:=am (Kd.S_lower ho2 (below_size aq3));have HO115:=am (Kd.R_lower ho3 (below_size aq3));replace BK101:=am (bb BK101 hb);replace BK102:=am (bb BK102 hb);replace HB:=am (below_step aq3 hb);(try clear hb);(try clear ho0);(try clear ho1);(try clear ho2);(try clear ho3)) | (refine bx 5 #[.slice none 0 0,.slice none 0 0,.slice none 0 0,.slice none 0 0] 59 ?_;intro gb117 hg w66 hbox hb;replace HO106:=am (Kd.R_below aq15 hb);replace HO109:=am (Kd.R_below aq30 hb);replace HO112:=am (Kd.S_below aq28 hb);replace HO115:=am (Kd.R_below aq29 hb);have BK117:=am (hbox);have GW117:=am ((by rw [hg];exact (below_size aq3):w.heap.size ≤ gb117));have GE117:=GW117;replace HB:=am (below_step aq3 hb);have NB101_117:=am ((by rw [hg];exact Nat.ne_of_lt (blk_lt (g:=gb101) (o:=.cells #[.string a0_0,.string a0_1,.int .i64 a0_2] 30 (0,0)) aq1):gb101 ≠ gb117));have NB117_101:=am ((by rw [hg];exact Nat.ne_of_gt (blk_lt (g:=gb101) (o:=.cells #[.string a0_0,.string a0_1,.int .i64 a0_2] 30 (0,0)) aq1):gb117 ≠ gb101));replace BK101:=am (bb BK101 hb);have NB102_117:=am ((by rw [hg];exact Nat.ne_of_lt (blk_lt (g:=gb102) (o:=.cells #[.slice none 0 0,.slice none 0 0,.slice none 0 0,.slice none 0 0] 59 (0,0)) aq9):gb102 ≠ gb117));have NB117_102:=am ((by rw [hg];exact Nat.ne_of_gt (blk_lt (g:=gb102) (o:=.cells #[.slice none 0 0,.slice none 0 0,.slice none 0 0,.slice none 0 0] 59 (0,0)) aq9):gb117 ≠ gb102));replace BK102:=am (bb BK102 hb);clear hb hbox hg;obtain ⟨Ao67,co67,eo67⟩:=Kd.R_slice HO106.out;subst eo67;have hnb68:=NB117_101.out;have hnc68:=NB101_117.out;have hnb69:=NB117_102.out;have hnc69:=NB102_117.out;obtain ⟨hcz70_0,hcz70_1,hcz70_2,hcz70_3,hfz70_0,hfz70_1,hfz70_2,hfz70_3⟩:=blk4_ BK117.out;obtain ⟨Ao71,co71,eo71⟩:=Kd.R_slice HO109.out;subst eo71;obtain ⟨Ao72,co72,eo72⟩:=Kd.S_slice HO112.out;subst eo72;obtain ⟨Ao73,co73,eo73⟩:=Kd.R_slice HO115.out;subst eo73;obtain ⟨hcz74_0,hcz74_1,hcz74_2,hcz74_3,hfz74_0,hfz74_1,hfz74_2,hfz74_3⟩:=blk4_ BK102.out))
  refine bodyPost_ret (results_ctt rfl _ _ gb102 59 #[.slice none 0 0,.slice none 0 0,.slice none 0 0,.slice none 0 0] (0,0) _ rfl (by (with_reducible repeat (first | refine blk_drewN ?_ _ | refine blk_drew ?_ | refine blk_alloc ?_ _));refine blk_put (cs:=#[.slice none 0 0,.slice none 0 0,.slice none 0 0,.slice none 0 0]) ?_ 3 _ rfl;(with_reducible repeat (first | refine blk_drewN ?_ _ | refine blk_drew ?_ | refine blk_alloc ?_ _));refine blk_put (cs:=#[.slice none 0 0,.slice none 0 0,.slice none 0 0,.slice none 0 0]) ?_ 2 _ rfl;(with_reducible repeat (first | refine blk_drewN ?_ _ | refine blk_drew ?_ | refine blk_alloc ?_ _));refine blk_put (cs:=#[.slice none 0 0,.slice none 0 0,.slice none 0 0,.slice none 0 0]) ?_ 1 _ rfl;(with_reducible repeat (first | refine blk_drewN ?_ _ | refine blk_drew ?_ | refine blk_alloc ?_ _));refine blk_put (cs:=#[.slice none 0 0,.slice none 0 0,.slice none 0 0,.slice none 0 0]) ?_ 0 _ rfl;(with_reducible repeat (first | refine blk_drewN ?_ _ | refine blk_drew ?_ | refine blk_alloc ?_ _));refine blk_far ?_ NB102_117.out _;(with_reducible repeat (first | refine blk_drewN ?_ _ | refine blk_drew ?_ | refine blk_alloc ?_ _));refine blk_far ?_ NB102_117.out _;(with_reducible repeat (first | refine blk_drewN ?_ _ | refine blk_drew ?_ | refine blk_alloc ?_ _));refine blk_far ?_ NB102_117.out _;(with_reducible repeat (first | refine blk_drewN ?_ _ | refine blk_drew ?_ | refine blk_alloc ?_ _));refine blk_far ?_ NB102_117.out _;(with_reducible repeat (first | refine blk_drewN ?_ _ | refine blk_drew ?_ | refine blk_alloc ?_ _));exact BK102.out) Tryz.underlying59 rfl k_r) rfl ?_
  exact ⟨_,_,_,_,aq7,aq16,aq16,aq53,aq16,aq14⟩
 subst c5
 rw [if_pos rfl] at H
 obtain ⟨t118,A6,H⟩:=bn H
 obtain ⟨t121,A7,H⟩:=bn H
 by_cases c8:t121 ≥ 0
 rotate_left
 ·rw [if_neg c8] at H
  have c8b0:=decide_eq_false c8
  clear c8
  simp only [Option.some.injEq,Prod.mk.injEq] at H
  obtain ⟨rfl,rfl,rfl,rfl,rfl,rfl⟩:=H
  go_enter Tryz.func55,Tryz.ntmps55
  try go_wp2_with (first | (refine bx 1 #[.string a0_0,.string a0_1,.int .i64 a0_2] 30 ?_;intro gb101 hg w35 hbox hb;have BK101:=am (hbox);have GW101:=am ((by rw [hg];exact (below_size aq2):w.heap.size ≤ gb101));have GE101:=GW101;replace HB:=am (below_step aq2 hb);clear hb hbox hg) | (refine bx 2 #[.slice none 0 0,.slice none 0 0,.slice none 0 0,.slice none 0 0] 59 ?_;intro gb102 hg w36 hbox hb;have BK102:=am (hbox);have GW102:=am ((by rw [hg];exact (below_size aq0):w.heap.size ≤ gb102));have GE102:=GW102;replace HB:=am (below_step aq0 hb);have NB101_102:=am ((by rw [hg];exact Nat.ne_of_lt (blk_lt (g:=gb101) (o:=.cells #[.string a0_0,.string a0_1,.int .i64 a0_2] 30 (0,0)) aq1):gb101 ≠ gb102));have NB102_101:=am ((by rw [hg];exact Nat.ne_of_gt (blk_lt (g:=gb101) (o:=.cells #[.string a0_0,.string a0_1,.int .i64 a0_2] 30 (0,0)) aq1):gb102 ≠ gb101));replace BK101:=am (bb BK101 hb);clear hb hbox hg;have hnb37:=NB101_102.out;have hnc37:=NB102_101.out;obtain ⟨hcz38_0,hcz38_1,hcz38_2,hfz38_0,hfz38_1,hfz38_2⟩:=blk3_ BK101.out) | ((with_reducible refine gate_callee (f:=94) rfl ?_);refine goesL_ (some 9) rfl rfl Tryz.func94 k_r rfl #[.agg #[.string a0_0,.string a0_1,.int .i64 a0_2]] rfl aq4 ?_;(with_reducible refine (impl_IsPuzzle.calls k a0_0 a0_1 a0_2 true _ A2.out).mono ?_);rintro e w39 ⟨rfl,hb⟩;refine ⟨_,rfl,?_⟩;replace BK101:=am (bb BK101 hb);replace BK102:=am (bb BK102 hb);replace HB:=am (below_step aq3 hb);(try clear hb);obtain ⟨hcz40_0,hcz40_1,hcz40_2,hfz40_0,hfz40_1,hfz40_2⟩:=blk3_ BK101.out) | ((with_reducible refine gate_callee (f:=74) rfl ?_);refine goesL_ (some 15) rfl rfl Tryz.func74 k_r rfl #[.string a0_0] rfl aq4 ?_;(with_reducible refine (impl_reachOf.calls a0_0 t104 t107 t110 t113 true _ A4.out).mono ?_);rintro e w41 ⟨v105,v108,v111,v114,rfl,ho0,ho1,ho2,ho3,hb⟩;refine ⟨_,rfl,?_⟩;have HO106:=am (Kd.R_lower ho0 (below_size aq3));have HO109:=am (Kd.R_lower ho1 (below_size aq3));have HO112:=am (Kd.S_lower ho2 (below_size aq3));have HO115:=am (Kd.R_lower ho3 (below_size aq3));replace BK101:=am (bb BK101 hb);replace BK102:=am (bb BK102 hb);replace HB:=am (below_step aq3 hb);(try clear hb);(try clear ho0);(try clear ho1);(try clear ho2);(try clear ho3)) | (refine bx 5 #[.slice none 0 0,.slice none 0 0,.slice none 0 0,.slice none 0 0] 59 ?_;intro gb117 hg w42 hbox hb;replace HO106:=am (Kd.R_below aq15 hb);replace HO109:=am (Kd.R_below aq30 hb);replace HO112:=am (Kd.S_below aq28 hb);replace HO115:=am (Kd.R_below aq29 hb);have BK117:=am (hbox);have GW117:=am ((by rw [hg];exact (below_size aq3):w.heap.size ≤ gb117));have GE117:=GW117;replace HB:=am (below_step aq3 hb);have NB101_117:=am ((by rw [hg];exact Nat.ne_of_lt (blk_lt (g:=gb101) (o:=.cells #[.string a0_0,.string a0_1,.int .i64 a0_2] 30 (0,0)) aq1):gb101 ≠ gb117));have NB117_101:=am ((by rw [hg];exact Nat.ne_of_gt (blk_lt (g:=gb101) (o:=.cells #[.string a0_0,.string a0_1,.int .i64 a0_2] 30 (0,0)) aq1):gb117 ≠ gb101));replace BK101:=am (bb BK101 hb);have NB102_117:=am ((by rw [hg];exact Nat.ne_of_lt (blk_lt (g:=gb102) (o:=.cells #[.slice none 0 0,.slice none 0 0,.slice none 0 0,.slice none 0 0] 59 (0,0)) aq9):gb102 ≠ gb117));have NB117_102:=am ((by rw [hg];exact Nat.ne_of_gt (blk_lt (g:=gb102) (o:=.cells #[.slice none 0 0,.slice none 0 0,.slice none 0 0,.slice none 0 0] 59 (0,0)) aq9):gb117 ≠ gb102));replace BK102:=am (bb BK102 hb);clear hb hbox hg;obtain ⟨Ao43,co43,eo43⟩:=Kd.R_slice HO106.out;subst eo43;have hnb44:=NB117_101.out;have hnc44:=NB101_117.out;have hnb45:=NB117_102.out;have hnc45:=NB102_117.out;obtain ⟨hcz46_0,hcz46_1,hcz46_2,hcz46_3,hfz46_0,hfz46_1,hfz46_2,hfz46_3⟩:=blk4_ BK117.out;obtain ⟨Ao47,co47,eo47⟩:=Kd.R_slice HO109.out;subst eo47;obtain ⟨Ao48,co48,eo48⟩:=Kd.S_slice HO112.out;subst eo48;obtain ⟨Ao49,co49,eo49⟩:=Kd.R_slice HO115.out;subst eo49))
  have n0_:Aside0 (Kd.R Kd.string 9 ((((w42.setCell ⟨gb117,0,none⟩ (.slice Ao43 t104.length co43)).setCell ⟨gb117,1,none⟩ (.slice Ao47 t107.length co47)).setCell ⟨gb117,2,none⟩ (.slice Ao48 t110.length co48)).setCell ⟨gb117,3,none⟩ (.slice Ao49 t113.length co49)) w.heap.size (fun k_=>some k_ ≠ (.slice Ao49 t113.length co49:Value).ownBlock) (.slice Ao43 t104.length co43) t104):=⟨by (with_reducible repeat (first | apply Kd.R_alloc | apply Kd.R_drewN | apply Kd.R_drew));exact Kd.R_mono (Kd.R_far (p:=⟨gb117,3,none⟩) (Kd.R_far (p:=⟨gb117,2,none⟩) (Kd.R_far (p:=⟨gb117,1,none⟩) (Kd.R_far (p:=⟨gb117,0,none⟩) (Kd.R_types HO106.out BK117.out d_c) (fun _ hk=>hk.2) (.slice Ao43 t104.length co43)) (fun _ hk=>hk.2) (.slice Ao47 t107.length co47)) (fun _ hk=>hk.2) (.slice Ao48 t110.length co48)) (fun _ hk=>hk.2) (.slice Ao49 t113.length co49)) (fun _ hk=>hk.1)⟩
  have n1_:Aside0 (Kd.R (Kd.int .i64) 3 ((((w42.setCell ⟨gb117,0,none⟩ (.slice Ao43 t104.length co43)).setCell ⟨gb117,1,none⟩ (.slice Ao47 t107.length co47)).setCell ⟨gb117,2,none⟩ (.slice Ao48 t110.length co48)).setCell ⟨gb117,3,none⟩ (.slice Ao49 t113.length co49)) w.heap.size (fun _=>True) (.slice Ao47 t107.length co47) t107):=⟨by (with_reducible repeat (first | apply Kd.R_alloc | apply Kd.R_drewN | apply Kd.R_drew));exact Kd.R_mono (Kd.R_far (p:=⟨gb117,3,none⟩) (Kd.R_far (p:=⟨gb117,2,none⟩) (Kd.R_far (p:=⟨gb117,1,none⟩) (Kd.R_far (p:=⟨gb117,0,none⟩) (Kd.R_types HO109.out BK117.out d_c) (fun _ hk=>hk.2) (.slice Ao43 t104.length co43)) (fun _ hk=>hk.2) (.slice Ao47 t107.length co47)) (fun _ hk=>hk.2) (.slice Ao48 t110.length co48)) (fun _ hk=>hk.2) (.slice Ao49 t113.length co49)) (fun _ hk=>trivial)⟩
  have n2_:Aside0 (Kd.S (Kd.slice 3 (Kd.int .i64)) 40 ((((w42.setCell ⟨gb117,0,none⟩ (.slice Ao43 t104.length co43)).setCell ⟨gb117,1,none⟩ (.slice Ao47 t107.length co47)).setCell ⟨gb117,2,none⟩ (.slice Ao48 t110.length co48)).setCell ⟨gb117,3,none⟩ (.slice Ao49 t113.length co49)) w.heap.size (fun k_=>some k_ ≠ (.slice Ao47 t107.length co47:Value).ownBlock) (.slice Ao48 t110.length co48) t110):=⟨by (with_reducible repeat (first | apply Kd.S_alloc | apply Kd.S_drewN | apply Kd.S_drew));exact Kd.S_mono (Kd.S_far (p:=⟨gb117,3,none⟩) (Kd.S_far (p:=⟨gb117,2,none⟩) (Kd.S_far (p:=⟨gb117,1,none⟩) (Kd.S_far (p:=⟨gb117,0,none⟩) (Kd.S_types HO112.out BK117.out d_c) (fun _ hk=>hk.2) (.slice Ao43 t104.length co43)) (fun _ hk=>hk.2) (.slice Ao47 t107.length co47)) (fun _ hk=>hk.2) (.slice Ao48 t110.length co48)) (fun _ hk=>hk.2) (.slice Ao49 t113.length co49)) (fun _ hk=>hk.1)⟩
  have n3_:Aside0 (Kd.R Kd.string 9 ((((w42.setCell ⟨gb117,0,none⟩ (.slice Ao43 t104.length co43)).setCell ⟨gb117,1,none⟩ (.slice Ao47 t107.length co47)).setCell ⟨gb117,2,none⟩ (.slice Ao48 t110.length co48)).setCell ⟨gb117,3,none⟩ (.slice Ao49 t113.length co49)) w.heap.size (fun k_=>some k_ ≠ (.slice Ao43 t104.length co43:Value).ownBlock) (.slice Ao49 t113.length co49) t113):=⟨by (with_reducible repeat (first | apply Kd.R_alloc | apply Kd.R_drewN | apply Kd.R_drew));exact Kd.R_mono (Kd.R_far (p:=⟨gb117,3,none⟩) (Kd.R_far (p:=⟨gb117,2,none⟩) (Kd.R_far (p:=⟨gb117,1,none⟩) (Kd.R_far (p:=⟨gb117,0,none⟩) (Kd.R_types HO115.out BK117.out d_c) (fun _ hk=>hk.2) (.slice Ao43 t104.length co43)) (fun _ hk=>hk.2) (.slice Ao47 t107.length co47)) (fun _ hk=>hk.2) (.slice Ao48 t110.length co48)) (fun _ hk=>hk.2) (.slice Ao49 t113.length co49)) (fun _ hk=>hk.1)⟩
  have n4_:Aside0 (((((w42.setCell ⟨gb117,0,none⟩ (.slice Ao43 t104.length co43)).setCell ⟨gb117,1,none⟩ (.slice Ao47 t107.length co47)).setCell ⟨gb117,2,none⟩ (.slice Ao48 t110.length co48)).setCell ⟨gb117,3,none⟩ (.slice Ao49 t113.length co49)).heap[gb101]? = some (.cells #[.string a0_0,.string a0_1,.int .i64 a0_2] 30 (0,0))):=⟨aq35⟩
  have n5_:Aside0 (((((w42.setCell ⟨gb117,0,none⟩ (.slice Ao43 t104.length co43)).setCell ⟨gb117,1,none⟩ (.slice Ao47 t107.length co47)).setCell ⟨gb117,2,none⟩ (.slice Ao48 t110.length co48)).setCell ⟨gb117,3,none⟩ (.slice Ao49 t113.length co49)).heap[gb102]? = some (.cells #[.slice none 0 0,.slice none 0 0,.slice none 0 0,.slice none 0 0] 59 (0,0))):=⟨aq34⟩
  have n6_:Aside0 (((((w42.setCell ⟨gb117,0,none⟩ (.slice Ao43 t104.length co43)).setCell ⟨gb117,1,none⟩ (.slice Ao47 t107.length co47)).setCell ⟨gb117,2,none⟩ (.slice Ao48 t110.length co48)).setCell ⟨gb117,3,none⟩ (.slice Ao49 t113.length co49)).heap[gb117]? = some (.cells #[.slice Ao43 t104.length co43,.slice Ao47 t107.length co47,.slice Ao48 t110.length co48,.slice Ao49 t113.length co49] 59 (0,0))):=⟨by (with_reducible repeat (first | refine blk_drewN ?_ _ | refine blk_drew ?_ | refine blk_alloc ?_ _));refine blk_put (cs:=#[.slice Ao43 t104.length co43,.slice Ao47 t107.length co47,.slice Ao48 t110.length co48,.slice none 0 0]) ?_ 3 _ rfl;(with_reducible repeat (first | refine blk_drewN ?_ _ | refine blk_drew ?_ | refine blk_alloc ?_ _));refine blk_put (cs:=#[.slice Ao43 t104.length co43,.slice Ao47 t107.length co47,.slice none 0 0,.slice none 0 0]) ?_ 2 _ rfl;(with_reducible repeat (first | refine blk_drewN ?_ _ | refine blk_drew ?_ | refine blk_alloc ?_ _));refine blk_put (cs:=#[.slice Ao43 t104.length co43,.slice none 0 0,.slice none 0 0,.slice none 0 0]) ?_ 1 _ rfl;(with_reducible repeat (first | refine blk_drewN ?_ _ | refine blk_drew ?_ | refine blk_alloc ?_ _));refine blk_put (cs:=#[.slice none 0 0,.slice none 0 0,.slice none 0 0,.slice none 0 0]) ?_ 0 _ rfl;(with_reducible repeat (first | refine blk_drewN ?_ _ | refine blk_drew ?_ | refine blk_alloc ?_ _));exact BK117.out⟩
  have n7_:Aside0 (Below w.heap.size w ((((w42.setCell ⟨gb117,0,none⟩ (.slice Ao43 t104.length co43)).setCell ⟨gb117,1,none⟩ (.slice Ao47 t107.length co47)).setCell ⟨gb117,2,none⟩ (.slice Ao48 t110.length co48)).setCell ⟨gb117,3,none⟩ (.slice Ao49 t113.length co49))):=⟨aq14⟩
  (try clear HO106)
  (try clear HO109)
  (try clear HO112)
  (try clear HO115)
  (try clear BK101)
  (try clear BK102)
  (try clear BK117)
  (try clear HB)
  generalize ((((w42.setCell ⟨gb117,0,none⟩ (.slice Ao43 t104.length co43)).setCell ⟨gb117,1,none⟩ (.slice Ao47 t107.length co47)).setCell ⟨gb117,2,none⟩ (.slice Ao48 t110.length co48)).setCell ⟨gb117,3,none⟩ (.slice Ao49 t113.length co49)) = w50 at n0_ n1_ n2_ n3_ n4_ n5_ n6_ n7_ ⊢
  have HO106:=n0_
  have HO109:=n1_
  have HO112:=n2_
  have HO115:=n3_
  have BK101:=n4_
  have BK102:=n5_
  have BK117:=n6_
  have HB:=n7_
  clear n0_ n1_ n2_ n3_ n4_ n5_ n6_ n7_
  replace HO106:=am (Kd.R_drew HO106.out)
  replace HO109:=am (Kd.R_drew HO109.out)
  replace HO112:=am (Kd.S_drew HO112.out)
  replace HO115:=am (Kd.R_drew HO115.out)
  replace BK101:=am (blk_drew BK101.out)
  replace BK102:=am (blk_drew BK102.out)
  replace BK117:=am (blk_drew BK117.out)
  replace HB:=am (below_drew1 HB.out)
  refine start_ (n:=8) (S:=fun w'=>w'.cell? ⟨gb117,0,none⟩ = some (.slice Ao43 t104.length co43) ∧ w'.cell? ⟨gb117,1,none⟩ = some (.slice Ao47 t107.length co47) ∧ w'.cell? ⟨gb117,2,none⟩ = some (.slice Ao48 t110.length co48) ∧ w'.cell? ⟨gb117,3,none⟩ = some (.slice Ao49 t113.length co49) ∧ w'.cell? ⟨gb101,0,none⟩ = some (.string a0_0) ∧ w'.cell? ⟨gb101,1,none⟩ = some (.string a0_1) ∧ w'.cell? ⟨gb101,2,none⟩ = some (.int .i64 a0_2)) (ds:=[]) (bm 8 0) k_r rfl rfl ⟨bk BK117 0,bk BK117 1,bk BK117 2,bk BK117 3,bk BK101 0,bk BK101 1,bk BK101 2⟩ (fun hHeld=>?_);refine with_tabW impl_solution.tab6 impl_solution.bits6 (fun HT_ HW_=>?_)
  generalize w50.drew = w51 at HO106 HO109 HO112 HO115 BK101 BK102 BK117 HB hHeld ⊢
  refine py (i:=1) (N:=some 22) (bm 8 2) ?_
  refine py (i:=4) (N:=some 25) (bm 8 18) ?_
  refine tk7 (i:=0) (N:=some 21) (bm 8 19) hHeld ?_
  refine tk7 (i:=2) (N:=some 23) (bm 8 23) hHeld ?_
  refine tk7 (i:=5) (N:=some 26) (bm 8 55) hHeld ?_
  refine one_ (i:=3) (N:=some 24) (bm 8 63) rfl rfl (one_of HT_.out k_r) d_c (fun K hK=>?_)
  refine goes_ Tryz.func50 k_r rfl #[.agg #[.slice Ao43 t104.length co43,.slice Ao47 t107.length co47,.slice Ao48 t110.length co48,.slice Ao49 t113.length co49],.string a0_1] (by rfl) rfl rfl aq4 ?_
  with_reducible refine (impl_reach_cells.calls k _ _ t104 _ _ t107 _ _ t110 _ _ t113 a0_1 t118 _ ?side1 ?side2 ?side3 ?side4 ?side5 ?side6 ?side7 ?side8 A6.out).mono ?_
  (case side1=>exact aq24)
  (case side2=>exact aq85)
  (case side3=>exact aq73)
  (case side4=>exact (Kd.R_reads' HO109.out).2.1)
  (case side5=>exact aq70)
  (case side6=>exact (Kd.S_reads' HO112.out).2.1)
  (case side7=>exact aq72)
  (case side8=>exact (Kd.R_reads' HO115.out).2.1)
  rintro e w52 ⟨v119,rfl,ho0,hb⟩
  refine ⟨_,rfl,?_⟩
  replace HO106:=am (Kd.R_below aq15 hb)
  replace HO112:=am (Kd.S_elder' aq28 (Kd.R_base ho0) hb)
  replace HO115:=am (Kd.R_below aq29 hb)
  have HO120:=am (Kd.R_lower (Kd.R_new' ho0 (Kd.R_lt aq30)) (below_size aq14))
  replace HO109:=am (Kd.R_elder' aq30 (Kd.R_base ho0) hb)
  replace BK101:=am (bb BK101 hb)
  replace BK102:=am (bb BK102 hb)
  replace BK117:=am (bb BK117 hb)
  replace HB:=am (below_step aq14 hb)
  (try clear hb)
  (try clear ho0)
  obtain ⟨Ao53,co53,eo53⟩:=Kd.R_slice HO120.out
  (first | subst eo53 | (injection eo53 with f1_ f2_ f3_;have f4_:=f1_.symm;have f5_:=f3_.symm;clear f1_ f2_ f3_;subst f4_;subst f5_))
  refine hK.out _ _ ⟨bk BK117 0,bk BK117 1,bk BK117 2,bk BK117 3,bk BK101 0,bk BK101 1,bk BK101 2⟩ (fun hHeld=>?_)
  clear hK K
  refine nm (some 24) ?_
  refine one_ (i:=6) (N:=some 27) (bm 8 127) rfl rfl (one_of HT_.out k_r) d_c (fun K hK=>?_)
  refine goes_ Tryz.func52 k_r rfl #[.slice Ao53 t118.length co53,.int .i64 a0_2] (by rfl) rfl rfl aq4 ?_
  with_reducible refine (slices_Index_int_int.calls k _ _ t118 a0_2 t121 _ ?side1 ?side2 A7.out).mono ?_
  (case side1=>exact aq71)
  (case side2=>exact (Kd.R_reads' HO120.out).2.1)
  rintro e w' ⟨rfl,⟨nd,rfl⟩⟩
  refine ⟨_,rfl,?_⟩
  refine hK.out _ _ ⟨bk BK117 0,bk BK117 1,bk BK117 2,bk BK117 3,bk BK101 0,bk BK101 1,bk BK101 2⟩ (fun hHeld=>?_)
  clear hK K
  refine nm (some 27) ?_
  refine py (i:=7) (N:=some 7) (bm 8 255) ?_
  refine done_ (done_of HT_.out k_r) ?_
  try go_wp2
  (try (rw [drewN_self w52];generalize hq_:World.drewN w52 _ = w52;have n0_:Aside0 (Kd.R Kd.string 9 w52 w.heap.size (fun k_=>some k_ ≠ (.slice Ao49 t113.length co49:Value).ownBlock) (.slice Ao43 t104.length co43) t104):=⟨by rw [← hq_];exact aq15⟩;have n1_:Aside0 (Kd.R (Kd.int .i64) 3 w52 w.heap.size (fun k_=>some k_ ≠ (.slice Ao53 t118.length co53:Value).ownBlock) (.slice Ao47 t107.length co47) t107):=⟨aq75⟩;have n2_:Aside0 (Kd.S (Kd.slice 3 (Kd.int .i64)) 40 w52 w.heap.size (fun k_=>some k_ ≠ (.slice Ao47 t107.length co47:Value).ownBlock ∧ some k_ ≠ (.slice Ao53 t118.length co53:Value).ownBlock) (.slice Ao48 t110.length co48) t110):=⟨by rw [← hq_];exact aq28⟩;have n3_:Aside0 (Kd.R Kd.string 9 w52 w.heap.size (fun k_=>some k_ ≠ (.slice Ao43 t104.length co43:Value).ownBlock) (.slice Ao49 t113.length co49) t113):=⟨by rw [← hq_];exact aq29⟩;have n4_:Aside0 (Kd.R (Kd.int .i64) 3 w52 w.heap.size (fun k_=>some k_ ≠ (.slice Ao47 t107.length co47:Value).ownBlock) (.slice Ao53 t118.length co53) t118):=⟨aq74⟩;have n5_:Aside0 (w52.heap[gb101]? = some (.cells #[.string a0_0,.string a0_1,.int .i64 a0_2] 30 (0,0))):=⟨by rw [← hq_];exact aq1⟩;have n6_:Aside0 (w52.heap[gb102]? = some (.cells #[.slice none 0 0,.slice none 0 0,.slice none 0 0,.slice none 0 0] 59 (0,0))):=⟨by rw [← hq_];exact aq9⟩;have n7_:Aside0 (w52.heap[gb117]? = some (.cells #[.slice Ao43 t104.length co43,.slice Ao47 t107.length co47,.slice Ao48 t110.length co48,.slice Ao49 t113.length co49] 59 (0,0))):=⟨by rw [← hq_];exact aq46⟩;have n8_:Aside0 (Below w.heap.size w w52):=⟨by rw [← hq_];exact aq14⟩;clear HO106 HO109 HO112 HO115 HO120 BK101 BK102 BK117 HB hq_;have HO106:=n0_;have HO109:=n1_;have HO112:=n2_;have HO115:=n3_;have HO120:=n4_;have BK101:=n5_;have BK102:=n6_;have BK117:=n7_;have HB:=n8_;clear n0_ n1_ n2_ n3_ n4_ n5_ n6_ n7_ n8_))
  replace HO106:=am (Kd.R_drew HO106.out)
  replace HO109:=am (Kd.R_drew HO109.out)
  replace HO112:=am (Kd.S_drew HO112.out)
  replace HO115:=am (Kd.R_drew HO115.out)
  replace HO120:=am (Kd.R_drew HO120.out)
  replace BK101:=am (blk_drew BK101.out)
  replace BK102:=am (blk_drew BK102.out)
  replace BK117:=am (blk_drew BK117.out)
  replace HB:=am (below_drew1 HB.out)
  refine start_ (n:=15) (S:=fun w'=>w'.cell? ⟨gb117,0,none⟩ = some (.slice Ao43 t104.length co43) ∧ w'.cell? ⟨gb117,1,none⟩ = some (.slice Ao47 t107.length co47) ∧ w'.cell? ⟨gb117,2,none⟩ = some (.slice Ao48 t110.length co48) ∧ w'.cell? ⟨gb117,3,none⟩ = some (.slice Ao49 t113.length co49)) (ds:=[]) (bm 15 0) k_r rfl rfl ⟨bk BK117 0,bk BK117 1,bk BK117 2,bk BK117 3⟩ (fun hHeld=>?_);refine with_tabW impl_solution.tab7 impl_solution.bits7 (fun HT_ HW_=>?_)
  generalize w52.drew = w54 at HO106 HO109 HO112 HO115 HO120 BK101 BK102 BK117 HB hHeld ⊢
  refine py (i:=1) (N:=some 29) (bm 15 2) ?_
  refine py (i:=2) (N:=some 30) (bm 15 6) ?_
  refine py (i:=3) (N:=some 31) (bm 15 14) ?_
  refine py (i:=4) (N:=some 32) (bm 15 30) ?_
  refine pu (i:=5) (N:=some 33) (bm 15 62) ?_
  refine pu (i:=6) (N:=some 34) (bm 15 126) ?_
  refine pu (i:=7) (N:=some 35) (bm 15 254) ?_
  refine pu (i:=8) (N:=some 36) (bm 15 510) ?_
  refine pu (i:=9) (N:=some 37) (bm 15 1022) ?_
  refine pu (i:=10) (N:=some 38) (bm 15 2046) ?_
  refine py (i:=11) (N:=some 39) (bm 15 4094) ?_
  refine tk4 (i:=0) (N:=some 28) (bm 15 4095) hHeld ?_
  refine one_ (i:=12) (N:=none) (bm 15 8191) rfl rfl (one_of HT_.out k_r) d_c (fun K hK=>?_)
  have hs55:w54.cell? ⟨gb102,0,none⟩ = some (.slice none 0 0):=(blk_cell BK102.out 0).trans rfl
  have hfs55:=blk_frozen BK102.out 0
  have hns55_0:=NB101_102.out
  have hns55_2:=NB117_102.out
  have hms55_0:=NB102_101.out
  have hms55_2:=NB102_117.out
  have hs56:w54.cell? ⟨gb102,1,none⟩ = some (.slice none 0 0):=(blk_cell BK102.out 1).trans rfl
  have hfs56:=blk_frozen BK102.out 1
  have hns56_0:=NB101_102.out
  have hns56_2:=NB117_102.out
  have hms56_0:=NB102_101.out
  have hms56_2:=NB102_117.out
  have hs57:w54.cell? ⟨gb102,2,none⟩ = some (.slice none 0 0):=(blk_cell BK102.out 2).trans rfl
  have hfs57:=blk_frozen BK102.out 2
  have hns57_0:=NB101_102.out
  have hns57_2:=NB117_102.out
  have hms57_0:=NB102_101.out
  have hms57_2:=NB102_117.out
  have hs58:w54.cell? ⟨gb102,3,none⟩ = some (.slice none 0 0):=(blk_cell BK102.out 3).trans rfl
  have hfs58:=blk_frozen BK102.out 3
  have hns58_0:=NB101_102.out
  have hns58_2:=NB117_102.out
  have hms58_0:=NB102_101.out
  have hms58_2:=NB102_117.out
  refine skip_ (w1:=?_) (by rfl) rfl ?_ ?_
  rotate_left
  ·go_simp
   rfl
  refine hK.out _ _ ⟨((cell_far (p:=⟨gb102,_,none⟩) NB117_102.out _).trans (((cell_far (p:=⟨gb102,_,none⟩) NB117_102.out _).trans (((cell_far (p:=⟨gb102,_,none⟩) NB117_102.out _).trans (((cell_far (p:=⟨gb102,_,none⟩) NB117_102.out _).trans (hHeld.1)))))))),((cell_far (p:=⟨gb102,_,none⟩) NB117_102.out _).trans (((cell_far (p:=⟨gb102,_,none⟩) NB117_102.out _).trans (((cell_far (p:=⟨gb102,_,none⟩) NB117_102.out _).trans (((cell_far (p:=⟨gb102,_,none⟩) NB117_102.out _).trans (hHeld.2.1)))))))),((cell_far (p:=⟨gb102,_,none⟩) NB117_102.out _).trans (((cell_far (p:=⟨gb102,_,none⟩) NB117_102.out _).trans (((cell_far (p:=⟨gb102,_,none⟩) NB117_102.out _).trans (((cell_far (p:=⟨gb102,_,none⟩) NB117_102.out _).trans (hHeld.2.2.1)))))))),((cell_far (p:=⟨gb102,_,none⟩) NB117_102.out _).trans (((cell_far (p:=⟨gb102,_,none⟩) NB117_102.out _).trans (((cell_far (p:=⟨gb102,_,none⟩) NB117_102.out _).trans (((cell_far (p:=⟨gb102,_,none⟩) NB117_102.out _).trans (hHeld.2.2.2))))))))⟩ (fun hHeld=>?_)
  clear hK K
  refine py (i:=13) (N:=some 3) (bm 15 16383) ?_
  refine py (i:=14) (N:=some 4) (bm 15 32767) ?_
  refine done_ (done_of HT_.out k_r) ?_
  try go_wp2
  refine bodyPost_ret (results_ctt rfl _ _ gb102 59 #[.slice Ao43 t104.length co43,.slice Ao47 t107.length co47,.slice Ao48 t110.length co48,.slice Ao49 t113.length co49] (0,0) _ rfl (by (with_reducible repeat (first | refine blk_drewN ?_ _ | refine blk_drew ?_ | refine blk_alloc ?_ _));refine blk_put (cs:=#[.slice Ao43 t104.length co43,.slice Ao47 t107.length co47,.slice Ao48 t110.length co48,.slice none 0 0]) ?_ 3 _ rfl;(with_reducible repeat (first | refine blk_drewN ?_ _ | refine blk_drew ?_ | refine blk_alloc ?_ _));refine blk_put (cs:=#[.slice Ao43 t104.length co43,.slice Ao47 t107.length co47,.slice none 0 0,.slice none 0 0]) ?_ 2 _ rfl;(with_reducible repeat (first | refine blk_drewN ?_ _ | refine blk_drew ?_ | refine blk_alloc ?_ _));refine blk_put (cs:=#[.slice Ao43 t104.length co43,.slice none 0 0,.slice none 0 0,.slice none 0 0]) ?_ 1 _ rfl;(with_reducible repeat (first | refine blk_drewN ?_ _ | refine blk_drew ?_ | refine blk_alloc ?_ _));refine blk_put (cs:=#[.slice none 0 0,.slice none 0 0,.slice none 0 0,.slice none 0 0]) ?_ 0 _ rfl;(with_reducible repeat (first | refine blk_drewN ?_ _ | refine blk_drew ?_ | refine blk_alloc ?_ _));exact BK102.out) Tryz.underlying59 rfl k_r) rfl ?_
  exact ⟨_,_,_,_,aq7,by (with_reducible repeat (first | apply Kd.R_alloc | apply Kd.R_drewN | apply Kd.R_drew));exact Kd.R_mono (Kd.R_far (p:=⟨gb102,3,none⟩) (Kd.R_far (p:=⟨gb102,2,none⟩) (Kd.R_far (p:=⟨gb102,1,none⟩) (Kd.R_far (p:=⟨gb102,0,none⟩) (Kd.R_types HO106.out BK102.out d_c) (fun _ hk=>hk.2) (.slice Ao43 t104.length co43)) (fun _ hk=>hk.2) (.slice Ao47 t107.length co47)) (fun _ hk=>hk.2) (.slice Ao48 t110.length co48)) (fun _ hk=>hk.2) (.slice Ao49 t113.length co49)) (fun _ hk=>hk.1),by (with_reducible repeat (first | apply Kd.R_alloc | apply Kd.R_drewN | apply Kd.R_drew));exact Kd.R_mono (Kd.R_far (p:=⟨gb102,3,none⟩) (Kd.R_far (p:=⟨gb102,2,none⟩) (Kd.R_far (p:=⟨gb102,1,none⟩) (Kd.R_far (p:=⟨gb102,0,none⟩) (Kd.R_types HO109.out BK102.out d_c) (fun _ hk=>hk.2) (.slice Ao43 t104.length co43)) (fun _ hk=>hk.2) (.slice Ao47 t107.length co47)) (fun _ hk=>hk.2) (.slice Ao48 t110.length co48)) (fun _ hk=>hk.2) (.slice Ao49 t113.length co49)) (fun _ hk=>trivial),by (with_reducible repeat (first | apply Kd.S_alloc | apply Kd.S_drewN | apply Kd.S_drew));exact Kd.S_mono (Kd.S_far (p:=⟨gb102,3,none⟩) (Kd.S_far (p:=⟨gb102,2,none⟩) (Kd.S_far (p:=⟨gb102,1,none⟩) (Kd.S_far (p:=⟨gb102,0,none⟩) (Kd.S_types HO112.out BK102.out d_c) (fun _ hk=>hk.2) (.slice Ao43 t104.length co43)) (fun _ hk=>hk.2) (.slice Ao47 t107.length co47)) (fun _ hk=>hk.2) (.slice Ao48 t110.length co48)) (fun _ hk=>hk.2) (.slice Ao49 t113.length co49)) (fun _ hk=>hk.1.1),by (with_reducible repeat (first | apply Kd.R_alloc | apply Kd.R_drewN | apply Kd.R_drew));exact Kd.R_mono (Kd.R_far (p:=⟨gb102,3,none⟩) (Kd.R_far (p:=⟨gb102,2,none⟩) (Kd.R_far (p:=⟨gb102,1,none⟩) (Kd.R_far (p:=⟨gb102,0,none⟩) (Kd.R_types HO115.out BK102.out d_c) (fun _ hk=>hk.2) (.slice Ao43 t104.length co43)) (fun _ hk=>hk.2) (.slice Ao47 t107.length co47)) (fun _ hk=>hk.2) (.slice Ao48 t110.length co48)) (fun _ hk=>hk.2) (.slice Ao49 t113.length co49)) (fun _ hk=>hk.1),aq14⟩
 rw [if_pos c8] at H
 have c8b0:=decide_eq_true c8
 clear c8
 replace H:=gd H
 obtain ⟨c9,H⟩:=H
 have c9b0:=decide_eq_true c9
 clear c9
 replace H:=gd H
 obtain ⟨c10,H⟩:=H
 have c10b0:=decide_eq_true c10
 clear c10
 simp only [Option.some.injEq,Prod.mk.injEq] at H
 obtain ⟨rfl,rfl,rfl,rfl,rfl,rfl⟩:=H
 go_enter Tryz.func55,Tryz.ntmps55
 try go_wp2_with (first | (refine bx 1 #[.string a0_0,.string a0_1,.int .i64 a0_2] 30 ?_;intro gb101 hg w11 hbox hb;have BK101:=am (hbox);have GW101:=am ((by rw [hg];exact (below_size aq2):w.heap.size ≤ gb101));have GE101:=GW101;replace HB:=am (below_step aq2 hb);clear hb hbox hg) | (refine bx 2 #[.slice none 0 0,.slice none 0 0,.slice none 0 0,.slice none 0 0] 59 ?_;intro gb102 hg w12 hbox hb;have BK102:=am (hbox);have GW102:=am ((by rw [hg];exact (below_size aq0):w.heap.size ≤ gb102));have GE102:=GW102;replace HB:=am (below_step aq0 hb);have NB101_102:=am ((by rw [hg];exact Nat.ne_of_lt (blk_lt (g:=gb101) (o:=.cells #[.string a0_0,.string a0_1,.int .i64 a0_2] 30 (0,0)) aq1):gb101 ≠ gb102));have NB102_101:=am ((by rw [hg];exact Nat.ne_of_gt (blk_lt (g:=gb101) (o:=.cells #[.string a0_0,.string a0_1,.int .i64 a0_2] 30 (0,0)) aq1):gb102 ≠ gb101));replace BK101:=am (bb BK101 hb);clear hb hbox hg;have hnb13:=NB101_102.out;have hnc13:=NB102_101.out;obtain ⟨hcz14_0,hcz14_1,hcz14_2,hfz14_0,hfz14_1,hfz14_2⟩:=blk3_ BK101.out) | ((with_reducible refine gate_callee (f:=94) rfl ?_);refine goesL_ (some 9) rfl rfl Tryz.func94 k_r rfl #[.agg #[.string a0_0,.string a0_1,.int .i64 a0_2]] rfl aq4 ?_;(with_reducible refine (impl_IsPuzzle.calls k a0_0 a0_1 a0_2 true _ A2.out).mono ?_);rintro e w15 ⟨rfl,hb⟩;refine ⟨_,rfl,?_⟩;replace BK101:=am (bb BK101 hb);replace BK102:=am (bb BK102 hb);replace HB:=am (below_step aq3 hb);(try clear hb);obtain ⟨hcz16_0,hcz16_1,hcz16_2,hfz16_0,hfz16_1,hfz16_2⟩:=blk3_ BK101.out) | ((with_reducible refine gate_callee (f:=74) rfl ?_);refine goesL_ (some 15) rfl rfl Tryz.func74 k_r rfl #[.string a0_0] rfl aq4 ?_;(with_reducible refine (impl_reachOf.calls a0_0 t104 t107 t110 t113 true _ A4.out).mono ?_);rintro e w17 ⟨v105,v108,v111,v114,rfl,ho0,ho1,ho2,ho3,hb⟩;refine ⟨_,rfl,?_⟩;have HO106:=am (Kd.R_lower ho0 (below_size aq3));have HO109:=am (Kd.R_lower ho1 (below_size aq3));have HO112:=am (Kd.S_lower ho2 (below_size aq3));have HO115:=am (Kd.R_lower ho3 (below_size aq3));replace BK101:=am (bb BK101 hb);replace BK102:=am (bb BK102 hb);replace HB:=am (below_step aq3 hb);(try clear hb);(try clear ho0);(try clear ho1);(try clear ho2);(try clear ho3)) | (refine bx 5 #[.slice none 0 0,.slice none 0 0,.slice none 0 0,.slice none 0 0] 59 ?_;intro gb117 hg w18 hbox hb;replace HO106:=am (Kd.R_below aq15 hb);replace HO109:=am (Kd.R_below aq30 hb);replace HO112:=am (Kd.S_below aq28 hb);replace HO115:=am (Kd.R_below aq29 hb);have BK117:=am (hbox);have GW117:=am ((by rw [hg];exact (below_size aq3):w.heap.size ≤ gb117));have GE117:=GW117;replace HB:=am (below_step aq3 hb);have NB101_117:=am ((by rw [hg];exact Nat.ne_of_lt (blk_lt (g:=gb101) (o:=.cells #[.string a0_0,.string a0_1,.int .i64 a0_2] 30 (0,0)) aq1):gb101 ≠ gb117));have NB117_101:=am ((by rw [hg];exact Nat.ne_of_gt (blk_lt (g:=gb101) (o:=.cells #[.string a0_0,.string a0_1,.int .i64 a0_2] 30 (0,0)) aq1):gb117 ≠ gb101));replace BK101:=am (bb BK101 hb);have NB102_117:=am ((by rw [hg];exact Nat.ne_of_lt (blk_lt (g:=gb102) (o:=.cells #[.slice none 0 0,.slice none 0 0,.slice none 0 0,.slice none 0 0] 59 (0,0)) aq9):gb102 ≠ gb117));have NB117_102:=am ((by rw [hg];exact Nat.ne_of_gt (blk_lt (g:=gb102) (o:=.cells #[.slice none 0 0,.slice none 0 0,.slice none 0 0,.slice none 0 0] 59 (0,0)) aq9):gb117 ≠ gb102));replace BK102:=am (bb BK102 hb);clear hb hbox hg;obtain ⟨Ao19,co19,eo19⟩:=Kd.R_slice HO106.out;subst eo19;have hnb20:=NB117_101.out;have hnc20:=NB101_117.out;have hnb21:=NB117_102.out;have hnc21:=NB102_117.out;obtain ⟨hcz22_0,hcz22_1,hcz22_2,hcz22_3,hfz22_0,hfz22_1,hfz22_2,hfz22_3⟩:=blk4_ BK117.out;obtain ⟨Ao23,co23,eo23⟩:=Kd.R_slice HO109.out;subst eo23;obtain ⟨Ao24,co24,eo24⟩:=Kd.S_slice HO112.out;subst eo24;obtain ⟨Ao25,co25,eo25⟩:=Kd.R_slice HO115.out;subst eo25))
 have n0_:Aside0 (Kd.R Kd.string 9 ((((w18.setCell ⟨gb117,0,none⟩ (.slice Ao19 t104.length co19)).setCell ⟨gb117,1,none⟩ (.slice Ao23 t107.length co23)).setCell ⟨gb117,2,none⟩ (.slice Ao24 t110.length co24)).setCell ⟨gb117,3,none⟩ (.slice Ao25 t113.length co25)) w.heap.size (fun k_=>some k_ ≠ (.slice Ao25 t113.length co25:Value).ownBlock) (.slice Ao19 t104.length co19) t104):=⟨by (with_reducible repeat (first | apply Kd.R_alloc | apply Kd.R_drewN | apply Kd.R_drew));exact Kd.R_mono (Kd.R_far (p:=⟨gb117,3,none⟩) (Kd.R_far (p:=⟨gb117,2,none⟩) (Kd.R_far (p:=⟨gb117,1,none⟩) (Kd.R_far (p:=⟨gb117,0,none⟩) (Kd.R_types HO106.out BK117.out d_c) (fun _ hk=>hk.2) (.slice Ao19 t104.length co19)) (fun _ hk=>hk.2) (.slice Ao23 t107.length co23)) (fun _ hk=>hk.2) (.slice Ao24 t110.length co24)) (fun _ hk=>hk.2) (.slice Ao25 t113.length co25)) (fun _ hk=>hk.1)⟩
 have n1_:Aside0 (Kd.R (Kd.int .i64) 3 ((((w18.setCell ⟨gb117,0,none⟩ (.slice Ao19 t104.length co19)).setCell ⟨gb117,1,none⟩ (.slice Ao23 t107.length co23)).setCell ⟨gb117,2,none⟩ (.slice Ao24 t110.length co24)).setCell ⟨gb117,3,none⟩ (.slice Ao25 t113.length co25)) w.heap.size (fun _=>True) (.slice Ao23 t107.length co23) t107):=⟨by (with_reducible repeat (first | apply Kd.R_alloc | apply Kd.R_drewN | apply Kd.R_drew));exact Kd.R_mono (Kd.R_far (p:=⟨gb117,3,none⟩) (Kd.R_far (p:=⟨gb117,2,none⟩) (Kd.R_far (p:=⟨gb117,1,none⟩) (Kd.R_far (p:=⟨gb117,0,none⟩) (Kd.R_types HO109.out BK117.out d_c) (fun _ hk=>hk.2) (.slice Ao19 t104.length co19)) (fun _ hk=>hk.2) (.slice Ao23 t107.length co23)) (fun _ hk=>hk.2) (.slice Ao24 t110.length co24)) (fun _ hk=>hk.2) (.slice Ao25 t113.length co25)) (fun _ hk=>trivial)⟩
 have n2_:Aside0 (Kd.S (Kd.slice 3 (Kd.int .i64)) 40 ((((w18.setCell ⟨gb117,0,none⟩ (.slice Ao19 t104.length co19)).setCell ⟨gb117,1,none⟩ (.slice Ao23 t107.length co23)).setCell ⟨gb117,2,none⟩ (.slice Ao24 t110.length co24)).setCell ⟨gb117,3,none⟩ (.slice Ao25 t113.length co25)) w.heap.size (fun k_=>some k_ ≠ (.slice Ao23 t107.length co23:Value).ownBlock) (.slice Ao24 t110.length co24) t110):=⟨by (with_reducible repeat (first | apply Kd.S_alloc | apply Kd.S_drewN | apply Kd.S_drew));exact Kd.S_mono (Kd.S_far (p:=⟨gb117,3,none⟩) (Kd.S_far (p:=⟨gb117,2,none⟩) (Kd.S_far (p:=⟨gb117,1,none⟩) (Kd.S_far (p:=⟨gb117,0,none⟩) (Kd.S_types HO112.out BK117.out d_c) (fun _ hk=>hk.2) (.slice Ao19 t104.length co19)) (fun _ hk=>hk.2) (.slice Ao23 t107.length co23)) (fun _ hk=>hk.2) (.slice Ao24 t110.length co24)) (fun _ hk=>hk.2) (.slice Ao25 t113.length co25)) (fun _ hk=>hk.1)⟩
 have n3_:Aside0 (Kd.R Kd.string 9 ((((w18.setCell ⟨gb117,0,none⟩ (.slice Ao19 t104.length co19)).setCell ⟨gb117,1,none⟩ (.slice Ao23 t107.length co23)).setCell ⟨gb117,2,none⟩ (.slice Ao24 t110.length co24)).setCell ⟨gb117,3,none⟩ (.slice Ao25 t113.length co25)) w.heap.size (fun k_=>some k_ ≠ (.slice Ao19 t104.length co19:Value).ownBlock) (.slice Ao25 t113.length co25) t113):=⟨by (with_reducible repeat (first | apply Kd.R_alloc | apply Kd.R_drewN | apply Kd.R_drew));exact Kd.R_mono (Kd.R_far (p:=⟨gb117,3,none⟩) (Kd.R_far (p:=⟨gb117,2,none⟩) (Kd.R_far (p:=⟨gb117,1,none⟩) (Kd.R_far (p:=⟨gb117,0,none⟩) (Kd.R_types HO115.out BK117.out d_c) (fun _ hk=>hk.2) (.slice Ao19 t104.length co19)) (fun _ hk=>hk.2) (.slice Ao23 t107.length co23)) (fun _ hk=>hk.2) (.slice Ao24 t110.length co24)) (fun _ hk=>hk.2) (.slice Ao25 t113.length co25)) (fun _ hk=>hk.1)⟩
 have n4_:Aside0 (((((w18.setCell ⟨gb117,0,none⟩ (.slice Ao19 t104.length co19)).setCell ⟨gb117,1,none⟩ (.slice Ao23 t107.length co23)).setCell ⟨gb117,2,none⟩ (.slice Ao24 t110.length co24)).setCell ⟨gb117,3,none⟩ (.slice Ao25 t113.length co25)).heap[gb101]? = some (.cells #[.string a0_0,.string a0_1,.int .i64 a0_2] 30 (0,0))):=⟨aq35⟩
 have n5_:Aside0 (((((w18.setCell ⟨gb117,0,none⟩ (.slice Ao19 t104.length co19)).setCell ⟨gb117,1,none⟩ (.slice Ao23 t107.length co23)).setCell ⟨gb117,2,none⟩ (.slice Ao24 t110.length co24)).setCell ⟨gb117,3,none⟩ (.slice Ao25 t113.length co25)).heap[gb102]? = some (.cells #[.slice none 0 0,.slice none 0 0,.slice none 0 0,.slice none 0 0] 59 (0,0))):=⟨aq34⟩
 have n6_:Aside0 (((((w18.setCell ⟨gb117,0,none⟩ (.slice Ao19 t104.length co19)).setCell ⟨gb117,1,none⟩ (.slice Ao23 t107.length co23)).setCell ⟨gb117,2,none⟩ (.slice Ao24 t110.length co24)).setCell ⟨gb117,3,none⟩ (.slice Ao25 t113.length co25)).heap[gb117]? = some (.cells #[.slice Ao19 t104.length co19,.slice Ao23 t107.length co23,.slice Ao24 t110.length co24,.slice Ao25 t113.length co25] 59 (0,0))):=⟨by (with_reducible repeat (first | refine blk_drewN ?_ _ | refine blk_drew ?_ | refine blk_alloc ?_ _));refine blk_put (cs:=#[.slice Ao19 t104.length co19,.slice Ao23 t107.length co23,.slice Ao24 t110.length co24,.slice none 0 0]) ?_ 3 _ rfl;(with_reducible repeat (first | refine blk_drewN ?_ _ | refine blk_drew ?_ | refine blk_alloc ?_ _));refine blk_put (cs:=#[.slice Ao19 t104.length co19,.slice Ao23 t107.length co23,.slice none 0 0,.slice none 0 0]) ?_ 2 _ rfl;(with_reducible repeat (first | refine blk_drewN ?_ _ | refine blk_drew ?_ | refine blk_alloc ?_ _));refine blk_put (cs:=#[.slice Ao19 t104.length co19,.slice none 0 0,.slice none 0 0,.slice none 0 0]) ?_ 1 _ rfl;(with_reducible repeat (first | refine blk_drewN ?_ _ | refine blk_drew ?_ | refine blk_alloc ?_ _));refine blk_put (cs:=#[.slice none 0 0,.slice none 0 0,.slice none 0 0,.slice none 0 0]) ?_ 0 _ rfl;(with_reducible repeat (first | refine blk_drewN ?_ _ | refine blk_drew ?_ | refine blk_alloc ?_ _));exact BK117.out⟩
 have n7_:Aside0 (Below w.heap.size w ((((w18.setCell ⟨gb117,0,none⟩ (.slice Ao19 t104.length co19)).setCell ⟨gb117,1,none⟩ (.slice Ao23 t107.length co23)).setCell ⟨gb117,2,none⟩ (.slice Ao24 t110.length co24)).setCell ⟨gb117,3,none⟩ (.slice Ao25 t113.length co25))):=⟨aq14⟩
 (try clear HO106)
 (try clear HO109)
 (try clear HO112)
 (try clear HO115)
 (try clear BK101)
 (try clear BK102)
 (try clear BK117)
 (try clear HB)
 generalize ((((w18.setCell ⟨gb117,0,none⟩ (.slice Ao19 t104.length co19)).setCell ⟨gb117,1,none⟩ (.slice Ao23 t107.length co23)).setCell ⟨gb117,2,none⟩ (.slice Ao24 t110.length co24)).setCell ⟨gb117,3,none⟩ (.slice Ao25 t113.length co25)) = w26 at n0_ n1_ n2_ n3_ n4_ n5_ n6_ n7_ ⊢
 have HO106:=n0_
 have HO109:=n1_
 have HO112:=n2_
 have HO115:=n3_
 have BK101:=n4_
 have BK102:=n5_
 have BK117:=n6_
 have HB:=n7_
 clear n0_ n1_ n2_ n3_ n4_ n5_ n6_ n7_
 replace HO106:=am (Kd.R_drew HO106.out)
 replace HO109:=am (Kd.R_drew HO109.out)
 replace HO112:=am (Kd.S_drew HO112.out)
 replace HO115:=am (Kd.R_drew HO115.out)
 replace BK101:=am (blk_drew BK101.out)
 replace BK102:=am (blk_drew BK102.out)
 replace BK117:=am (blk_drew BK117.out)
 replace HB:=am (below_drew1 HB.out)
 refine start_ (n:=8) (S:=fun w'=>w'.cell? ⟨gb117,0,none⟩ = some (.slice Ao19 t104.length co19) ∧ w'.cell? ⟨gb117,1,none⟩ = some (.slice Ao23 t107.length co23) ∧ w'.cell? ⟨gb117,2,none⟩ = some (.slice Ao24 t110.length co24) ∧ w'.cell? ⟨gb117,3,none⟩ = some (.slice Ao25 t113.length co25) ∧ w'.cell? ⟨gb101,0,none⟩ = some (.string a0_0) ∧ w'.cell? ⟨gb101,1,none⟩ = some (.string a0_1) ∧ w'.cell? ⟨gb101,2,none⟩ = some (.int .i64 a0_2)) (ds:=[]) (bm 8 0) k_r rfl rfl ⟨bk BK117 0,bk BK117 1,bk BK117 2,bk BK117 3,bk BK101 0,bk BK101 1,bk BK101 2⟩ (fun hHeld=>?_);refine with_tabW impl_solution.tab6 impl_solution.bits6 (fun HT_ HW_=>?_)
 generalize w26.drew = w27 at HO106 HO109 HO112 HO115 BK101 BK102 BK117 HB hHeld ⊢
 refine py (i:=1) (N:=some 22) (bm 8 2) ?_
 refine py (i:=4) (N:=some 25) (bm 8 18) ?_
 refine tk7 (i:=0) (N:=some 21) (bm 8 19) hHeld ?_
 refine tk7 (i:=2) (N:=some 23) (bm 8 23) hHeld ?_
 refine tk7 (i:=5) (N:=some 26) (bm 8 55) hHeld ?_
 refine one_ (i:=3) (N:=some 24) (bm 8 63) rfl rfl (one_of HT_.out k_r) d_c (fun K hK=>?_)
 refine goes_ Tryz.func50 k_r rfl #[.agg #[.slice Ao19 t104.length co19,.slice Ao23 t107.length co23,.slice Ao24 t110.length co24,.slice Ao25 t113.length co25],.string a0_1] (by rfl) rfl rfl aq4 ?_
 with_reducible refine (impl_reach_cells.calls k _ _ t104 _ _ t107 _ _ t110 _ _ t113 a0_1 t118 _ ?side1 ?side2 ?side3 ?side4 ?side5 ?side6 ?side7 ?side8 A6.out).mono ?_
 (case side1=>exact aq24)
 (case side2=>exact aq85)
 (case side3=>exact aq73)
 (case side4=>exact (Kd.R_reads' HO109.out).2.1)
 (case side5=>exact aq70)
 (case side6=>exact (Kd.S_reads' HO112.out).2.1)
 (case side7=>exact aq72)
 (case side8=>exact (Kd.R_reads' HO115.out).2.1)
 rintro e w28 ⟨v119,rfl,ho0,hb⟩
 refine ⟨_,rfl,?_⟩
 replace HO106:=am (Kd.R_below aq15 hb)
 replace HO112:=am (Kd.S_elder' aq28 (Kd.R_base ho0) hb)
 replace HO115:=am (Kd.R_below aq29 hb)
 have HO120:=am (Kd.R_lower (Kd.R_new' ho0 (Kd.R_lt aq30)) (below_size aq14))
 replace HO109:=am (Kd.R_elder' aq30 (Kd.R_base ho0) hb)
 replace BK101:=am (bb BK101 hb)
 replace BK102:=am (bb BK102 hb)
 replace BK117:=am (bb BK117 hb)
 replace HB:=am (below_step aq14 hb)
 (try clear hb)
 (try clear ho0)
 obtain ⟨Ao29,co29,eo29⟩:=Kd.R_slice HO120.out
 (first | subst eo29 | (injection eo29 with f1_ f2_ f3_;have f4_:=f1_.symm;have f5_:=f3_.symm;clear f1_ f2_ f3_;subst f4_;subst f5_))
 refine hK.out _ _ ⟨bk BK117 0,bk BK117 1,bk BK117 2,bk BK117 3,bk BK101 0,bk BK101 1,bk BK101 2⟩ (fun hHeld=>?_)
 clear hK K
 refine nm (some 24) ?_
 refine one_ (i:=6) (N:=some 27) (bm 8 127) rfl rfl (one_of HT_.out k_r) d_c (fun K hK=>?_)
 refine goes_ Tryz.func52 k_r rfl #[.slice Ao29 t118.length co29,.int .i64 a0_2] (by rfl) rfl rfl aq4 ?_
 with_reducible refine (slices_Index_int_int.calls k _ _ t118 a0_2 t121 _ ?side1 ?side2 A7.out).mono ?_
 (case side1=>exact aq71)
 (case side2=>exact (Kd.R_reads' HO120.out).2.1)
 rintro e w' ⟨rfl,⟨nd,rfl⟩⟩
 refine ⟨_,rfl,?_⟩
 refine hK.out _ _ ⟨bk BK117 0,bk BK117 1,bk BK117 2,bk BK117 3,bk BK101 0,bk BK101 1,bk BK101 2⟩ (fun hHeld=>?_)
 clear hK K
 refine nm (some 27) ?_
 refine py (i:=7) (N:=some 7) (bm 8 255) ?_
 refine done_ (done_of HT_.out k_r) ?_
 try go_wp2
 (try (rw [drewN_self w28];generalize hq_:World.drewN w28 _ = w28;have n0_:Aside0 (Kd.R Kd.string 9 w28 w.heap.size (fun k_=>some k_ ≠ (.slice Ao25 t113.length co25:Value).ownBlock) (.slice Ao19 t104.length co19) t104):=⟨by rw [← hq_];exact aq15⟩;have n1_:Aside0 (Kd.R (Kd.int .i64) 3 w28 w.heap.size (fun k_=>some k_ ≠ (.slice Ao29 t118.length co29:Value).ownBlock) (.slice Ao23 t107.length co23) t107):=⟨aq75⟩;have n2_:Aside0 (Kd.S (Kd.slice 3 (Kd.int .i64)) 40 w28 w.heap.size (fun k_=>some k_ ≠ (.slice Ao23 t107.length co23:Value).ownBlock ∧ some k_ ≠ (.slice Ao29 t118.length co29:Value).ownBlock) (.slice Ao24 t110.length co24) t110):=⟨by rw [← hq_];exact aq28⟩;have n3_:Aside0 (Kd.R Kd.string 9 w28 w.heap.size (fun k_=>some k_ ≠ (.slice Ao19 t104.length co19:Value).ownBlock) (.slice Ao25 t113.length co25) t113):=⟨by rw [← hq_];exact aq29⟩;have n4_:Aside0 (Kd.R (Kd.int .i64) 3 w28 w.heap.size (fun k_=>some k_ ≠ (.slice Ao23 t107.length co23:Value).ownBlock) (.slice Ao29 t118.length co29) t118):=⟨aq74⟩;have n5_:Aside0 (w28.heap[gb101]? = some (.cells #[.string a0_0,.string a0_1,.int .i64 a0_2] 30 (0,0))):=⟨by rw [← hq_];exact aq1⟩;have n6_:Aside0 (w28.heap[gb102]? = some (.cells #[.slice none 0 0,.slice none 0 0,.slice none 0 0,.slice none 0 0] 59 (0,0))):=⟨by rw [← hq_];exact aq9⟩;have n7_:Aside0 (w28.heap[gb117]? = some (.cells #[.slice Ao19 t104.length co19,.slice Ao23 t107.length co23,.slice Ao24 t110.length co24,.slice Ao25 t113.length co25] 59 (0,0))):=⟨by rw [← hq_];exact aq46⟩;have n8_:Aside0 (Below w.heap.size w w28):=⟨by rw [← hq_];exact aq14⟩;clear HO106 HO109 HO112 HO115 HO120 BK101 BK102 BK117 HB hq_;have HO106:=n0_;have HO109:=n1_;have HO112:=n2_;have HO115:=n3_;have HO120:=n4_;have BK101:=n5_;have BK102:=n6_;have BK117:=n7_;have HB:=n8_;clear n0_ n1_ n2_ n3_ n4_ n5_ n6_ n7_ n8_))
 replace HO106:=am (Kd.R_drew HO106.out)
 replace HO109:=am (Kd.R_drew HO109.out)
 replace HO112:=am (Kd.S_drew HO112.out)
 replace HO115:=am (Kd.R_drew HO115.out)
 replace HO120:=am (Kd.R_drew HO120.out)
 replace BK101:=am (blk_drew BK101.out)
 replace BK102:=am (blk_drew BK102.out)
 replace BK117:=am (blk_drew BK117.out)
 replace HB:=am (below_drew1 HB.out)
 have p122:0 ≤ (t121:Int):=of_decide_eq_true aq6
 have q122:t121 < (t107.length:Int):=of_decide_eq_true aq6
 obtain ⟨ad122,e122,hx122_0⟩:=Kd.at_int (Kd.R_reads' HO109.out).2.2 t121 p122 q122
 cases e122
 replace p122:=eq_true p122
 replace q122:=eq_true q122
 refine start_ (n:=15) (S:=fun w'=>w'.cell? ⟨gb117,0,none⟩ = some (.slice Ao19 t104.length co19) ∧ w'.cell? ⟨gb117,1,none⟩ = some (.slice (some ad122) t107.length co23) ∧ w'.cell? ⟨gb117,2,none⟩ = some (.slice Ao24 t110.length co24) ∧ w'.cell? ⟨gb117,3,none⟩ = some (.slice Ao25 t113.length co25) ∧ w'.cell? (ad122.add (t121).toNat) = some (.int .i64 (rd t107 t121))) (ds:=[]) (bm 15 0) k_r rfl rfl ⟨bk BK117 0,bk BK117 1,bk BK117 2,bk BK117 3,hx122_0⟩ (fun hHeld=>?_);refine with_tabW impl_solution.tab7 impl_solution.bits7 (fun HT_ HW_=>?_)
 generalize w28.drew = w30 at HO106 HO109 HO112 HO115 HO120 BK101 BK102 BK117 HB hx122_0 hHeld ⊢
 refine py (i:=1) (N:=some 29) (bm 15 2) ?_
 refine py (i:=2) (N:=some 30) (bm 15 6) ?_
 refine py (i:=3) (N:=some 31) (bm 15 14) ?_
 refine py (i:=4) (N:=some 32) (bm 15 30) ?_
 refine py (i:=5) (N:=some 33) (bm 15 62) ?_
 refine py (i:=7) (N:=some 35) (bm 15 190) ?_
 refine tk5 (i:=0) (N:=some 28) (bm 15 191) hHeld ?_
 refine tk5 (i:=6) (N:=some 34) (bm 15 255) hHeld ?_
 refine py (i:=8) (N:=some 36) (bm 15 511) ?_
 refine tk5 (i:=9) (N:=some 37) (bm 15 1023) hHeld ?_
 refine py (i:=10) (N:=some 38) (bm 15 2047) ?_
 refine py (i:=11) (N:=some 39) (bm 15 4095) ?_
 refine one_ (i:=12) (N:=none) (bm 15 8191) rfl rfl (one_of HT_.out k_r) d_c (fun K hK=>?_)
 have hs31:w30.cell? ⟨gb102,0,none⟩ = some (.slice none 0 0):=(blk_cell BK102.out 0).trans rfl
 have hfs31:=blk_frozen BK102.out 0
 have hns31_0:=NB101_102.out
 have hns31_2:=NB117_102.out
 have hms31_0:=NB102_101.out
 have hms31_2:=NB102_117.out
 have hs32:w30.cell? ⟨gb102,1,none⟩ = some (.slice none 0 0):=(blk_cell BK102.out 1).trans rfl
 have hfs32:=blk_frozen BK102.out 1
 have hns32_0:=NB101_102.out
 have hns32_2:=NB117_102.out
 have hms32_0:=NB102_101.out
 have hms32_2:=NB102_117.out
 have hs33:w30.cell? ⟨gb102,2,none⟩ = some (.slice none 0 0):=(blk_cell BK102.out 2).trans rfl
 have hfs33:=blk_frozen BK102.out 2
 have hns33_0:=NB101_102.out
 have hns33_2:=NB117_102.out
 have hms33_0:=NB102_101.out
 have hms33_2:=NB102_117.out
 have hs34:w30.cell? ⟨gb102,3,none⟩ = some (.slice none 0 0):=(blk_cell BK102.out 3).trans rfl
 have hfs34:=blk_frozen BK102.out 3
 have hns34_0:=NB101_102.out
 have hns34_2:=NB117_102.out
 have hms34_0:=NB102_101.out
 have hms34_2:=NB102_117.out
 refine skip_ (w1:=?_) (by rfl) rfl ?_ ?_
 rotate_left
 ·go_simp
  rfl
 refine hK.out _ _ ⟨((cell_far (p:=⟨gb102,_,none⟩) NB117_102.out _).trans (((cell_far (p:=⟨gb102,_,none⟩) NB117_102.out _).trans (((cell_far (p:=⟨gb102,_,none⟩) NB117_102.out _).trans (((cell_far (p:=⟨gb102,_,none⟩) NB117_102.out _).trans (hHeld.1)))))))),((cell_far (p:=⟨gb102,_,none⟩) NB117_102.out _).trans (((cell_far (p:=⟨gb102,_,none⟩) NB117_102.out _).trans (((cell_far (p:=⟨gb102,_,none⟩) NB117_102.out _).trans (((cell_far (p:=⟨gb102,_,none⟩) NB117_102.out _).trans (hHeld.2.1)))))))),((cell_far (p:=⟨gb102,_,none⟩) NB117_102.out _).trans (((cell_far (p:=⟨gb102,_,none⟩) NB117_102.out _).trans (((cell_far (p:=⟨gb102,_,none⟩) NB117_102.out _).trans (((cell_far (p:=⟨gb102,_,none⟩) NB117_102.out _).trans (hHeld.2.2.1)))))))),((cell_far (p:=⟨gb102,_,none⟩) NB117_102.out _).trans (((cell_far (p:=⟨gb102,_,none⟩) NB117_102.out _).trans (((cell_far (p:=⟨gb102,_,none⟩) NB117_102.out _).trans (((cell_far (p:=⟨gb102,_,none⟩) NB117_102.out _).trans (hHeld.2.2.2.1)))))))),((cell_far (p:=⟨gb102,_,none⟩) aq23 _).trans (((cell_far (p:=⟨gb102,_,none⟩) aq23 _).trans (((cell_far (p:=⟨gb102,_,none⟩) aq23 _).trans (((cell_far (p:=⟨gb102,_,none⟩) aq23 _).trans (hHeld.2.2.2.2))))))))⟩ (fun hHeld=>?_)
 clear hK K
 refine py (i:=13) (N:=some 3) (bm 15 16383) ?_
 refine py (i:=14) (N:=some 4) (bm 15 32767) ?_
 refine done_ (done_of HT_.out k_r) ?_
 try go_wp2
 refine bodyPost_ret (results_ctt rfl _ _ gb102 59 #[.slice Ao19 t104.length co19,.slice (some ad122) t107.length co23,.slice Ao24 t110.length co24,.slice Ao25 t113.length co25] (0,0) _ rfl (by (with_reducible repeat (first | refine blk_drewN ?_ _ | refine blk_drew ?_ | refine blk_alloc ?_ _));refine blk_put (cs:=#[.slice Ao19 t104.length co19,.slice (some ad122) t107.length co23,.slice Ao24 t110.length co24,.slice none 0 0]) ?_ 3 _ rfl;(with_reducible repeat (first | refine blk_drewN ?_ _ | refine blk_drew ?_ | refine blk_alloc ?_ _));refine blk_put (cs:=#[.slice Ao19 t104.length co19,.slice (some ad122) t107.length co23,.slice none 0 0,.slice none 0 0]) ?_ 2 _ rfl;(with_reducible repeat (first | refine blk_drewN ?_ _ | refine blk_drew ?_ | refine blk_alloc ?_ _));refine blk_put (cs:=#[.slice Ao19 t104.length co19,.slice none 0 0,.slice none 0 0,.slice none 0 0]) ?_ 1 _ rfl;(with_reducible repeat (first | refine blk_drewN ?_ _ | refine blk_drew ?_ | refine blk_alloc ?_ _));refine blk_put (cs:=#[.slice none 0 0,.slice none 0 0,.slice none 0 0,.slice none 0 0]) ?_ 0 _ rfl;(with_reducible repeat (first | refine blk_drewN ?_ _ | refine blk_drew ?_ | refine blk_alloc ?_ _));exact BK102.out) Tryz.underlying59 rfl k_r) rfl ?_
 exact ⟨_,_,_,_,aq7,by (with_reducible repeat (first | apply Kd.R_alloc | apply Kd.R_drewN | apply Kd.R_drew));exact Kd.R_mono (Kd.R_far (p:=⟨gb102,3,none⟩) (Kd.R_far (p:=⟨gb102,2,none⟩) (Kd.R_far (p:=⟨gb102,1,none⟩) (Kd.R_far (p:=⟨gb102,0,none⟩) (Kd.R_types HO106.out BK102.out d_c) (fun _ hk=>hk.2) (.slice Ao19 t104.length co19)) (fun _ hk=>hk.2) (.slice (some ad122) t107.length co23)) (fun _ hk=>hk.2) (.slice Ao24 t110.length co24)) (fun _ hk=>hk.2) (.slice Ao25 t113.length co25)) (fun _ hk=>hk.1),by (with_reducible repeat (first | apply Kd.R_alloc | apply Kd.R_drewN | apply Kd.R_drew));exact Kd.R_mono (Kd.R_far (p:=⟨gb102,3,none⟩) (Kd.R_far (p:=⟨gb102,2,none⟩) (Kd.R_far (p:=⟨gb102,1,none⟩) (Kd.R_far (p:=⟨gb102,0,none⟩) (Kd.R_types HO109.out BK102.out d_c) (fun _ hk=>hk.2) (.slice Ao19 t104.length co19)) (fun _ hk=>hk.2) (.slice (some ad122) t107.length co23)) (fun _ hk=>hk.2) (.slice Ao24 t110.length co24)) (fun _ hk=>hk.2) (.slice Ao25 t113.length co25)) (fun _ hk=>trivial),by (with_reducible repeat (first | apply Kd.S_alloc | apply Kd.S_drewN | apply Kd.S_drew));exact Kd.S_mono (Kd.S_far (p:=⟨gb102,3,none⟩) (Kd.S_far (p:=⟨gb102,2,none⟩) (Kd.S_far (p:=⟨gb102,1,none⟩) (Kd.S_far (p:=⟨gb102,0,none⟩) (Kd.S_types HO112.out BK102.out d_c) (fun _ hk=>hk.2) (.slice Ao19 t104.length co19)) (fun _ hk=>hk.2) (.slice (some ad122) t107.length co23)) (fun _ hk=>hk.2) (.slice Ao24 t110.length co24)) (fun _ hk=>hk.2) (.slice Ao25 t113.length co25)) (fun _ hk=>hk.1.1),by (with_reducible repeat (first | apply Kd.R_alloc | apply Kd.R_drewN | apply Kd.R_drew));exact Kd.R_mono (Kd.R_far (p:=⟨gb102,3,none⟩) (Kd.R_far (p:=⟨gb102,2,none⟩) (Kd.R_far (p:=⟨gb102,1,none⟩) (Kd.R_far (p:=⟨gb102,0,none⟩) (Kd.R_types HO115.out BK102.out d_c) (fun _ hk=>hk.2) (.slice Ao19 t104.length co19)) (fun _ hk=>hk.2) (.slice (some ad122) t107.length co23)) (fun _ hk=>hk.2) (.slice Ao24 t110.length co24)) (fun _ hk=>hk.2) (.slice Ao25 t113.length co25)) (fun _ hk=>hk.1),aq14⟩
end Go.Proofs.YtldhkbiomingbaaGreatDoor.F

namespace Go.Proofs.YtldhkbiomingbaaGreatDoor.F
open Go.Proofs.YtldhkbiomingbaaGreatDoor
open Go.RowKit Go.YW.PrintWords Go.YW.PrintMore
theorem placeI_read {w h:Nat} {c:List Int} (v:Vg (w,h,c)):impl_read.f (textB (w,h,c)) = some ((w:Int),(h:Int),c):=impl_read_eq _ (grid_textB v)
theorem cells_l0 {w h:Nat} {s:RS} {n:ByteArray} (hn:n.size = 1) (hv:∀ c ∈ s.T,Vg (w,h,c)) (hl:s.T.length ≤ 300):∀ (d i:Nat),i + d = s.T.length →
  Ev (fun k=>impl_reach_cells.l0 k n ((cellsI s (bt n 0)).take i) (rT w h s) ((rT w h s).length:Int) i) (cellsI s (bt n 0))
 | 0,i,hi=>by
  refine Ev.step (f:=fun _=>some (cellsI s (bt n 0))) (fun k=>?_) (Ev.now _)
  rw [impl_reach_cells.l0,if_neg (by rw [rT_len];omega),List.take_of_length_le (by rw [cellsI_len];omega)]
 | d + 1,i,hi=>by
  have hlt:i < s.T.length:=by omega
  have ih:=cells_l0 hn hv hl d (i + 1) o_m
  have hvi:=hv _ (getD_mem (d:=([]:List Int)) hlt)
  have hrd:rdOf ByteArray.empty (rT w h s) (i:Int) = textB (w,h,s.T.getD i []):=by
   unfold rdOf rT
   rw [Int.toNat_natCast,List.getD_eq_getElem?_getD,List.getElem?_map,List.getElem?_eq_getElem hlt,getD_lt hlt];rfl
  have hll:=(tray_small hvi).2
  simp only at hll
  have hix:=index_l0 (cs:=s.T.getD i []) o_m (bt n 0) _ 0 (Nat.zero_add _) (fun j hj=>by omega)
  have htk:(cellsI s (bt n 0)).take i ++ [placeI (bt n 0) (s.T.getD i [])] = (cellsI s (bt n 0)).take (i + 1):=by
   rw [List.take_succ_eq_append_getElem (by rw [cellsI_len];exact hlt),← cellsI_get s (bt n 0) hlt,getD_lt (by rw [cellsI_len];exact hlt)]
  refine Ev.step (f:=fun k=>(slices_Index_byte_byte.f k (s.T.getD i []) (bt n 0)).bind fun t111=>(if ((cellsI s (bt n 0)).take i).length < 17592186044416 then (impl_reach_cells.l0 k n ((cellsI s (bt n 0)).take i ++ [t111]) (rT w h s) ((rT w h s).length:Int) (wrap64 ((i:Int) + 1))) else none)) (fun k=>?_) ?_
  ·rw [impl_reach_cells.l0,if_pos (by rw [rT_len];omega),if_pos o_m,if_pos (by rw [rT_len];omega),hrd,placeI_read hvi,Option.bind_some,if_pos o_m]
  ·refine Ev.bind hix (Ev.congr (fun k=>?_) ih)
   rw [if_pos (by rw [List.length_take];omega)]
   show impl_reach_cells.l0 k n (_ ++ [placeI (bt n 0) (s.T.getD i [])]) _ _ _ = _
   rw [htk,show (i:Int) + 1 = ((i + 1:Nat):Int) by omega,w64t o_m]
theorem cells_ev {w h:Nat} {s:RS} {n:ByteArray} (hn:n.size = 1) (hv:∀ c ∈ s.T,Vg (w,h,c)) (hl:s.T.length ≤ 300) (l1:List Int) (l2:List (List Int)) (l3:List ByteArray) :
  Ev (fun k=>impl_reach_cells.f k (rT w h s) l1 l2 l3 n) (cellsI s (bt n 0)):=cells_l0 hn hv hl s.T.length 0 (Nat.zero_add _)
theorem indexI_l0 {l:List Int} (hl:l.length ≤ 1000) (c:Int):∀ (d i:Nat),i + d = l.length → (∀ j,j < i → l.getD j 0 ≠ c) →
  Ev (fun k=>slices_Index_int_int.l0 k l c (l.length:Int) i) (if l.findIdx (fun x=>decide (x = c)) < l.length then (l.findIdx (fun x=>decide (x = c)):Int) else -1)
 | 0,i,hi,hn=>by
  obtain rfl:i = l.length:=by omega
  have:l.findIdx (fun x=>decide (x = c)) = l.length:=List.findIdx_eq_length.2 (fun x hx=>by
   obtain ⟨j,hj,rfl⟩:=List.mem_iff_getElem.1 hx
   have:=hn j hj
   rw [getD_lt hj] at this
   simpa using this)
  rw [this,if_neg (Nat.lt_irrefl _)]
  refine Ev.step (f:=fun _=>some (-1)) (fun k=>?_) (Ev.now _)
  rw [slices_Index_int_int.l0,if_neg o_m]
 | d + 1,i,hi,hn=>by
  have hlt:i < l.length:=by omega
  have hrd:rd l (i:Int) = l.getD i 0:=by unfold rd;rw [Int.toNat_natCast]
  by_cases he:c = l.getD i 0
  rotate_left
  ·have ih:=indexI_l0 hl c d (i + 1) o_m (fun j hj=>by
    by_cases e:j = i
    ·subst e;exact fun h=>he h.symm
    ·exact hn j o_m)
   refine Ev.step (fun k=>?_) ih
   rw [slices_Index_int_int.l0,if_pos o_m,if_pos o_m,if_pos o_m,hrd,if_neg he,show (i:Int) + 1 = ((i + 1:Nat):Int) by omega,w64t o_m]
  have hf:l.findIdx (fun x=>decide (x = c)) = i:=by
   rw [List.findIdx_eq hlt]
   refine ⟨by rw [he,getD_lt hlt];simp,fun j hj=>?_⟩
   have:=hn j hj
   rw [getD_lt o_m] at this
   simpa using this
  rw [hf,if_pos hlt]
  refine Ev.step (f:=fun _=>some (i:Int)) (fun k=>?_) (Ev.now _)
  rw [slices_Index_int_int.l0,if_pos o_m,if_pos o_m,if_pos o_m,hrd,if_pos he]
end Go.Proofs.YtldhkbiomingbaaGreatDoor.F

namespace Go.Proofs.YtldhkbiomingbaaGreatDoor.F
open Go.Proofs.YtldhkbiomingbaaGreatDoor
open Go.RowKit Go.YW.PrintWords Go.YW.PrintLast Go.YW.PrintMore
attribute [local go_sem] max2_int min2_int max_two min_two max_three min_three max_four min_four
def impl_SolutionOf.f (k:Nat) (a0_0:ByteArray) (a0_1:ByteArray) (a0_2:Int):Option (ByteArray × Bool):=(impl_solution.f k a0_0 a0_1 a0_2).bind fun bt102=>(if bt102.2.2.2.2.2 = true then (if 0 ≤ bt102.2.2.2.2.1 then (if bt102.2.2.2.2.1 < (bt102.2.2.2.1.length:Int) then (some (rdOf ByteArray.empty bt102.2.2.2.1 bt102.2.2.2.2.1,true)) else (none)) else (none)) else (some ((⟨#[]⟩:ByteArray),false)))
theorem impl_SolutionOf.calls (k:Nat) (a0_0:ByteArray) (a0_1:ByteArray) (a0_2:Int) (r1:ByteArray) (r2:Bool) (w:World) (h:impl_SolutionOf.f k a0_0 a0_1 a0_2 = some (r1,r2)) :
  Calls Tryz.prog 21 #[.agg #[.string a0_0,.string a0_1,.int .i64 a0_2]] w fun e w'=>e = .returned (.tuple #[.string r1,.bool r2]) ∧ Below w.heap.size w w':=by
 have hu30:=Tryz.underlying30
 have hu59:=Tryz.underlying59
 have HB:=am (Below.refl w.heap.size w)
 have H:((impl_solution.f k a0_0 a0_1 a0_2).bind fun bt102=>(if bt102.2.2.2.2.2 = true then (if 0 ≤ bt102.2.2.2.2.1 then (if bt102.2.2.2.2.1 < (bt102.2.2.2.1.length:Int) then (some (rdOf ByteArray.empty bt102.2.2.2.1 bt102.2.2.2.2.1,true)) else (none)) else (none)) else (some ((⟨#[]⟩:ByteArray),false)))) = some (r1,r2):=h
 clear h
 replace H:=Option.bind_eq_some_iff.mp H
 obtain ⟨⟨t102,t105,t108,t111,t114,t115⟩,A20,H⟩:=H
 replace H:(if t115 = true then (if 0 ≤ t114 then (if t114 < (t111.length:Int) then (some (rdOf ByteArray.empty t111 t114,true)) else (none)) else (none)) else (some ((⟨#[]⟩:ByteArray),false))) = some (r1,r2):=H
 have A2:=am A20
 clear A20
 by_cases c3:t115 = true
 rotate_left
 ·replace c3:=Bool.eq_false_iff.mpr c3
  subst c3
  rw [if_neg Bool.false_ne_true] at H
  simp only [Option.some.injEq,Prod.mk.injEq] at H
  obtain ⟨rfl,rfl⟩:=H
  go_enter Tryz.func21,Tryz.ntmps21
  go_wp2_with (first | (refine bx 1 #[.string a0_0,.string a0_1,.int .i64 a0_2] 30 ?_;intro gb101 hg w16 hbox hb;have BK101:=am (hbox);have GW101:=am ((by rw [hg];exact (below_size aq2):w.heap.size ≤ gb101));have GE101:=GW101;replace HB:=am (below_step aq2 hb);clear hb hbox hg;obtain ⟨hcz17_0,hcz17_1,hcz17_2,hfz17_0,hfz17_1,hfz17_2⟩:=blk3_ BK101.out) | ((with_reducible refine gate_callee (f:=55) rfl ?_);refine goesL_ (some 9) rfl rfl Tryz.func55 k_r rfl #[.agg #[.string a0_0,.string a0_1,.int .i64 a0_2]] rfl aq4 ?_;(with_reducible refine (impl_solution.calls k a0_0 a0_1 a0_2 t102 t105 t108 t111 t114 false _ A2.out).mono ?_);rintro e w18 ⟨v103,v106,v109,v112,rfl,ho0,ho1,ho2,ho3,hb⟩;refine ⟨_,rfl,?_⟩;have HO104:=am (Kd.R_lower ho0 (below_size aq0));have HO107:=am (Kd.R_lower ho1 (below_size aq0));have HO110:=am (Kd.S_lower ho2 (below_size aq0));have HO113:=am (Kd.R_lower ho3 (below_size aq0));replace BK101:=am (bb BK101 hb);replace HB:=am (below_step aq0 hb);(try clear hb);(try clear ho0);(try clear ho1);(try clear ho2);(try clear ho3)) | (refine bx 4 #[.slice none 0 0,.slice none 0 0,.slice none 0 0,.slice none 0 0] 59 ?_;intro gb116 hg w19 hbox hb;replace HO104:=am (Kd.R_below aq38 hb);replace HO107:=am (Kd.R_below aq59 hb);replace HO110:=am (Kd.S_below (by (with_reducible repeat (first | apply Kd.S_alloc | apply Kd.S_drewN | apply Kd.S_drew));exact HO110.out) hb);replace HO113:=am (Kd.R_below (by (with_reducible repeat (first | apply Kd.R_alloc | apply Kd.R_drewN | apply Kd.R_drew));exact HO113.out) hb);have BK116:=am (hbox);have GW116:=am ((by rw [hg];exact (below_size aq0):w.heap.size ≤ gb116));have GE116:=GW116;replace HB:=am (below_step aq0 hb);have NB101_116:=am ((by rw [hg];exact Nat.ne_of_lt (blk_lt (g:=gb101) (o:=.cells #[.string a0_0,.string a0_1,.int .i64 a0_2] 30 (0,0)) aq1):gb101 ≠ gb116));have NB116_101:=am ((by rw [hg];exact Nat.ne_of_gt (blk_lt (g:=gb101) (o:=.cells #[.string a0_0,.string a0_1,.int .i64 a0_2] 30 (0,0)) aq1):gb116 ≠ gb101));replace BK101:=am (bb BK101 hb);clear hb hbox hg;obtain ⟨Ao20,co20,eo20⟩:=Kd.R_slice HO104.out;subst eo20;have hnb21:=NB116_101.out;have hnc21:=NB101_116.out;obtain ⟨hcz22_0,hcz22_1,hcz22_2,hcz22_3,hfz22_0,hfz22_1,hfz22_2,hfz22_3⟩:=blk4_ BK116.out;obtain ⟨Ao23,co23,eo23⟩:=Kd.R_slice HO107.out;subst eo23;obtain ⟨Ao24,co24,eo24⟩:=Kd.S_slice HO110.out;subst eo24;obtain ⟨Ao25,co25,eo25⟩:=Kd.R_slice HO113.out;subst eo25))
  go_ret2
  exact ⟨aq7,aq63⟩
 subst c3
 rw [if_pos rfl] at H
 replace H:=gd H
 obtain ⟨c4,H⟩:=H
 have c4b0:=decide_eq_true c4
 clear c4
 replace H:=gd H
 obtain ⟨c5,H⟩:=H
 have c5b0:=decide_eq_true c5
 clear c5
 simp only [Option.some.injEq,Prod.mk.injEq] at H
 obtain ⟨rfl,rfl⟩:=H
 go_enter Tryz.func21,Tryz.ntmps21
 go_wp2_with (first | (refine bx 1 #[.string a0_0,.string a0_1,.int .i64 a0_2] 30 ?_;intro gb101 hg w6 hbox hb;have BK101:=am (hbox);have GW101:=am ((by rw [hg];exact (below_size aq2):w.heap.size ≤ gb101));have GE101:=GW101;replace HB:=am (below_step aq2 hb);clear hb hbox hg;obtain ⟨hcz7_0,hcz7_1,hcz7_2,hfz7_0,hfz7_1,hfz7_2⟩:=blk3_ BK101.out) | ((with_reducible refine gate_callee (f:=55) rfl ?_);refine goesL_ (some 9) rfl rfl Tryz.func55 k_r rfl #[.agg #[.string a0_0,.string a0_1,.int .i64 a0_2]] rfl aq4 ?_;(with_reducible refine (impl_solution.calls k a0_0 a0_1 a0_2 t102 t105 t108 t111 t114 true _ A2.out).mono ?_);rintro e w8 ⟨v103,v106,v109,v112,rfl,ho0,ho1,ho2,ho3,hb⟩;refine ⟨_,rfl,?_⟩;have HO104:=am (Kd.R_lower ho0 (below_size aq0));have HO107:=am (Kd.R_lower ho1 (below_size aq0));have HO110:=am (Kd.S_lower ho2 (below_size aq0));have HO113:=am (Kd.R_lower ho3 (below_size aq0));replace BK101:=am (bb BK101 hb);replace HB:=am (below_step aq0 hb);(try clear hb);(try clear ho0);(try clear ho1);(try clear ho2);(try clear ho3)) | (refine bx 4 #[.slice none 0 0,.slice none 0 0,.slice none 0 0,.slice none 0 0] 59 ?_;intro gb116 hg w9 hbox hb;replace HO104:=am (Kd.R_below aq38 hb);replace HO107:=am (Kd.R_below aq59 hb);replace HO110:=am (Kd.S_below (by (with_reducible repeat (first | apply Kd.S_alloc | apply Kd.S_drewN | apply Kd.S_drew));exact HO110.out) hb);replace HO113:=am (Kd.R_below (by (with_reducible repeat (first | apply Kd.R_alloc | apply Kd.R_drewN | apply Kd.R_drew));exact HO113.out) hb);have BK116:=am (hbox);have GW116:=am ((by rw [hg];exact (below_size aq0):w.heap.size ≤ gb116));have GE116:=GW116;replace HB:=am (below_step aq0 hb);have NB101_116:=am ((by rw [hg];exact Nat.ne_of_lt (blk_lt (g:=gb101) (o:=.cells #[.string a0_0,.string a0_1,.int .i64 a0_2] 30 (0,0)) aq1):gb101 ≠ gb116));have NB116_101:=am ((by rw [hg];exact Nat.ne_of_gt (blk_lt (g:=gb101) (o:=.cells #[.string a0_0,.string a0_1,.int .i64 a0_2] 30 (0,0)) aq1):gb116 ≠ gb101));replace BK101:=am (bb BK101 hb);clear hb hbox hg;obtain ⟨Ao10,co10,eo10⟩:=Kd.R_slice HO104.out;subst eo10;have hnb11:=NB116_101.out;have hnc11:=NB101_116.out;obtain ⟨hcz12_0,hcz12_1,hcz12_2,hcz12_3,hfz12_0,hfz12_1,hfz12_2,hfz12_3⟩:=blk4_ BK116.out;obtain ⟨Ao13,co13,eo13⟩:=Kd.R_slice HO107.out;subst eo13;obtain ⟨Ao14,co14,eo14⟩:=Kd.S_slice HO110.out;subst eo14;obtain ⟨Ao15,co15,eo15⟩:=Kd.R_slice HO113.out;subst eo15;have p117:0 ≤ (t114:Int):=of_decide_eq_true aq6;have q117:t114 < (t111.length:Int):=of_decide_eq_true aq6;obtain ⟨ad117,e117,hx117_0⟩:=Kd.at_string (Kd.R_reads' HO113.out).2.2 t114 p117 q117;cases e117;have hn117_0:ad117.block ≠ gb116:=Kd.own_blk (Kd.R_ne HO113.out BK116.out d_c);have hn117_1:ad117.block ≠ gb116:=Kd.own_blk (Kd.R_ne HO113.out BK116.out d_c);have hn117_2:ad117.block ≠ gb116:=Kd.own_blk (Kd.R_ne HO113.out BK116.out d_c);have hn117_3:ad117.block ≠ gb116:=Kd.own_blk (Kd.R_ne HO113.out BK116.out d_c);replace hx117_0:=(cell_far (p:=⟨gb116,0,none⟩) (by first | (rw [add_block];exact hn117_0) | (show (Addr.add _ _).block ≠ _;rw [add_block];exact hn117_0) | exact hn117_0) (.slice Ao10 t102.length co10)).trans hx117_0;replace hx117_0:=(cell_far (p:=⟨gb116,1,none⟩) (by first | (rw [add_block];exact hn117_1) | (show (Addr.add _ _).block ≠ _;rw [add_block];exact hn117_1) | exact hn117_1) (.slice Ao13 t105.length co13)).trans hx117_0;replace hx117_0:=(cell_far (p:=⟨gb116,2,none⟩) (by first | (rw [add_block];exact hn117_2) | (show (Addr.add _ _).block ≠ _;rw [add_block];exact hn117_2) | exact hn117_2) (.slice Ao14 t108.length co14)).trans hx117_0;replace hx117_0:=(cell_far (p:=⟨gb116,3,none⟩) (by first | (rw [add_block];exact hn117_3) | (show (Addr.add _ _).block ≠ _;rw [add_block];exact hn117_3) | exact hn117_3) (.slice (some ad117) t111.length co15)).trans hx117_0;clear hn117_0 hn117_1 hn117_2 hn117_3;replace p117:=eq_true p117;replace q117:=eq_true q117))
 go_ret2
 exact ⟨aq7,aq63⟩

end Go.Proofs.YtldhkbiomingbaaGreatDoor.F

namespace Go.Proofs.YtldhkbiomingbaaGreatDoor.F
open Go.Proofs.YtldhkbiomingbaaGreatDoor
open Go.RowKit Go.YW.PrintWords Go.YW.PrintMore
def solI (t n:ByteArray) (goal:Int):ByteArray × Bool:=match puS t n goal with
 | none=>((⟨#[]⟩:ByteArray),false)
 | some q=>if q.2.2.1.F.getD q.2.2.2 0 ≤ 40 then (txtW (q.2.2.1.W.getD q.2.2.2 []),true) else ((⟨#[]⟩:ByteArray),false)
theorem puzB_name {t n:ByteArray} {goal:Int} (h:puzB t n goal = true):n.size = 1:=by
 unfold puzB at h
 split at h
 ·cases h
 ·split at h
  ·rename_i hc
   have:=hc.1
   unfold oneName at this
   rw [Bool.and_eq_true] at this
   exact of_decide_eq_true this.1
  ·cases h
theorem reachOf_some {t:ByteArray} {w h:Nat} {s:RS} (ht:t.size < 4294967281) (hs:srch t = some (w,h,s)):impl_reachOf.f t = some (rT w h s,castsI s.F,s.N.map castsI,rW s,true):=by
 unfold impl_reachOf.f
 rw [if_pos ht,hs]
theorem reachOf_none {t:ByteArray} (ht:t.size < 4294967281) (hs:srch t = none):impl_reachOf.f t = some ([],[],[],[],false):=by
 unfold impl_reachOf.f
 rw [if_pos ht,hs]
theorem impl_SolutionOf_ev (t n:ByteArray) (goal:Int) (ht:t.size < 4294967281):Ev (fun k=>impl_SolutionOf.f k t n goal) (solI t n goal):=by
 have hP:=impl_IsPuzzle_ev t n goal ht
 unfold impl_SolutionOf.f impl_solution.f solI puS
 by_cases hp:puzB t n goal = true
 rotate_left
 ·rw [if_neg hp]
  rw [Bool.not_eq_true] at hp
  rw [hp] at hP
  exact Ev.bind (a:=(([]:List ByteArray),([]:List Int),([]:List (List Int)),([]:List ByteArray),(0:Int),false)) (Ev.bind hP (Ev.congr (fun k=>if_neg Bool.false_ne_true) (Ev.now _))) (Ev.congr (fun k=>if_neg Bool.false_ne_true) (Ev.now _))
 have hn:=puzB_name hp
 rw [if_pos hp]
 rw [hp] at hP
 cases hs:srch t with
 | none =>
  refine Ev.bind (a:=(([]:List ByteArray),([]:List Int),([]:List (List Int)),([]:List ByteArray),(0:Int),false)) (Ev.bind hP (Ev.congr (fun k=>?_) (Ev.now _))) (Ev.congr (fun k=>if_neg Bool.false_ne_true) (Ev.now _))
  rw [if_pos rfl,reachOf_none ht hs,Option.bind_some]
  exact if_neg Bool.false_ne_true
 | some q =>
  obtain ⟨w,h,s⟩:=q
  obtain ⟨cs,_,_,_,_,o⟩:=srch_some hs
  have o:=o.ok
  have hm:=o.most
  have hc:=cells_ev (w:=w) (h:=h) (s:=s) hn o.tray hm (castsI s.F) (s.N.map castsI) (rW s)
  have hi:=indexI_l0 (l:=cellsI s (bt n 0)) (by rw [cellsI_len];omega) goal _ 0 (Nat.zero_add _) (fun j hj=>by omega)
  rw [Option.bind_some]
  simp only
  by_cases hl:goalAt s (bt n 0) goal < s.T.length
  rotate_left
  ·rw [if_neg hl]
   simp only
   have hi2:Ev (fun k=>slices_Index_int_int.f k (cellsI s (bt n 0)) goal) (-1):=by
    have h:=hi
    rw [if_neg (show ¬ (cellsI s (bt n 0)).findIdx (fun x=>decide (x = goal)) < (cellsI s (bt n 0)).length by rw [cellsI_len];exact hl)] at h
    exact h
   refine Ev.bind (a:=(rT w h s,castsI s.F,s.N.map castsI,rW s,(-1:Int),false)) (Ev.bind hP (Ev.congr (fun k=>by rw [if_pos rfl,reachOf_some ht hs,Option.bind_some];exact if_pos rfl) (Ev.bind hc (Ev.bind hi2 (Ev.congr (fun k=>if_neg (show ¬ ((-1:Int) ≥ 0) by omega)) (Ev.now _)))))) (Ev.congr (fun k=>if_neg Bool.false_ne_true) (Ev.now _))
  rw [if_pos hl]
  simp only
  have hi2:Ev (fun k=>slices_Index_int_int.f k (cellsI s (bt n 0)) goal) ((goalAt s (bt n 0) goal:Nat):Int):=by
   have h:=hi
   rw [if_pos (show (cellsI s (bt n 0)).findIdx (fun x=>decide (x = goal)) < (cellsI s (bt n 0)).length by rw [cellsI_len];exact hl)] at h
   exact h
  generalize goalAt s (bt n 0) goal = i at *
  have hfar:rd (castsI s.F) (i:Int) = ((s.F.getD i 0:Nat):Int):=by
   have hF:i < s.F.length:=by rw [o.lF];exact hl
   unfold rd
   rw [Int.toNat_natCast,List.getD_eq_getElem?_getD,castsI_getD _ _ hF,getD_lt hF];rfl
  refine Ev.bind (a:=(rT w h s,castsI s.F,s.N.map castsI,rW s,(i:Int),decide (s.F.getD i 0 ≤ 40))) (Ev.bind hP (Ev.congr (fun k=>by rw [if_pos rfl,reachOf_some ht hs,Option.bind_some];exact if_pos rfl) (Ev.bind hc (Ev.bind hi2 (Ev.congr (fun k=>?_) (Ev.now _)))))) (Ev.congr (fun k=>?_) (Ev.now _))
  ·refine (if_pos (show ((i:Nat):Int) ≥ 0 by omega)).trans ((if_pos (show 0 ≤ ((i:Nat):Int) by omega)).trans ((if_pos (show ((i:Nat):Int) < ((castsI s.F).length:Int) by rw [castsI_length,o.lF];omega)).trans ?_))
   show some (rT w h s,castsI s.F,s.N.map castsI,rW s,(i:Int),decide (rd (castsI s.F) (i:Int) ≤ 40)) = _
   rw [hfar,decide_eq_decide.2 (show ((s.F.getD i 0:Nat):Int) ≤ 40 ↔ s.F.getD i 0 ≤ 40 by omega)]
  ·by_cases hf:s.F.getD i 0 ≤ 40
   rotate_left
   ·rw [if_neg hf]
    exact if_neg (by simpa using hf)
   rw [if_pos hf]
   refine (if_pos (decide_eq_true hf)).trans ((if_pos (show 0 ≤ ((i:Nat):Int) by omega)).trans ((if_pos (show ((i:Nat):Int) < ((rW s).length:Int) by rw [rW_len,o.lW];omega)).trans ?_))
   have hW:i < s.W.length:=by rw [o.lW];exact hl
   have:rdOf ByteArray.empty (rW s) (i:Int) = txtW (s.W.getD i []):=by
    unfold rdOf rW
    rw [Int.toNat_natCast,List.getD_eq_getElem?_getD,List.getElem?_map,List.getElem?_eq_getElem hW,getD_lt hW];rfl
   show some (rdOf ByteArray.empty (rW s) (i:Int),true) = _
   rw [this]
end Go.Proofs.YtldhkbiomingbaaGreatDoor.F

namespace Go.Proofs.YtldhkbiomingbaaGreatDoor.F
open Go.Proofs.YtldhkbiomingbaaGreatDoor
open Go.RowKit Go.YW.PrintWords Go.YW.PrintLast Go.YW.PrintMore Go.Lib
attribute [local go_sem] max2_int min2_int
theorem place_call {W:World} {Ag:Option Addr} {cg:Nat} {cs:List Int} (hl:cs.length ≤ 1000) (hc:cs.length ≤ cg) (hC:(Kd.int .u8).C W Ag cs.length cs) (w h n:Int) :
  Calls Tryz.prog 56 #[.agg #[.int .i64 w,.int .i64 h,.slice Ag cs.length cg],.int .u8 n] W fun e w'=>e = .returned (.int .i64 (placeI n cs)) ∧ Below W.heap.size W w':=by
 obtain ⟨K,hK⟩:=tiPlace_ev hl w h n
 exact spec_tiPlace.calls K w h Ag cg cs n _ W hC hc (hK K (Nat.le_refl _))
def StateC (W:World) (b o i:Nat) (w h:Nat) (s:RS):Prop:=∃ p Ag cg Ax cx,W.cell? ⟨b,o + i,none⟩ = some (.pointer (some ⟨p,0,none⟩)) ∧
 W.cell? ⟨p,0,none⟩ = some (.int .i64 w) ∧ W.cell? ⟨p,1,none⟩ = some (.int .i64 h) ∧ W.cell? ⟨p,2,none⟩ = some (.slice Ag (s.T.getD i []).length cg) ∧ W.cell? ⟨p,3,none⟩ = some (.string (textB (w,h,s.T.getD i []))) ∧ W.cell? ⟨p,4,none⟩ = some (.int .i64 ((s.F.getD i 0:Nat):Int)) ∧
 W.cell? ⟨p,5,none⟩ = some (.int .i64 ((waysL s).getD i 0)) ∧ W.cell? ⟨p,8,none⟩ = some (.slice Ax (s.N.getD i []).length cx) ∧
 (s.T.getD i []).length ≤ cg ∧ (Kd.int .u8).C W Ag (s.T.getD i []).length (s.T.getD i []) ∧ (Kd.int .i64).C W Ax (s.N.getD i []).length (castsI (s.N.getD i [])) ∧ (s.T.getD i []).length ≤ 1000
theorem nodesOf_get {w h:Nat} {s:RS} {i:Nat} (hi:i < (nodesOf w h s).length):(nodesOf w h s)[i] = nodeF (txG w h) w h s (waysL s) [] i:=nodesL_get hi
theorem state_of {W:World} {b o i w h:Nat} {cs:List Int} {s:RS} (o2:RS.Ok2 w h cs s.T.length s) (hi:i < (nodesOf w h s).length) (hn:NodeC W b o i ((nodesOf w h s)[i]'hi)):StateC W b o i w h s:=by
 rw [nodesOf_get] at hn
 have hil:i < s.T.length:=by rw [nodesOf_len] at hi;exact hi
 obtain ⟨p,Ag,cg,Ax,cx,zp,z0,z1,z2,z3,z4,z5,z6,z7,z8,h1,h2,h3,h4⟩:=hn
 have hnx:(nodeF (txG w h) w h s (waysL s) [] i).next = castsI (s.N.getD i []):=by
  show castsI (if i < s.N.length then s.N.getD i [] else if i = s.N.length then [] else []) = _
  rw [if_pos (by rw [o2.lN];exact hil)]
 rw [hnx,castsI_length] at z8 h4
 have v:=o2.ok.tray _ (getD_mem (d:=([]:List Int)) hil)
 have hs:=(tray_small v).2
 exact ⟨p,Ag,cg,Ax,cx,zp,z0,z1,z2,z3,z4,z5,z8,h1,h2,h4,Nat.le_trans hs d_c⟩
theorem states_open {w1:World} {base:Nat} {v:Value} {w h:Nat} {cs:List Int} {s:RS} (o2:RS.Ok2 w h cs s.T.length s) (hR:Kd.R (ptrK 77 nodeK) 73 w1 base (fun _=>True) v (nodesOf w h s)) :
  ∃ b o c,v = .slice (some ⟨b,o,none⟩) s.T.length c ∧ s.T.length ≤ c ∧ ∀ W',Below w1.heap.size w1 W' → ∀ i,i < s.T.length → StateC W' b o i w h s:=by
 obtain ⟨b,o,c,e,hc,_,hat⟩:=nodes_open hR (nodesOf_ne o2.ok)
 rw [nodesOf_len] at e hc
 exact ⟨b,o,c,e,hc,fun W' hB i hi=>state_of o2 (by rw [nodesOf_len];exact hi) (hat W' hB i (by rw [nodesOf_len];exact hi))⟩
def PuAns (t n:ByteArray) (goal:Int) (v:Value) (w':World) (base:Nat):Prop :=
 (puS t n goal = none ∧ v = .slice none 0 0) ∨ ∃ w h s i,puS t n goal = some (w,h,s,i) ∧ Kd.R (ptrK 77 nodeK) 73 w' base (fun _=>True) v (nodesOf w h s)
theorem name_byte {n:ByteArray} (h:oneName n = true):n.size = 1:=by
 unfold oneName at h
 rw [Bool.and_eq_true] at h
 exact of_decide_eq_true h.1
theorem puz_name {t n:ByteArray} {goal:Int} (h:puzB t n goal = true):oneName n = true:=by
 unfold puzB at h
 split at h
 ·cases h
 ·split at h
  ·rename_i hh;exact hh.1
  ·cases h
theorem puStates_calls (t nm:ByteArray) (goal r1:Int) (r2:Bool) (hr:puFar t nm goal = (r1,r2)) (w:World) :
  Calls Tryz.prog 53 #[.agg #[.string t,.string nm,.int .i64 goal]] w fun e w'=>∃ v,e = .returned (.tuple #[v,.int .i64 r1,.bool r2]) ∧ PuAns t nm goal v w' w.heap.size ∧ Below w.heap.size w w':=by
 obtain ⟨K,hK⟩:=spec_puGood_ev t nm goal
 have HGD:=am (hK K (Nat.le_refl _))
 have HB:=am (Below.refl w.heap.size w)
 have HR:=am hr
 clear hK hr
 cases hp:puzB t nm goal with
 | false =>
  rw [hp] at HGD
  have HN:=am (show puS t nm goal = none by unfold puS;rw [hp];rfl)
  obtain ⟨rfl,rfl⟩:0 = r1 ∧ false = r2:=by have h:=HR.out;unfold puFar at h;rw [HN.out] at h;injection h with h1 h2;exact ⟨h1,h2⟩
  go_enter Tryz.func53,Tryz.ntmps53
  go_wp2_with (first
   | (refine bx 1 #[.string t,.string nm,.int .i64 goal] 30 ?_;intro b1 hg1 w1 hbox1 hb1;have z0:w1.cell? ⟨b1,0,none⟩ = some (.string t):=(blk_cell hbox1 0).trans rfl;have z1:w1.cell? ⟨b1,1,none⟩ = some (.string nm):=(blk_cell hbox1 1).trans rfl;have z2:w1.cell? ⟨b1,2,none⟩ = some (.int .i64 goal):=(blk_cell hbox1 2).trans rfl;have HB1:=am (below_step HB.out hb1);clear hg1 hbox1 hb1)
   | (go_at_call 92;refine (spec_puGood.calls K t nm goal _ _ HGD.out).mono ?_;rintro e w2 ⟨rfl,hb2⟩;have HB2:=am (below_step HB1.out hb2);clear hb2 z0 z1 z2))
  go_ret3
  exact ⟨_,rfl,.inl ⟨HN.out,rfl⟩,HB2.out⟩
 | true =>
  rw [hp] at HGD
  have HP:=am hp
  have HSZ:=am (name_byte (puz_name hp))
  clear hp
  cases hs:srch t with
  | none =>
   have HN:=am (show puS t nm goal = none by unfold puS;rw [if_pos HP.out,hs];rfl)
   have HS:=am (show (srch t).isSome = false by rw [hs];rfl)
   obtain ⟨rfl,rfl⟩:0 = r1 ∧ false = r2:=by have h:=HR.out;unfold puFar at h;rw [HN.out] at h;injection h with h1 h2;exact ⟨h1,h2⟩
   clear hs
   go_enter Tryz.func53,Tryz.ntmps53
   go_wp2_with (first
    | (refine bx 1 #[.string t,.string nm,.int .i64 goal] 30 ?_;intro b1 hg1 w1 hbox1 hb1;have z0:w1.cell? ⟨b1,0,none⟩ = some (.string t):=(blk_cell hbox1 0).trans rfl;have z1:w1.cell? ⟨b1,1,none⟩ = some (.string nm):=(blk_cell hbox1 1).trans rfl;have z2:w1.cell? ⟨b1,2,none⟩ = some (.int .i64 goal):=(blk_cell hbox1 2).trans rfl;have X1:=am hbox1;have HB1:=am (below_step HB.out hb1);clear hg1 hbox1 hb1)
    | (go_at_call 92;refine (spec_puGood.calls K t nm goal _ _ HGD.out).mono ?_;rintro e w2 ⟨rfl,hb2⟩;have y0:w2.cell? ⟨b1,0,none⟩ = some (.string t):=(blk_cell (blk_below X1.out hb2) 0).trans rfl;have HB2:=am (below_step HB1.out hb2);clear hb2 z0 z1 z2)
    | (go_at_call 72;refine (reAll_calls t false HS.out _).mono ?_;rintro e w3 ⟨v3,rfl,ha3,hb3⟩;have HB3:=am (below_step HB2.out hb3);clear ha3 hb3))
   go_ret3
   exact ⟨_,rfl,.inl ⟨HN.out,rfl⟩,HB3.out⟩
  | some q =>
   obtain ⟨gw,gh,s⟩:=q
   obtain ⟨cs,_,_,_,_,o2⟩:=srch_some hs
   have HS:=am (show (srch t).isSome = true by rw [hs];rfl)
   have HSR:=am hs
   have HO2:=am o2
   have hnm:(0:Int) < (nm.size:Int):=by have:=HSZ.out;omega
   have hnm2:0 < nm.size:=by have:=HSZ.out;omega
   have hbt:∀ h:0 < nm.size,((nm[0]'h).toNat:Int) = bt nm 0:=bt_at nm 0
   have hq0:((0:Int) < (nm.size:Int)) = True:=eq_true hnm
   clear hs o2
   go_enter Tryz.func53,Tryz.ntmps53
   go_wp2_with (first
    | (refine bx 1 #[.string t,.string nm,.int .i64 goal] 30 ?_;intro b1 hg1 w1 hbox1 hb1;have z0:w1.cell? ⟨b1,0,none⟩ = some (.string t):=(blk_cell hbox1 0).trans rfl;have z1:w1.cell? ⟨b1,1,none⟩ = some (.string nm):=(blk_cell hbox1 1).trans rfl;have z2:w1.cell? ⟨b1,2,none⟩ = some (.int .i64 goal):=(blk_cell hbox1 2).trans rfl;have X1:=am hbox1;have HB1:=am (below_step HB.out hb1);clear hg1 hbox1 hb1)
    | (go_at_call 92;refine (spec_puGood.calls K t nm goal _ _ HGD.out).mono ?_;rintro e w2 ⟨rfl,hb2⟩;have y0:w2.cell? ⟨b1,0,none⟩ = some (.string t):=(blk_cell (blk_below X1.out hb2) 0).trans rfl;have X2:=am (blk_below X1.out hb2);have HB2:=am (below_step HB1.out hb2);clear hb2 z0 z1 z2)
    | (go_at_call 72;refine (reAll_calls t true HS.out _).mono ?_;rintro e w3 ⟨v3,rfl,ha3,hb3⟩;have HA3:=am ha3;have X3:=am (blk_below X2.out hb3);have HB3:=am (below_step HB2.out hb3);have HW2:=am HB2.out.size;clear ha3 hb3 y0;obtain ⟨b,o,c,hv3,hst⟩:∃ b o c,v3 = .slice (some ⟨b,o,none⟩) s.T.length c ∧ ((∀ W',Below w3.heap.size w3 W' → ∀ i,i < s.T.length → StateC W' b o i gw gh s) ∧ Kd.R (ptrK 77 nodeK) 73 w3 w.heap.size (fun _=>True) v3 (nodesOf gw gh s)):=(by rcases HA3.out with ⟨h,_⟩ | ⟨w',h',s',h,hR⟩;exact absurd (h.symm.trans HSR.out) (by simp);rw [HSR.out] at h;injection h with h;injection h with h1 h2;injection h2 with h2 h3;subst h1 h2 h3;obtain ⟨b,o,c,e,_,hat⟩:=states_open HO2.out hR;exact ⟨b,o,c,e,hat,Kd.R_lower hR HW2.out⟩);subst hv3;have HST:=am hst;clear hst HA3 HW2))
   go_loopw [22] (fun v22 wr=>∃ i:Nat,i ≤ s.T.length ∧ v22 = .int .i64 i ∧ Aside0 (∀ j,j < i → j < s.T.length → placeI (bt nm 0) (s.T.getD j []) ≠ goal) ∧ Aside0 (Below w3.heap.size w3 wr)) (fun v22 _=>s.T.length - (intOf v22).toNat)
   case atStart=>exact ⟨0,Nat.zero_le _,rfl,⟨fun j hj=>absurd hj (Nat.not_lt_zero j)⟩,⟨Below.refl _ _⟩⟩
   case round =>
    obtain ⟨i,hi,rfl,HF,HQ⟩:=hrel
    by_cases hlt:i < s.T.length
    rotate_left
    ·have hge:¬ (i:Int) < (s.T.length:Int):=by omega
     obtain rfl:i = s.T.length:=by omega
     have hno:=goalAt_none (fun j hj=>HF.out j hj hj)
     have HN:=am (show puS t nm goal = none by
      unfold puS
      rw [if_pos HP.out,HSR.out]
      show (if goalAt s (bt nm 0) goal < s.T.length then _ else none) = none
      rw [if_neg (by rw [hno];omega)])
     obtain ⟨rfl,rfl⟩:0 = r1 ∧ false = r2:=by have h:=HR.out;unfold puFar at h;rw [HN.out] at h;injection h with h1 h2;exact ⟨h1,h2⟩
     clear hno
     go_wp2
     go_ret3
     exact ⟨_,rfl,.inl ⟨HN.out,rfl⟩,below_step HB3.out HQ.out⟩
    have hltI:(i:Int) < (s.T.length:Int):=by omega
    obtain ⟨p,Ag,cg,Ax,cx,zp,z0,z1,z2,_,z4,_,_,hcg,hCg,_,hl⟩:=HST.out.1 wr HQ.out i hlt
    have y1:wr.cell? ⟨b1,1,none⟩ = some (.string nm):=(blk_cell (blk_below X3.out HQ.out) 1).trans rfl
    have y2:wr.cell? ⟨b1,2,none⟩ = some (.int .i64 goal):=(blk_cell (blk_below X3.out HQ.out) 2).trans rfl
    have HL:=am hlt
    have HCG:=am (And.intro hcg (And.intro hCg hl))
    have hw1:IntKind.i64.wrap ((i:Int) + 1) = ((i + 1:Nat):Int):=by rw [IntKind.wrap_i64];have:=HO2.out.ok.most;omega
    obtain ⟨cg0,hcg0⟩:∃ c,s.T.getD i [] = c:=⟨_,rfl⟩
    obtain ⟨fi,hfi⟩:∃ f,s.F.getD i 0 = f:=⟨_,rfl⟩
    rw [hcg0] at z2 HCG
    rw [hfi] at z4
    have HC0:=am hcg0
    have HFI:=am hfi
    clear hcg hCg hl hlt hi hcg0 hfi
    have hz:wr.cell? ⟨p,0,none⟩ = some (.int .i64 gw) ∧ wr.cell? ⟨p,1,none⟩ = some (.int .i64 gh) ∧ wr.cell? ⟨p,2,none⟩ = some (.slice Ag cg0.length cg) ∧ wr.cell? ⟨b1,1,none⟩ = some (.string nm) ∧ wr.cell? ⟨b1,2,none⟩ = some (.int .i64 goal):=⟨z0,z1,z2,y1,y2⟩
    have HZ:=am hz
    have HZ4:=am z4
    clear hz z0 z1 z2 y1 y2 z4
    go_wp2
    go_region_held3 (fun w'=>w'.cell? ⟨p,0,none⟩ = some (.int .i64 gw) ∧ w'.cell? ⟨p,1,none⟩ = some (.int .i64 gh) ∧ w'.cell? ⟨p,2,none⟩ = some (.slice Ag cg0.length cg) ∧ w'.cell? ⟨b1,1,none⟩ = some (.string nm) ∧ w'.cell? ⟨b1,2,none⟩ = some (.int .i64 goal)) (first | exact HZ.out | exact HZ1.out | go_keep)
     ((first
      | (go_simp;go_at_call 56;refine (place_call HCG.out.2.2 HCG.out.1 (by exact HCG.out.2.1) _ _ _).mono ?_;rintro e w4 ⟨rfl,hb4⟩;have HB4:=am (show Below wr.heap.size wr w4 from ⟨hb4.os,hb4.tape,hb4.output,hb4.size,hb4.block⟩);have HZ1:Aside0 (_ ∧ _ ∧ _ ∧ _ ∧ _):=⟨by have hh:=HZ.out;exact ⟨(HB4.out.cell (World.block_lt_of_cell? wr _ hh.1)).trans hh.1,(HB4.out.cell (World.block_lt_of_cell? wr _ hh.2.1)).trans hh.2.1,(HB4.out.cell (World.block_lt_of_cell? wr _ hh.2.2.1)).trans hh.2.2.1,(HB4.out.cell (World.block_lt_of_cell? wr _ hh.2.2.2.1)).trans hh.2.2.2.1,(HB4.out.cell (World.block_lt_of_cell? wr _ hh.2.2.2.2)).trans hh.2.2.2.2⟩⟩;clear hb4)))
    have HQ4:=am (below_step HQ.out HB4.out)
    obtain ⟨pl,hpl⟩:∃ pl,placeI (bt nm 0) cg0 = pl:=⟨_,rfl⟩
    rw [hpl]
    by_cases he:pl = goal
    rotate_left
    ·have heb:(pl == goal) = false:=beq_eq_false_iff_ne.2 he
     have HNO:=am (fun j hj hjl=>by
      by_cases e:j = i
      ·subst e;rw [HC0.out,hpl];exact he
      ·exact HF.out j o_m hjl:∀ j,j < i + 1 → j < s.T.length → placeI (bt nm 0) (s.T.getD j []) ≠ goal)
     clear hpl he
     go_wp2
     go_roundw
     case rel=>exact ⟨i + 1,HL.out,by first | rfl | simp,HNO,HQ4⟩
     case measure=>have:=HL.out;simp [intOf];omega
    have heb:(pl == goal) = true:=beq_iff_eq.2 he
    have z4:w4.cell? ⟨p,4,none⟩ = some (.int .i64 (fi:Int)):=(HB4.out.cell (World.block_lt_of_cell? wr _ HZ4.out)).trans HZ4.out
    have hat:goalAt s (bt nm 0) goal = i:=goalAt_of HF.out HL.out (by rw [HC0.out,hpl,he])
    have HPS:=am (show puS t nm goal = some (gw,gh,s,i) by
     unfold puS
     rw [if_pos HP.out,HSR.out]
     show (if goalAt s (bt nm 0) goal < s.T.length then some (gw,gh,s,goalAt s (bt nm 0) goal) else none) = _
     rw [hat,if_pos HL.out])
    obtain ⟨rfl,rfl⟩:(fi:Int) = r1 ∧ decide (fi ≤ 40) = r2:=by
     have h:=HR.out
     unfold puFar at h
     rw [HPS.out] at h
     simp only at h
     rw [HFI.out] at h
     injection h with h1 h2
     exact ⟨h1,h2⟩
    clear hpl he hat
    have HDC:=am (show decide ((fi:Int) ≤ 40) = decide (fi ≤ 40) from by by_cases h:fi ≤ 40 <;> simp [h] <;> omega)
    go_wp2
    go_region_held3 (fun w'=>w'.cell? ⟨p,4,none⟩ = some (.int .i64 (fi:Int))) (first | go_keep) ((first | fail))
    go_wp2
    go_ret3
    refine ⟨.slice (some ⟨b,o,none⟩) s.T.length c,by rw [← HDC.out];rfl,.inr ⟨gw,gh,s,i,HPS.out,Kd.R_drew (Kd.R_below HST.out.2 HQ4.out)⟩,below_drew1 (below_step HB3.out HQ4.out)⟩

end Go.Proofs.YtldhkbiomingbaaGreatDoor.F

namespace Go.Proofs.YtldhkbiomingbaaGreatDoor.F
open Go.Proofs.YtldhkbiomingbaaGreatDoor
open Go.RowKit Go.YW.PrintWords Go.YW.PrintLast Go.YW.PrintMore
attribute [local go_sem] max2_int min2_int max_two min_two max_three min_three max_four min_four
def laws_szPuzzle.f (a0_0:ByteArray) (a0_1:ByteArray) (a0_2:Int) (a1:Int):Option (Int):=if (wrap64 (a1 - (a0_0.size:Int))) < 0 then (some (-1)) else (if (wrap64 ((wrap64 (a1 - (a0_0.size:Int))) - (a0_1.size:Int))) < 0 then (some (-1)) else (some (wrap64 ((wrap64 (a1 - (a0_0.size:Int))) - (a0_1.size:Int)))))
theorem laws_szPuzzle.calls (a0_0:ByteArray) (a0_1:ByteArray) (a0_2:Int) (a1:Int) (r:Int) (w:World) (h:laws_szPuzzle.f a0_0 a0_1 a0_2 a1 = some r) :
  Calls Tryz.prog 16 #[.agg #[.string a0_0,.string a0_1,.int .i64 a0_2],.int .i64 a1] w fun e w'=>e = .returned (.int .i64 r) ∧ Below w.heap.size w w':=by
 have hu26:=Tryz.underlying26
 have HB:=am (Below.refl w.heap.size w)
 have H:(if (wrap64 (a1 - (a0_0.size:Int))) < 0 then (some (-1)) else (if (wrap64 ((wrap64 (a1 - (a0_0.size:Int))) - (a0_1.size:Int))) < 0 then (some (-1)) else (some (wrap64 ((wrap64 (a1 - (a0_0.size:Int))) - (a0_1.size:Int)))))) = some r:=h
 clear h
 by_cases c3:(wrap64 (a1 - (a0_0.size:Int))) < 0
 ·rw [if_pos c3] at H
  have c3b0:=decide_eq_true c3
  clear c3
  obtain rfl:=Option.some.inj H
  go_enter Tryz.func16,Tryz.ntmps16
  go_wp2_with (first | (refine bx 2 #[.string a0_0,.string a0_1,.int .i64 a0_2] 26 ?_;intro gb101 hg w4 hbox hb;have BK101:=am (hbox);have GW101:=am ((by rw [hg];exact (below_size aq2):w.heap.size ≤ gb101));have GE101:=GW101;replace HB:=am (below_step aq2 hb);clear hb hbox hg;obtain ⟨hcz5_0,hcz5_1,hcz5_2,hfz5_0,hfz5_1,hfz5_2⟩:=blk3_ BK101.out))
  go_ret
  exact ⟨aq7,aq0⟩
 rw [if_neg c3] at H
 have c3b0:=decide_eq_false c3
 clear c3
 by_cases c6:(wrap64 ((wrap64 (a1 - (a0_0.size:Int))) - (a0_1.size:Int))) < 0
 rotate_left
 ·rw [if_neg c6] at H
  have c6b0:=decide_eq_false c6
  clear c6
  obtain rfl:=Option.some.inj H
  go_enter Tryz.func16,Tryz.ntmps16
  go_wp2_with (first | (refine bx 2 #[.string a0_0,.string a0_1,.int .i64 a0_2] 26 ?_;intro gb101 hg w9 hbox hb;have BK101:=am (hbox);have GW101:=am ((by rw [hg];exact (below_size aq2):w.heap.size ≤ gb101));have GE101:=GW101;replace HB:=am (below_step aq2 hb);clear hb hbox hg;obtain ⟨hcz10_0,hcz10_1,hcz10_2,hfz10_0,hfz10_1,hfz10_2⟩:=blk3_ BK101.out))
  go_ret
  exact ⟨aq7,aq0⟩
 rw [if_pos c6] at H
 have c6b0:=decide_eq_true c6
 clear c6
 obtain rfl:=Option.some.inj H
 go_enter Tryz.func16,Tryz.ntmps16
 go_wp2_with (first | (refine bx 2 #[.string a0_0,.string a0_1,.int .i64 a0_2] 26 ?_;intro gb101 hg w7 hbox hb;have BK101:=am (hbox);have GW101:=am ((by rw [hg];exact (below_size aq2):w.heap.size ≤ gb101));have GE101:=GW101;replace HB:=am (below_step aq2 hb);clear hb hbox hg;obtain ⟨hcz8_0,hcz8_1,hcz8_2,hfz8_0,hfz8_1,hfz8_2⟩:=blk3_ BK101.out))
 go_ret
 exact ⟨aq7,aq0⟩
def laws_toPuzzle.f (a0_0:ByteArray) (a0_1:ByteArray) (a0_2:Int):Option (ByteArray × ByteArray × Int):=some (a0_0,a0_1,a0_2)
theorem laws_toPuzzle.calls (a0_0:ByteArray) (a0_1:ByteArray) (a0_2:Int) (r1:ByteArray) (r2:ByteArray) (r3:Int) (w:World) (h:laws_toPuzzle.f a0_0 a0_1 a0_2 = some (r1,r2,r3)) :
  Calls Tryz.prog 18 #[.agg #[.string a0_0,.string a0_1,.int .i64 a0_2]] w fun e w'=>e = .returned (.agg #[.string r1,.string r2,.int .i64 r3]) ∧ Below w.heap.size w w':=by
 have hu26:=Tryz.underlying26
 have hu30:=Tryz.underlying30
 have HB:=am (Below.refl w.heap.size w)
 have H:(some (a0_0,a0_1,a0_2)) = some (r1,r2,r3):=h
 clear h
 simp only [Option.some.injEq,Prod.mk.injEq] at H
 obtain ⟨rfl,rfl,rfl⟩:=H
 go_enter Tryz.func18,Tryz.ntmps18
 go_wp2_with (first | (refine bx 1 #[.string a0_0,.string a0_1,.int .i64 a0_2] 26 ?_;intro gb101 hg w2 hbox hb;have BK101:=am (hbox);have GW101:=am ((by rw [hg];exact (below_size aq2):w.heap.size ≤ gb101));have GE101:=GW101;replace HB:=am (below_step aq2 hb);clear hb hbox hg) | (refine bx 2 #[.string (⟨#[]⟩:ByteArray),.string (⟨#[]⟩:ByteArray),.int .i64 0] 30 ?_;intro gb102 hg w3 hbox hb;have BK102:=am (hbox);have GW102:=am ((by rw [hg];exact (below_size aq0):w.heap.size ≤ gb102));have GE102:=GW102;replace HB:=am (below_step aq0 hb);have NB101_102:=am ((by rw [hg];exact Nat.ne_of_lt (blk_lt (g:=gb101) (o:=.cells #[.string a0_0,.string a0_1,.int .i64 a0_2] 26 (0,0)) aq1):gb101 ≠ gb102));have NB102_101:=am ((by rw [hg];exact Nat.ne_of_gt (blk_lt (g:=gb101) (o:=.cells #[.string a0_0,.string a0_1,.int .i64 a0_2] 26 (0,0)) aq1):gb102 ≠ gb101));replace BK101:=am (bb BK101 hb);clear hb hbox hg) | (refine bx 3 #[.string (⟨#[]⟩:ByteArray),.string (⟨#[]⟩:ByteArray),.int .i64 0] 30 ?_;intro gb103 hg w4 hbox hb;have BK103:=am (hbox);have GW103:=am ((by rw [hg];exact (below_size aq3):w.heap.size ≤ gb103));have GE103:=GW103;replace HB:=am (below_step aq3 hb);have NB101_103:=am ((by rw [hg];exact Nat.ne_of_lt (blk_lt (g:=gb101) (o:=.cells #[.string a0_0,.string a0_1,.int .i64 a0_2] 26 (0,0)) aq1):gb101 ≠ gb103));have NB103_101:=am ((by rw [hg];exact Nat.ne_of_gt (blk_lt (g:=gb101) (o:=.cells #[.string a0_0,.string a0_1,.int .i64 a0_2] 26 (0,0)) aq1):gb103 ≠ gb101));replace BK101:=am (bb BK101 hb);have NB102_103:=am ((by rw [hg];exact Nat.ne_of_lt (blk_lt (g:=gb102) (o:=.cells #[.string (⟨#[]⟩:ByteArray),.string (⟨#[]⟩:ByteArray),.int .i64 0] 30 (0,0)) aq9):gb102 ≠ gb103));have NB103_102:=am ((by rw [hg];exact Nat.ne_of_gt (blk_lt (g:=gb102) (o:=.cells #[.string (⟨#[]⟩:ByteArray),.string (⟨#[]⟩:ByteArray),.int .i64 0] 30 (0,0)) aq9):gb103 ≠ gb102));replace BK102:=am (blk_below (g:=gb102) (o:=.cells #[.string (⟨#[]⟩:ByteArray),.string (⟨#[]⟩:ByteArray),.int .i64 0] 30 (0,0)) aq9 hb);clear hb hbox hg;have hnb5:=NB101_102.out;have hnc5:=NB102_101.out;have hnb6:=NB101_103.out;have hnc6:=NB103_101.out;obtain ⟨hcz7_0,hcz7_1,hcz7_2,hfz7_0,hfz7_1,hfz7_2⟩:=blk3_ BK101.out;have hnb8:=NB103_102.out;have hnc8:=NB102_103.out;obtain ⟨hcz9_0,hcz9_1,hcz9_2,hfz9_0,hfz9_1,hfz9_2⟩:=blk3_ BK103.out;obtain ⟨hcz10_0,hcz10_1,hcz10_2,hfz10_0,hfz10_1,hfz10_2⟩:=blk3_ BK102.out))
 refine bodyPost_ret (results_cell_row rfl _ _ gb102 30 #[.string a0_0,.string a0_1,.int .i64 a0_2] (0,0) _ rfl (by (with_reducible repeat (first | refine blk_drewN ?_ _ | refine blk_drew ?_ | refine blk_alloc ?_ _));refine blk_put (cs:=#[.string a0_0,.string a0_1,.int .i64 0]) ?_ 2 _ rfl;(with_reducible repeat (first | refine blk_drewN ?_ _ | refine blk_drew ?_ | refine blk_alloc ?_ _));refine blk_put (cs:=#[.string a0_0,.string (⟨#[]⟩:ByteArray),.int .i64 0]) ?_ 1 _ rfl;(with_reducible repeat (first | refine blk_drewN ?_ _ | refine blk_drew ?_ | refine blk_alloc ?_ _));refine blk_put (cs:=#[.string (⟨#[]⟩:ByteArray),.string (⟨#[]⟩:ByteArray),.int .i64 0]) ?_ 0 _ rfl;(with_reducible repeat (first | refine blk_drewN ?_ _ | refine blk_drew ?_ | refine blk_alloc ?_ _));refine blk_far ?_ NB102_103.out _;(with_reducible repeat (first | refine blk_drewN ?_ _ | refine blk_drew ?_ | refine blk_alloc ?_ _));refine blk_far ?_ NB102_103.out _;(with_reducible repeat (first | refine blk_drewN ?_ _ | refine blk_drew ?_ | refine blk_alloc ?_ _));refine blk_far ?_ NB102_103.out _;(with_reducible repeat (first | refine blk_drewN ?_ _ | refine blk_drew ?_ | refine blk_alloc ?_ _));exact BK102.out) Tryz.underlying30 rfl k_r) rfl ?_
 exact ⟨aq7,by repeat (first | (with_reducible first | exact HB.out | apply below_alloc | apply pw_below_drewN | apply below_drew1 | refine below_set ?_ GE101.out | refine below_set ?_ GE102.out | refine below_set ?_ GE103.out) | exact HB.out)⟩

end Go.Proofs.YtldhkbiomingbaaGreatDoor.F

namespace Go.Proofs.YtldhkbiomingbaaGreatDoor.F
open Go.RowKit Go.Proofs.YtldhkbiomingbaaGreatDoor Go.YW.PrintWords Go.YW.PrintMore
theorem szPuzzle_ok {t n:ByteArray} {g:Int} (ht:t.size ≤ 9223372036854775807) (hn:n.size ≤ 9223372036854775807):∃ r,laws_szPuzzle.f t n g 1048576 = some r ∧ (0 ≤ r → t.size ≤ 1048576 ∧ n.size ≤ 1048576):=by
 unfold laws_szPuzzle.f
 have e1:wrap64 (1048576 - (t.size:Int)) = 1048576 - (t.size:Int):=w64 o_m o_m
 rw [e1]
 by_cases h1:1048576 - (t.size:Int) < 0
 ·rw [if_pos h1]
  exact ⟨-1,rfl,fun h=>by omega⟩
 rw [if_neg h1]
 have e2:wrap64 (1048576 - (t.size:Int) - (n.size:Int)) = 1048576 - (t.size:Int) - (n.size:Int):=w64 o_m o_m
 rw [e2]
 by_cases h2:1048576 - (t.size:Int) - (n.size:Int) < 0
 rotate_left
 ·rw [if_neg h2]
  exact ⟨_,rfl,fun h=>by omega⟩
 rw [if_pos h2]
 exact ⟨-1,rfl,fun h=>by omega⟩
end Go.Proofs.YtldhkbiomingbaaGreatDoor.F

namespace Go.Proofs.YtldhkbiomingbaaGreatDoor.F
open Go.Proofs.YtldhkbiomingbaaGreatDoor
open Go.RowKit Go.YW.PrintWords Go.YW.PrintLast Go.YW.PrintMore Go.Lib
def spec_reAll.f (t:ByteArray):Option (List Node × Bool):=some (match srch t with | none=>([],false) | some q=>(nodesOf q.1 q.2.1 q.2.2,true))
theorem spec_reAll.calls (a0:ByteArray) (r1:List Node) (r2:Bool) (w:World) (h:spec_reAll.f a0 = some (r1,r2)) :
  Calls Tryz.prog 72 #[.string a0] w fun e w'=>∃ v0_:Value,e = .returned (.tuple #[v0_,.bool r2]) ∧ Kd.R (ptrK 77 nodeK) 73 w' w.heap.size (fun _=>True) v0_ r1 ∧ Below w.heap.size w w':=by
 have h':=Option.some.inj h
 have hb:(srch a0).isSome = r2:=by
  cases hs:srch a0 with
  | none=>rw [hs] at h';exact (Prod.mk.inj h').2
  | some q=>rw [hs] at h';exact (Prod.mk.inj h').2
 refine (reAll_calls a0 r2 hb w).mono ?_
 rintro e w' ⟨v,rfl,ha,hB⟩
 refine ⟨v,rfl,?_,hB⟩
 rcases ha with ⟨hn,rfl⟩ | ⟨gw,gh,s,hn,hR⟩
 ·rw [hn] at h'
  rw [← (Prod.mk.inj h').1]
  exact Kd.R_nil _ _ _ _ _
 ·rw [hn] at h'
  rw [← (Prod.mk.inj h').1]
  exact hR
def spec_puStates.f (t n:ByteArray) (goal:Int):Option (List Node × Int × Bool):=some (match puS t n goal with | none=>([],0,false) | some q=>(nodesOf q.1 q.2.1 q.2.2.1,((q.2.2.1.F.getD q.2.2.2 0:Nat):Int),decide (q.2.2.1.F.getD q.2.2.2 0 ≤ 40)))
theorem spec_puStates.calls (a0_0 a0_1:ByteArray) (a0_2:Int) (r1:List Node) (r2:Int) (r3:Bool) (w:World) (h:spec_puStates.f a0_0 a0_1 a0_2 = some (r1,r2,r3)) :
  Calls Tryz.prog 53 #[.agg #[.string a0_0,.string a0_1,.int .i64 a0_2]] w fun e w'=>∃ v0_:Value,e = .returned (.tuple #[v0_,.int .i64 r2,.bool r3]) ∧ Kd.R (ptrK 77 nodeK) 73 w' w.heap.size (fun _=>True) v0_ r1 ∧ Below w.heap.size w w':=by
 have h':=Option.some.inj h
 have hb:puFar a0_0 a0_1 a0_2 = (r2,r3):=by
  unfold puFar
  cases hs:puS a0_0 a0_1 a0_2 with
  | none=>rw [hs] at h';exact (Prod.mk.inj h').2
  | some q=>rw [hs] at h';exact (Prod.mk.inj h').2
 refine (puStates_calls a0_0 a0_1 a0_2 r2 r3 hb w).mono ?_
 rintro e w' ⟨v,rfl,ha,hB⟩
 refine ⟨v,rfl,?_,hB⟩
 rcases ha with ⟨hn,rfl⟩ | ⟨gw,gh,s,i,hn,hR⟩
 ·rw [hn] at h'
  rw [← (Prod.mk.inj h').1]
  exact Kd.R_nil _ _ _ _ _
 ·rw [hn] at h'
  rw [← (Prod.mk.inj h').1]
  exact hR
end Go.Proofs.YtldhkbiomingbaaGreatDoor.F

namespace Go.Proofs.YtldhkbiomingbaaGreatDoor.F
open Go.Proofs.YtldhkbiomingbaaGreatDoor
open Go.RowKit Go.YW.PrintWords Go.YW.PrintLast Go.YW.PrintMore
attribute [local go_sem] max2_int min2_int max_two min_two max_three min_three max_four min_four
def spec_reBall.f (k:Nat) (a0:ByteArray) (a1:ByteArray):Option (List Node × Bool):=(spec_tyRead.f k a0).bind fun bt101=>(if bt101.2.2.2 = true then ((spec_reName.f a1).bind fun t108=>(if t108 = true then (if 0 < (a1.size:Int) then ((spec_tiPlace.f k bt101.1 bt101.2.1 bt101.2.2.1 (bt a1 0)).bind fun t109=>(if t109 < 0 then (some (([]:List Node),false)) else ((spec_reAll.f a0).bind fun bt110=>(some (bt110.1,bt110.2))))) else (none)) else (some (([]:List Node),false)))) else (some (([]:List Node),false)))
def spec_reBall.T2:Bool × List (List Nat × List Nat):=(true,[([],[]),([0],[0]),([1],[1]),([2],[2]),([3,2,2],[2,3]),([4,2],[2,4]),([2,5],[2,5]),([6,4],[6]),([7],[7]),([7],[7]),([9,7],[7,9]),([8,10,7,7],[7,8,10]),([11,7],[7,11]),([7,12],[7,12])])
def spec_reBall.B2:List Nat:=[0,1,3,7,15,31,63,127,255,255,767,2047,4095,8191]
theorem spec_reBall.tab2:rtab .any (opsOf Tryz.f79 2) = spec_reBall.T2:=by kernel_rfl
theorem spec_reBall.bits2:waitsOk spec_reBall.T2.2 spec_reBall.B2 = true:=by kernel_rfl
theorem spec_reBall.calls (k:Nat) (a0:ByteArray) (a1:ByteArray) (r1:List Node) (r2:Bool) (w:World) (h:spec_reBall.f k a0 a1 = some (r1,r2)) :
  Calls Tryz.prog 79 #[.string a0,.string a1] w fun e w'=>∃ v0_:Value,e = .returned (.tuple #[v0_,.bool r2]) ∧ Kd.R (ptrK 77 nodeK) 73 w' w.heap.size (fun _=>True) v0_ r1 ∧ Below w.heap.size w w':=by
 have hu75:=Tryz.underlying75
 have HB:=am (Below.refl w.heap.size w)
 have H:((spec_tyRead.f k a0).bind fun bt101=>(if bt101.2.2.2 = true then ((spec_reName.f a1).bind fun t108=>(if t108 = true then (if 0 < (a1.size:Int) then ((spec_tiPlace.f k bt101.1 bt101.2.1 bt101.2.2.1 (bt a1 0)).bind fun t109=>(if t109 < 0 then (some (([]:List Node),false)) else ((spec_reAll.f a0).bind fun bt110=>(some (bt110.1,bt110.2))))) else (none)) else (some (([]:List Node),false)))) else (some (([]:List Node),false)))) = some (r1,r2):=h
 clear h
 replace H:=Option.bind_eq_some_iff.mp H
 obtain ⟨⟨t101,t102,t103,t106⟩,A30,H⟩:=H
 replace H:(if t106 = true then ((spec_reName.f a1).bind fun t108=>(if t108 = true then (if 0 < (a1.size:Int) then ((spec_tiPlace.f k t101 t102 t103 (bt a1 0)).bind fun t109=>(if t109 < 0 then (some (([]:List Node),false)) else ((spec_reAll.f a0).bind fun bt110=>(some (bt110.1,bt110.2))))) else (none)) else (some (([]:List Node),false)))) else (some (([]:List Node),false))) = some (r1,r2):=H
 have A3:=am A30
 clear A30
 by_cases c4:t106 = true
 rotate_left
 ·replace c4:=Bool.eq_false_iff.mpr c4
  subst c4
  have H1:(some (([]:List Node),false)) = some (r1,r2):=by rw [if_neg (show ¬ (false = true) by decide)] at H;exact H
  clear H
  have H:=H1
  clear H1
  simp only [Option.some.injEq,Prod.mk.injEq] at H
  obtain ⟨rfl,rfl⟩:=H
  go_enter Tryz.func79,Tryz.ntmps79
  try go_wp2_with (first | ((with_reducible refine gate_callee (f:=63) rfl ?_);refine goesL_ (some 10) rfl rfl Tryz.func63 k_r rfl #[.string a0] rfl (by (try simp only [List.map_toArray,List.map_cons,List.map_nil]);first | done | rfl | (simp only [List.length_drop,List.length_take];rfl)) ?_;(with_reducible refine (spec_tyRead.calls k a0 t101 t102 t103 false _ A3.out).mono ?_);rintro e w33 ⟨v104,rfl,ho0,hb⟩;refine ⟨_,rfl,?_⟩;have HO105:=am (Kd.R_lower ho0 (below_size (by repeat (first | (with_reducible first | exact HB.out | apply below_alloc | apply pw_below_drewN | apply below_drew1) | exact HB.out))));replace HB:=am (below_step (by repeat (first | (with_reducible first | exact HB.out | apply below_alloc | apply pw_below_drewN | apply below_drew1) | exact HB.out)) hb);(try clear hb);(try clear ho0)) | (refine bx 6 #[.int .i64 0,.int .i64 0,.slice none 0 0] 75 ?_;intro gb107 hg w34 hbox hb;replace HO105:=am (Kd.R_below (by (with_reducible repeat (first | apply Kd.R_alloc | apply Kd.R_drewN | apply Kd.R_drew));exact HO105.out) hb);have BK107:=am (hbox);have GW107:=am ((by rw [hg];exact (below_size (by repeat (first | (with_reducible first | exact HB.out | apply below_alloc | apply pw_below_drewN | apply below_drew1) | exact HB.out))):w.heap.size ≤ gb107));have GE107:=am ((by rw [hg];exact (below_size (by repeat (first | (with_reducible first | exact HB.out | apply below_alloc | apply pw_below_drewN | apply below_drew1) | exact HB.out))):w.heap.size ≤ gb107));replace HB:=am (below_step (by repeat (first | (with_reducible first | exact HB.out | apply below_alloc | apply pw_below_drewN | apply below_drew1) | exact HB.out)) hb);clear hb hbox hg;have hcz35_0:w34.cell? ⟨gb107,0,none⟩ = some (.int .i64 0):=(blk_cell BK107.out 0).trans rfl;have hcz35_1:w34.cell? ⟨gb107,1,none⟩ = some (.int .i64 0):=(blk_cell BK107.out 1).trans rfl;have hcz35_2:w34.cell? ⟨gb107,2,none⟩ = some (.slice none 0 0):=(blk_cell BK107.out 2).trans rfl;have hfz35_0:=blk_frozen BK107.out 0;have hfz35_1:=blk_frozen BK107.out 1;have hfz35_2:=blk_frozen BK107.out 2;obtain ⟨Ao36,co36,eo36⟩:=Kd.R_slice HO105.out;subst eo36))
  have n0_:Aside0 (Kd.R (Kd.int .u8) 5 (((w34.setCell ⟨gb107,0,none⟩ (.int .i64 t101)).setCell ⟨gb107,1,none⟩ (.int .i64 t102)).setCell ⟨gb107,2,none⟩ (.slice Ao36 t103.length co36)) w.heap.size (fun _=>True) (.slice Ao36 t103.length co36) t103):=⟨by (with_reducible repeat (first | apply Kd.R_alloc | apply Kd.R_drewN | apply Kd.R_drew));exact Kd.R_mono (Kd.R_far (p:=⟨gb107,2,none⟩) (Kd.R_far (p:=⟨gb107,1,none⟩) (Kd.R_far (p:=⟨gb107,0,none⟩) (Kd.R_types HO105.out BK107.out d_c) (fun _ hk=>hk.2) (.int .i64 t101)) (fun _ hk=>hk.2) (.int .i64 t102)) (fun _ hk=>hk.2) (.slice Ao36 t103.length co36)) (fun _ hk=>trivial)⟩
  have n1_:Aside0 ((((w34.setCell ⟨gb107,0,none⟩ (.int .i64 t101)).setCell ⟨gb107,1,none⟩ (.int .i64 t102)).setCell ⟨gb107,2,none⟩ (.slice Ao36 t103.length co36)).heap[gb107]? = some (.cells #[.int .i64 t101,.int .i64 t102,.slice Ao36 t103.length co36] 75 (0,0))):=⟨by (with_reducible repeat (first | refine blk_drewN ?_ _ | refine blk_drew ?_ | refine blk_alloc ?_ _));refine blk_put (cs:=#[.int .i64 t101,.int .i64 t102,.slice none 0 0]) ?_ 2 _ rfl;(with_reducible repeat (first | refine blk_drewN ?_ _ | refine blk_drew ?_ | refine blk_alloc ?_ _));refine blk_put (cs:=#[.int .i64 t101,.int .i64 0,.slice none 0 0]) ?_ 1 _ rfl;(with_reducible repeat (first | refine blk_drewN ?_ _ | refine blk_drew ?_ | refine blk_alloc ?_ _));refine blk_put (cs:=#[.int .i64 0,.int .i64 0,.slice none 0 0]) ?_ 0 _ rfl;(with_reducible repeat (first | refine blk_drewN ?_ _ | refine blk_drew ?_ | refine blk_alloc ?_ _));exact BK107.out⟩
  have n2_:Aside0 (Below w.heap.size w (((w34.setCell ⟨gb107,0,none⟩ (.int .i64 t101)).setCell ⟨gb107,1,none⟩ (.int .i64 t102)).setCell ⟨gb107,2,none⟩ (.slice Ao36 t103.length co36))):=⟨by repeat (first | (with_reducible first | exact HB.out | apply below_alloc | apply pw_below_drewN | apply below_drew1 | refine below_set ?_ GE107.out) | exact HB.out)⟩
  (try clear HO105)
  (try clear BK107)
  (try clear HB)
  generalize (((w34.setCell ⟨gb107,0,none⟩ (.int .i64 t101)).setCell ⟨gb107,1,none⟩ (.int .i64 t102)).setCell ⟨gb107,2,none⟩ (.slice Ao36 t103.length co36)) = w37 at n0_ n1_ n2_ ⊢
  have HO105:=n0_
  have BK107:=n1_
  have HB:=n2_
  clear n0_ n1_ n2_
  replace HO105:=am (Kd.R_drew HO105.out)
  replace BK107:=am (blk_drew BK107.out)
  replace HB:=am (below_drew1 HB.out)
  refine start_ (n:=14) (S:=fun w'=>True) (ds:=[]) (bm 14 0) k_r rfl rfl trivial (fun hHeld=>?_);refine with_tabW spec_reBall.tab2 spec_reBall.bits2 (fun HT_ HW_=>?_)
  generalize w37.drew = w38 at HO105 BK107 HB hHeld ⊢
  refine py (i:=0) (N:=some 13) (bm 14 1) ?_
  refine py (i:=1) (N:=some 14) (bm 14 3) ?_
  refine py (i:=2) (N:=some 15) (bm 14 7) ?_
  refine pu (i:=3) (N:=some 16) (bm 14 15) ?_
  refine pu (i:=4) (N:=some 17) (bm 14 31) ?_
  refine pu (i:=5) (N:=some 18) (bm 14 63) ?_
  refine py (i:=6) (N:=some 19) (bm 14 127) ?_
  refine py (i:=7) (N:=some 20) (bm 14 255) ?_
  refine pu (i:=8) (N:=some 21) (bm 14 511) ?_
  refine pu (i:=9) (N:=some 22) (bm 14 1023) ?_
  refine pu (i:=10) (N:=some 23) (bm 14 2047) ?_
  refine pu (i:=11) (N:=some 24) (bm 14 4095) ?_
  refine pu (i:=12) (N:=some 25) (bm 14 8191) ?_
  refine py (i:=13) (N:=some 26) (bm 14 16383) ?_
  refine done_ (done_of HT_.out k_r) ?_
  try go_wp2
  go_ret2
  exact ⟨_,by first | rfl | (simp [errW_none,errW_some] <;> rfl) | (simp [*,errW_none,errW_some] <;> rfl),by first | exact Kd.R_nil _ _ _ _ _ | exact Kd.N_nil _ _ _ _ _ | exact Kd.V_nil _ _ _ _ _ | exact Kd.Q_nil _ _ _ _ _ | exact Kd.S_nil _ _ _ _ _,by repeat (first | (with_reducible first | exact HB.out | apply below_alloc | apply pw_below_drewN | apply below_drew1 | refine below_set ?_ GE107.out) | exact HB.out)⟩
 subst c4
 have H1:((spec_reName.f a1).bind fun t108=>(if t108 = true then (if 0 < (a1.size:Int) then ((spec_tiPlace.f k t101 t102 t103 (bt a1 0)).bind fun t109=>(if t109 < 0 then (some (([]:List Node),false)) else ((spec_reAll.f a0).bind fun bt110=>(some (bt110.1,bt110.2))))) else (none)) else (some (([]:List Node),false)))) = some (r1,r2):=by rw [if_pos rfl] at H;exact H
 clear H
 have H:=H1
 clear H1
 replace H:=Option.bind_eq_some_iff.mp H
 obtain ⟨t108,A50,H⟩:=H
 replace H:(if t108 = true then (if 0 < (a1.size:Int) then ((spec_tiPlace.f k t101 t102 t103 (bt a1 0)).bind fun t109=>(if t109 < 0 then (some (([]:List Node),false)) else ((spec_reAll.f a0).bind fun bt110=>(some (bt110.1,bt110.2))))) else (none)) else (some (([]:List Node),false))) = some (r1,r2):=H
 have A5:=am A50
 clear A50
 by_cases c6:t108 = true
 rotate_left
 ·replace c6:=Bool.eq_false_iff.mpr c6
  subst c6
  have H1:(some (([]:List Node),false)) = some (r1,r2):=by rw [if_neg (show ¬ (false = true) by decide)] at H;exact H
  clear H
  have H:=H1
  clear H1
  simp only [Option.some.injEq,Prod.mk.injEq] at H
  obtain ⟨rfl,rfl⟩:=H
  go_enter Tryz.func79,Tryz.ntmps79
  try go_wp2_with (first | ((with_reducible refine gate_callee (f:=63) rfl ?_);refine goesL_ (some 10) rfl rfl Tryz.func63 k_r rfl #[.string a0] rfl (by (try simp only [List.map_toArray,List.map_cons,List.map_nil]);first | done | rfl | (simp only [List.length_drop,List.length_take];rfl)) ?_;(with_reducible refine (spec_tyRead.calls k a0 t101 t102 t103 true _ A3.out).mono ?_);rintro e w27 ⟨v104,rfl,ho0,hb⟩;refine ⟨_,rfl,?_⟩;have HO105:=am (Kd.R_lower ho0 (below_size (by repeat (first | (with_reducible first | exact HB.out | apply below_alloc | apply pw_below_drewN | apply below_drew1) | exact HB.out))));replace HB:=am (below_step (by repeat (first | (with_reducible first | exact HB.out | apply below_alloc | apply pw_below_drewN | apply below_drew1) | exact HB.out)) hb);(try clear hb);(try clear ho0)) | (refine bx 6 #[.int .i64 0,.int .i64 0,.slice none 0 0] 75 ?_;intro gb107 hg w28 hbox hb;replace HO105:=am (Kd.R_below (by (with_reducible repeat (first | apply Kd.R_alloc | apply Kd.R_drewN | apply Kd.R_drew));exact HO105.out) hb);have BK107:=am (hbox);have GW107:=am ((by rw [hg];exact (below_size (by repeat (first | (with_reducible first | exact HB.out | apply below_alloc | apply pw_below_drewN | apply below_drew1) | exact HB.out))):w.heap.size ≤ gb107));have GE107:=am ((by rw [hg];exact (below_size (by repeat (first | (with_reducible first | exact HB.out | apply below_alloc | apply pw_below_drewN | apply below_drew1) | exact HB.out))):w.heap.size ≤ gb107));replace HB:=am (below_step (by repeat (first | (with_reducible first | exact HB.out | apply below_alloc | apply pw_below_drewN | apply below_drew1) | exact HB.out)) hb);clear hb hbox hg;have hcz29_0:w28.cell? ⟨gb107,0,none⟩ = some (.int .i64 0):=(blk_cell BK107.out 0).trans rfl;have hcz29_1:w28.cell? ⟨gb107,1,none⟩ = some (.int .i64 0):=(blk_cell BK107.out 1).trans rfl;have hcz29_2:w28.cell? ⟨gb107,2,none⟩ = some (.slice none 0 0):=(blk_cell BK107.out 2).trans rfl;have hfz29_0:=blk_frozen BK107.out 0;have hfz29_1:=blk_frozen BK107.out 1;have hfz29_2:=blk_frozen BK107.out 2;obtain ⟨Ao30,co30,eo30⟩:=Kd.R_slice HO105.out;subst eo30))
  have n0_:Aside0 (Kd.R (Kd.int .u8) 5 (((w28.setCell ⟨gb107,0,none⟩ (.int .i64 t101)).setCell ⟨gb107,1,none⟩ (.int .i64 t102)).setCell ⟨gb107,2,none⟩ (.slice Ao30 t103.length co30)) w.heap.size (fun _=>True) (.slice Ao30 t103.length co30) t103):=⟨by (with_reducible repeat (first | apply Kd.R_alloc | apply Kd.R_drewN | apply Kd.R_drew));exact Kd.R_mono (Kd.R_far (p:=⟨gb107,2,none⟩) (Kd.R_far (p:=⟨gb107,1,none⟩) (Kd.R_far (p:=⟨gb107,0,none⟩) (Kd.R_types HO105.out BK107.out d_c) (fun _ hk=>hk.2) (.int .i64 t101)) (fun _ hk=>hk.2) (.int .i64 t102)) (fun _ hk=>hk.2) (.slice Ao30 t103.length co30)) (fun _ hk=>trivial)⟩
  have n1_:Aside0 ((((w28.setCell ⟨gb107,0,none⟩ (.int .i64 t101)).setCell ⟨gb107,1,none⟩ (.int .i64 t102)).setCell ⟨gb107,2,none⟩ (.slice Ao30 t103.length co30)).heap[gb107]? = some (.cells #[.int .i64 t101,.int .i64 t102,.slice Ao30 t103.length co30] 75 (0,0))):=⟨by (with_reducible repeat (first | refine blk_drewN ?_ _ | refine blk_drew ?_ | refine blk_alloc ?_ _));refine blk_put (cs:=#[.int .i64 t101,.int .i64 t102,.slice none 0 0]) ?_ 2 _ rfl;(with_reducible repeat (first | refine blk_drewN ?_ _ | refine blk_drew ?_ | refine blk_alloc ?_ _));refine blk_put (cs:=#[.int .i64 t101,.int .i64 0,.slice none 0 0]) ?_ 1 _ rfl;(with_reducible repeat (first | refine blk_drewN ?_ _ | refine blk_drew ?_ | refine blk_alloc ?_ _));refine blk_put (cs:=#[.int .i64 0,.int .i64 0,.slice none 0 0]) ?_ 0 _ rfl;(with_reducible repeat (first | refine blk_drewN ?_ _ | refine blk_drew ?_ | refine blk_alloc ?_ _));exact BK107.out⟩
  have n2_:Aside0 (Below w.heap.size w (((w28.setCell ⟨gb107,0,none⟩ (.int .i64 t101)).setCell ⟨gb107,1,none⟩ (.int .i64 t102)).setCell ⟨gb107,2,none⟩ (.slice Ao30 t103.length co30))):=⟨by repeat (first | (with_reducible first | exact HB.out | apply below_alloc | apply pw_below_drewN | apply below_drew1 | refine below_set ?_ GE107.out) | exact HB.out)⟩
  (try clear HO105)
  (try clear BK107)
  (try clear HB)
  generalize (((w28.setCell ⟨gb107,0,none⟩ (.int .i64 t101)).setCell ⟨gb107,1,none⟩ (.int .i64 t102)).setCell ⟨gb107,2,none⟩ (.slice Ao30 t103.length co30)) = w31 at n0_ n1_ n2_ ⊢
  have HO105:=n0_
  have BK107:=n1_
  have HB:=n2_
  clear n0_ n1_ n2_
  replace HO105:=am (Kd.R_drew HO105.out)
  replace BK107:=am (blk_drew BK107.out)
  replace HB:=am (below_drew1 HB.out)
  refine start_ (n:=14) (S:=fun w'=>True) (ds:=[]) (bm 14 0) k_r rfl rfl trivial (fun hHeld=>?_);refine with_tabW spec_reBall.tab2 spec_reBall.bits2 (fun HT_ HW_=>?_)
  generalize w31.drew = w32 at HO105 BK107 HB hHeld ⊢
  refine py (i:=0) (N:=some 13) (bm 14 1) ?_
  refine py (i:=1) (N:=some 14) (bm 14 3) ?_
  refine py (i:=2) (N:=some 15) (bm 14 7) ?_
  refine py (i:=3) (N:=some 16) (bm 14 15) ?_
  refine one_ (i:=4) (N:=some 17) (bm 14 31) rfl rfl (one_of HT_.out k_r) d_c (fun K hK=>?_)
  refine goes_ Tryz.func106 k_r rfl #[.string a1] (by rfl) rfl rfl (by (try simp only [List.map_toArray,List.map_cons,List.map_nil]);first | done | rfl | (simp only [List.length_drop,List.length_take];rfl)) ?_
  with_reducible refine (spec_reName.calls a1 false _ A5.out).mono ?_
  rintro e w' ⟨rfl,⟨nd,rfl⟩⟩
  refine ⟨_,rfl,?_⟩
  refine hK.out _ _ trivial (fun hHeld=>?_)
  clear hK K
  refine nm (some 17) ?_
  refine py (i:=5) (N:=some 18) (bm 14 63) ?_
  refine py (i:=6) (N:=some 19) (bm 14 127) ?_
  refine py (i:=7) (N:=some 20) (bm 14 255) ?_
  refine pu (i:=8) (N:=some 21) (bm 14 511) ?_
  refine pu (i:=9) (N:=some 22) (bm 14 1023) ?_
  refine pu (i:=10) (N:=some 23) (bm 14 2047) ?_
  refine pu (i:=11) (N:=some 24) (bm 14 4095) ?_
  refine pu (i:=12) (N:=some 25) (bm 14 8191) ?_
  refine py (i:=13) (N:=some 26) (bm 14 16383) ?_
  refine done_ (done_of HT_.out k_r) ?_
  try go_wp2
  go_ret2
  exact ⟨_,by first | rfl | (simp [errW_none,errW_some] <;> rfl) | (simp [*,errW_none,errW_some] <;> rfl),by first | exact Kd.R_nil _ _ _ _ _ | exact Kd.N_nil _ _ _ _ _ | exact Kd.V_nil _ _ _ _ _ | exact Kd.Q_nil _ _ _ _ _ | exact Kd.S_nil _ _ _ _ _,by repeat (first | (with_reducible first | exact HB.out | apply below_alloc | apply pw_below_drewN | apply below_drew1 | refine below_set ?_ GE107.out) | exact HB.out)⟩
 subst c6
 have H1:(if 0 < (a1.size:Int) then ((spec_tiPlace.f k t101 t102 t103 (bt a1 0)).bind fun t109=>(if t109 < 0 then (some (([]:List Node),false)) else ((spec_reAll.f a0).bind fun bt110=>(some (bt110.1,bt110.2))))) else (none)) = some (r1,r2):=by rw [if_pos rfl] at H;exact H
 clear H
 have H:=H1
 clear H1
 replace H:=gd H
 obtain ⟨c7,H⟩:=H
 have c7b0:decide (0 < (a1.size:Int)) = true:=decide_eq_true c7
 have c7b1:decide (0 < a1.size) = true:=decide_eq_true o_m
 clear c7
 replace H:=Option.bind_eq_some_iff.mp H
 obtain ⟨t109,A90,H⟩:=H
 replace H:(if t109 < 0 then (some (([]:List Node),false)) else ((spec_reAll.f a0).bind fun bt110=>(some (bt110.1,bt110.2)))) = some (r1,r2):=H
 have A9:=am A90
 clear A90
 by_cases c10:t109 < 0
 ·rw [if_pos c10] at H
  have c10b0:decide (t109 < 0) = true:=decide_eq_true c10
  clear c10
  simp only [Option.some.injEq,Prod.mk.injEq] at H
  obtain ⟨rfl,rfl⟩:=H
  go_enter Tryz.func79,Tryz.ntmps79
  try go_wp2_with (first | ((with_reducible refine gate_callee (f:=63) rfl ?_);refine goesL_ (some 10) rfl rfl Tryz.func63 k_r rfl #[.string a0] rfl (by (try simp only [List.map_toArray,List.map_cons,List.map_nil]);first | done | rfl | (simp only [List.length_drop,List.length_take];rfl)) ?_;(with_reducible refine (spec_tyRead.calls k a0 t101 t102 t103 true _ A3.out).mono ?_);rintro e w11 ⟨v104,rfl,ho0,hb⟩;refine ⟨_,rfl,?_⟩;have HO105:=am (Kd.R_lower ho0 (below_size (by repeat (first | (with_reducible first | exact HB.out | apply below_alloc | apply pw_below_drewN | apply below_drew1) | exact HB.out))));replace HB:=am (below_step (by repeat (first | (with_reducible first | exact HB.out | apply below_alloc | apply pw_below_drewN | apply below_drew1) | exact HB.out)) hb);(try clear hb);(try clear ho0)) | (refine bx 6 #[.int .i64 0,.int .i64 0,.slice none 0 0] 75 ?_;intro gb107 hg w12 hbox hb;replace HO105:=am (Kd.R_below (by (with_reducible repeat (first | apply Kd.R_alloc | apply Kd.R_drewN | apply Kd.R_drew));exact HO105.out) hb);have BK107:=am (hbox);have GW107:=am ((by rw [hg];exact (below_size (by repeat (first | (with_reducible first | exact HB.out | apply below_alloc | apply pw_below_drewN | apply below_drew1) | exact HB.out))):w.heap.size ≤ gb107));have GE107:=am ((by rw [hg];exact (below_size (by repeat (first | (with_reducible first | exact HB.out | apply below_alloc | apply pw_below_drewN | apply below_drew1) | exact HB.out))):w.heap.size ≤ gb107));replace HB:=am (below_step (by repeat (first | (with_reducible first | exact HB.out | apply below_alloc | apply pw_below_drewN | apply below_drew1) | exact HB.out)) hb);clear hb hbox hg;have hcz13_0:w12.cell? ⟨gb107,0,none⟩ = some (.int .i64 0):=(blk_cell BK107.out 0).trans rfl;have hcz13_1:w12.cell? ⟨gb107,1,none⟩ = some (.int .i64 0):=(blk_cell BK107.out 1).trans rfl;have hcz13_2:w12.cell? ⟨gb107,2,none⟩ = some (.slice none 0 0):=(blk_cell BK107.out 2).trans rfl;have hfz13_0:=blk_frozen BK107.out 0;have hfz13_1:=blk_frozen BK107.out 1;have hfz13_2:=blk_frozen BK107.out 2;obtain ⟨Ao14,co14,eo14⟩:=Kd.R_slice HO105.out;subst eo14))
  have n0_:Aside0 (Kd.R (Kd.int .u8) 5 (((w12.setCell ⟨gb107,0,none⟩ (.int .i64 t101)).setCell ⟨gb107,1,none⟩ (.int .i64 t102)).setCell ⟨gb107,2,none⟩ (.slice Ao14 t103.length co14)) w.heap.size (fun _=>True) (.slice Ao14 t103.length co14) t103):=⟨by (with_reducible repeat (first | apply Kd.R_alloc | apply Kd.R_drewN | apply Kd.R_drew));exact Kd.R_mono (Kd.R_far (p:=⟨gb107,2,none⟩) (Kd.R_far (p:=⟨gb107,1,none⟩) (Kd.R_far (p:=⟨gb107,0,none⟩) (Kd.R_types HO105.out BK107.out d_c) (fun _ hk=>hk.2) (.int .i64 t101)) (fun _ hk=>hk.2) (.int .i64 t102)) (fun _ hk=>hk.2) (.slice Ao14 t103.length co14)) (fun _ hk=>trivial)⟩
  have n1_:Aside0 ((((w12.setCell ⟨gb107,0,none⟩ (.int .i64 t101)).setCell ⟨gb107,1,none⟩ (.int .i64 t102)).setCell ⟨gb107,2,none⟩ (.slice Ao14 t103.length co14)).heap[gb107]? = some (.cells #[.int .i64 t101,.int .i64 t102,.slice Ao14 t103.length co14] 75 (0,0))):=⟨by (with_reducible repeat (first | refine blk_drewN ?_ _ | refine blk_drew ?_ | refine blk_alloc ?_ _));refine blk_put (cs:=#[.int .i64 t101,.int .i64 t102,.slice none 0 0]) ?_ 2 _ rfl;(with_reducible repeat (first | refine blk_drewN ?_ _ | refine blk_drew ?_ | refine blk_alloc ?_ _));refine blk_put (cs:=#[.int .i64 t101,.int .i64 0,.slice none 0 0]) ?_ 1 _ rfl;(with_reducible repeat (first | refine blk_drewN ?_ _ | refine blk_drew ?_ | refine blk_alloc ?_ _));refine blk_put (cs:=#[.int .i64 0,.int .i64 0,.slice none 0 0]) ?_ 0 _ rfl;(with_reducible repeat (first | refine blk_drewN ?_ _ | refine blk_drew ?_ | refine blk_alloc ?_ _));exact BK107.out⟩
  have n2_:Aside0 (Below w.heap.size w (((w12.setCell ⟨gb107,0,none⟩ (.int .i64 t101)).setCell ⟨gb107,1,none⟩ (.int .i64 t102)).setCell ⟨gb107,2,none⟩ (.slice Ao14 t103.length co14))):=⟨by repeat (first | (with_reducible first | exact HB.out | apply below_alloc | apply pw_below_drewN | apply below_drew1 | refine below_set ?_ GE107.out) | exact HB.out)⟩
  (try clear HO105)
  (try clear BK107)
  (try clear HB)
  generalize (((w12.setCell ⟨gb107,0,none⟩ (.int .i64 t101)).setCell ⟨gb107,1,none⟩ (.int .i64 t102)).setCell ⟨gb107,2,none⟩ (.slice Ao14 t103.length co14)) = w15 at n0_ n1_ n2_ ⊢
  have HO105:=n0_
  have BK107:=n1_
  have HB:=n2_
  clear n0_ n1_ n2_
  replace HO105:=am (Kd.R_drew HO105.out)
  replace BK107:=am (blk_drew BK107.out)
  replace HB:=am (below_drew1 HB.out)
  refine start_ (n:=14) (S:=fun w'=>w'.cell? ⟨gb107,0,none⟩ = some (.int .i64 t101) ∧ w'.cell? ⟨gb107,1,none⟩ = some (.int .i64 t102) ∧ w'.cell? ⟨gb107,2,none⟩ = some (.slice Ao14 t103.length co14)) (ds:=[]) (bm 14 0) k_r rfl rfl ⟨bk BK107 0,bk BK107 1,bk BK107 2⟩ (fun hHeld=>?_);refine with_tabW spec_reBall.tab2 spec_reBall.bits2 (fun HT_ HW_=>?_)
  generalize w15.drew = w16 at HO105 BK107 HB hHeld ⊢
  refine py (i:=0) (N:=some 13) (bm 14 1) ?_
  refine py (i:=1) (N:=some 14) (bm 14 3) ?_
  refine py (i:=2) (N:=some 15) (bm 14 7) ?_
  refine py (i:=3) (N:=some 16) (bm 14 15) ?_
  refine one_ (i:=4) (N:=some 17) (bm 14 31) rfl rfl (one_of HT_.out k_r) d_c (fun K hK=>?_)
  refine goes_ Tryz.func106 k_r rfl #[.string a1] (by rfl) rfl rfl (by (try simp only [List.map_toArray,List.map_cons,List.map_nil]);first | done | rfl | (simp only [List.length_drop,List.length_take];rfl)) ?_
  with_reducible refine (spec_reName.calls a1 true _ A5.out).mono ?_
  rintro e w' ⟨rfl,⟨nd,rfl⟩⟩
  refine ⟨_,rfl,?_⟩
  have p8:0 ≤ (0:Int):=o_m
  have q8:0 < a1.size:=(by have:(0:Int) < (a1.size:Int):=of_decide_eq_true (by first | (with_reducible assumption) | assumption);omega)
  have hx8:∀ h:0 < a1.size,((a1[0]'h).toNat:Int) = bt a1 0:=bt_at a1 0
  clear p8
  have qi8:(0 < (a1.size:Int)) = True:=eq_true (of_decide_eq_true (by first | (with_reducible assumption) | assumption))
  replace q8:=eq_true q8
  refine hK.out _ _ ⟨bk BK107 0,bk BK107 1,bk BK107 2⟩ (fun hHeld=>?_)
  clear hK K
  refine nm (some 17) ?_
  refine py (i:=5) (N:=some 18) (bm 14 63) ?_
  refine py (i:=6) (N:=some 19) (bm 14 127) ?_
  refine py (i:=7) (N:=some 20) (bm 14 255) ?_
  refine py (i:=9) (N:=some 22) (bm 14 767) ?_
  refine tk3 (i:=8) (N:=some 21) (bm 14 1023) hHeld ?_
  refine tk3 (i:=10) (N:=some 23) (bm 14 2047) hHeld ?_
  refine one_ (i:=11) (N:=some 24) (bm 14 4095) rfl rfl (one_of HT_.out k_r) d_c (fun K hK=>?_)
  refine goes_ Tryz.func56 k_r rfl #[.agg #[.int .i64 t101,.int .i64 t102,.slice Ao14 t103.length co14],.int .u8 (bt a1 0)] (by rfl) rfl rfl (by (try simp only [List.map_toArray,List.map_cons,List.map_nil]);first | done | rfl | (simp only [List.length_drop,List.length_take];rfl)) ?_
  with_reducible refine (spec_tiPlace.calls k t101 t102 _ _ t103 (bt a1 0) t109 _ ?side1 ?side2 A9.out).mono ?_
  (case side1=>repeat (first | exact (Kd.R_reads' HO105.out).2.2 | (with_reducible refine Kd.C_alloc ?_ _) | (with_reducible refine Kd.C_drewN ?_ _) | (with_reducible refine Kd.C_drew ?_)))
  (case side2=>exact (Kd.R_reads' HO105.out).2.1)
  rintro e w17 ⟨rfl,hb⟩
  refine ⟨_,rfl,?_⟩
  replace HO105:=am (Kd.R_below (by (with_reducible repeat (first | apply Kd.R_alloc | apply Kd.R_drewN | apply Kd.R_drew));exact HO105.out) hb)
  replace BK107:=am (blk_below (g:=gb107) (o:=.cells #[.int .i64 t101,.int .i64 t102,.slice Ao14 t103.length co14] 75 (0,0)) (by (with_reducible repeat (first | refine blk_drewN ?_ _ | refine blk_drew ?_ | refine blk_alloc ?_ _));exact BK107.out) hb)
  replace HB:=am (below_step (by repeat (first | (with_reducible first | exact HB.out | apply below_alloc | apply pw_below_drewN | apply below_drew1 | refine below_set ?_ GE107.out) | exact HB.out)) hb)
  (try clear hb)
  refine hK.out _ _ ⟨bk BK107 0,bk BK107 1,bk BK107 2⟩ (fun hHeld=>?_)
  clear hK K
  refine nm (some 24) ?_
  refine py (i:=12) (N:=some 25) (bm 14 8191) ?_
  refine py (i:=13) (N:=some 26) (bm 14 16383) ?_
  refine done_ (done_of HT_.out k_r) ?_
  try go_wp2
  go_ret2
  exact ⟨_,by first | rfl | (simp [errW_none,errW_some] <;> rfl) | (simp [*,errW_none,errW_some] <;> rfl),by first | exact Kd.R_nil _ _ _ _ _ | exact Kd.N_nil _ _ _ _ _ | exact Kd.V_nil _ _ _ _ _ | exact Kd.Q_nil _ _ _ _ _ | exact Kd.S_nil _ _ _ _ _,by repeat (first | (with_reducible first | exact HB.out | apply below_alloc | apply pw_below_drewN | apply below_drew1 | refine below_set ?_ GE107.out) | exact HB.out)⟩
 rw [if_neg c10] at H
 have c10b0:decide (t109 < 0) = false:=decide_eq_false c10
 clear c10
 replace H:=Option.bind_eq_some_iff.mp H
 obtain ⟨⟨t110,t111⟩,A180,H⟩:=H
 replace H:(some (t110,t111)) = some (r1,r2):=H
 have A18:=am A180
 clear A180
 simp only [Option.some.injEq,Prod.mk.injEq] at H
 obtain ⟨rfl,rfl⟩:=H
 go_enter Tryz.func79,Tryz.ntmps79
 try go_wp2_with (first | ((with_reducible refine gate_callee (f:=63) rfl ?_);refine goesL_ (some 10) rfl rfl Tryz.func63 k_r rfl #[.string a0] rfl (by (try simp only [List.map_toArray,List.map_cons,List.map_nil]);first | done | rfl | (simp only [List.length_drop,List.length_take];rfl)) ?_;(with_reducible refine (spec_tyRead.calls k a0 t101 t102 t103 true _ A3.out).mono ?_);rintro e w19 ⟨v104,rfl,ho0,hb⟩;refine ⟨_,rfl,?_⟩;have HO105:=am (Kd.R_lower ho0 (below_size (by repeat (first | (with_reducible first | exact HB.out | apply below_alloc | apply pw_below_drewN | apply below_drew1) | exact HB.out))));replace HB:=am (below_step (by repeat (first | (with_reducible first | exact HB.out | apply below_alloc | apply pw_below_drewN | apply below_drew1) | exact HB.out)) hb);(try clear hb);(try clear ho0)) | (refine bx 6 #[.int .i64 0,.int .i64 0,.slice none 0 0] 75 ?_;intro gb107 hg w20 hbox hb;replace HO105:=am (Kd.R_below (by (with_reducible repeat (first | apply Kd.R_alloc | apply Kd.R_drewN | apply Kd.R_drew));exact HO105.out) hb);have BK107:=am (hbox);have GW107:=am ((by rw [hg];exact (below_size (by repeat (first | (with_reducible first | exact HB.out | apply below_alloc | apply pw_below_drewN | apply below_drew1) | exact HB.out))):w.heap.size ≤ gb107));have GE107:=am ((by rw [hg];exact (below_size (by repeat (first | (with_reducible first | exact HB.out | apply below_alloc | apply pw_below_drewN | apply below_drew1) | exact HB.out))):w.heap.size ≤ gb107));replace HB:=am (below_step (by repeat (first | (with_reducible first | exact HB.out | apply below_alloc | apply pw_below_drewN | apply below_drew1) | exact HB.out)) hb);clear hb hbox hg;have hcz21_0:w20.cell? ⟨gb107,0,none⟩ = some (.int .i64 0):=(blk_cell BK107.out 0).trans rfl;have hcz21_1:w20.cell? ⟨gb107,1,none⟩ = some (.int .i64 0):=(blk_cell BK107.out 1).trans rfl;have hcz21_2:w20.cell? ⟨gb107,2,none⟩ = some (.slice none 0 0):=(blk_cell BK107.out 2).trans rfl;have hfz21_0:=blk_frozen BK107.out 0;have hfz21_1:=blk_frozen BK107.out 1;have hfz21_2:=blk_frozen BK107.out 2;obtain ⟨Ao22,co22,eo22⟩:=Kd.R_slice HO105.out;subst eo22))
 have n0_:Aside0 (Kd.R (Kd.int .u8) 5 (((w20.setCell ⟨gb107,0,none⟩ (.int .i64 t101)).setCell ⟨gb107,1,none⟩ (.int .i64 t102)).setCell ⟨gb107,2,none⟩ (.slice Ao22 t103.length co22)) w.heap.size (fun _=>True) (.slice Ao22 t103.length co22) t103):=⟨by (with_reducible repeat (first | apply Kd.R_alloc | apply Kd.R_drewN | apply Kd.R_drew));exact Kd.R_mono (Kd.R_far (p:=⟨gb107,2,none⟩) (Kd.R_far (p:=⟨gb107,1,none⟩) (Kd.R_far (p:=⟨gb107,0,none⟩) (Kd.R_types HO105.out BK107.out d_c) (fun _ hk=>hk.2) (.int .i64 t101)) (fun _ hk=>hk.2) (.int .i64 t102)) (fun _ hk=>hk.2) (.slice Ao22 t103.length co22)) (fun _ hk=>trivial)⟩
 have n1_:Aside0 ((((w20.setCell ⟨gb107,0,none⟩ (.int .i64 t101)).setCell ⟨gb107,1,none⟩ (.int .i64 t102)).setCell ⟨gb107,2,none⟩ (.slice Ao22 t103.length co22)).heap[gb107]? = some (.cells #[.int .i64 t101,.int .i64 t102,.slice Ao22 t103.length co22] 75 (0,0))):=⟨by (with_reducible repeat (first | refine blk_drewN ?_ _ | refine blk_drew ?_ | refine blk_alloc ?_ _));refine blk_put (cs:=#[.int .i64 t101,.int .i64 t102,.slice none 0 0]) ?_ 2 _ rfl;(with_reducible repeat (first | refine blk_drewN ?_ _ | refine blk_drew ?_ | refine blk_alloc ?_ _));refine blk_put (cs:=#[.int .i64 t101,.int .i64 0,.slice none 0 0]) ?_ 1 _ rfl;(with_reducible repeat (first | refine blk_drewN ?_ _ | refine blk_drew ?_ | refine blk_alloc ?_ _));refine blk_put (cs:=#[.int .i64 0,.int .i64 0,.slice none 0 0]) ?_ 0 _ rfl;(with_reducible repeat (first | refine blk_drewN ?_ _ | refine blk_drew ?_ | refine blk_alloc ?_ _));exact BK107.out⟩
 have n2_:Aside0 (Below w.heap.size w (((w20.setCell ⟨gb107,0,none⟩ (.int .i64 t101)).setCell ⟨gb107,1,none⟩ (.int .i64 t102)).setCell ⟨gb107,2,none⟩ (.slice Ao22 t103.length co22))):=⟨by repeat (first | (with_reducible first | exact HB.out | apply below_alloc | apply pw_below_drewN | apply below_drew1 | refine below_set ?_ GE107.out) | exact HB.out)⟩
 (try clear HO105)
 (try clear BK107)
 (try clear HB)
 generalize (((w20.setCell ⟨gb107,0,none⟩ (.int .i64 t101)).setCell ⟨gb107,1,none⟩ (.int .i64 t102)).setCell ⟨gb107,2,none⟩ (.slice Ao22 t103.length co22)) = w23 at n0_ n1_ n2_ ⊢
 have HO105:=n0_
 have BK107:=n1_
 have HB:=n2_
 clear n0_ n1_ n2_
 replace HO105:=am (Kd.R_drew HO105.out)
 replace BK107:=am (blk_drew BK107.out)
 replace HB:=am (below_drew1 HB.out)
 refine start_ (n:=14) (S:=fun w'=>w'.cell? ⟨gb107,0,none⟩ = some (.int .i64 t101) ∧ w'.cell? ⟨gb107,1,none⟩ = some (.int .i64 t102) ∧ w'.cell? ⟨gb107,2,none⟩ = some (.slice Ao22 t103.length co22)) (ds:=[]) (bm 14 0) k_r rfl rfl ⟨bk BK107 0,bk BK107 1,bk BK107 2⟩ (fun hHeld=>?_);refine with_tabW spec_reBall.tab2 spec_reBall.bits2 (fun HT_ HW_=>?_)
 generalize w23.drew = w24 at HO105 BK107 HB hHeld ⊢
 refine py (i:=0) (N:=some 13) (bm 14 1) ?_
 refine py (i:=1) (N:=some 14) (bm 14 3) ?_
 refine py (i:=2) (N:=some 15) (bm 14 7) ?_
 refine py (i:=3) (N:=some 16) (bm 14 15) ?_
 refine one_ (i:=4) (N:=some 17) (bm 14 31) rfl rfl (one_of HT_.out k_r) d_c (fun K hK=>?_)
 refine goes_ Tryz.func106 k_r rfl #[.string a1] (by rfl) rfl rfl (by (try simp only [List.map_toArray,List.map_cons,List.map_nil]);first | done | rfl | (simp only [List.length_drop,List.length_take];rfl)) ?_
 with_reducible refine (spec_reName.calls a1 true _ A5.out).mono ?_
 rintro e w' ⟨rfl,⟨nd,rfl⟩⟩
 refine ⟨_,rfl,?_⟩
 have p8:0 ≤ (0:Int):=o_m
 have q8:0 < a1.size:=(by have:(0:Int) < (a1.size:Int):=of_decide_eq_true (by first | (with_reducible assumption) | assumption);omega)
 have hx8:∀ h:0 < a1.size,((a1[0]'h).toNat:Int) = bt a1 0:=bt_at a1 0
 clear p8
 have qi8:(0 < (a1.size:Int)) = True:=eq_true (of_decide_eq_true (by first | (with_reducible assumption) | assumption))
 replace q8:=eq_true q8
 refine hK.out _ _ ⟨bk BK107 0,bk BK107 1,bk BK107 2⟩ (fun hHeld=>?_)
 clear hK K
 refine nm (some 17) ?_
 refine py (i:=5) (N:=some 18) (bm 14 63) ?_
 refine py (i:=6) (N:=some 19) (bm 14 127) ?_
 refine py (i:=7) (N:=some 20) (bm 14 255) ?_
 refine py (i:=9) (N:=some 22) (bm 14 767) ?_
 refine tk3 (i:=8) (N:=some 21) (bm 14 1023) hHeld ?_
 refine tk3 (i:=10) (N:=some 23) (bm 14 2047) hHeld ?_
 refine one_ (i:=11) (N:=some 24) (bm 14 4095) rfl rfl (one_of HT_.out k_r) d_c (fun K hK=>?_)
 refine goes_ Tryz.func56 k_r rfl #[.agg #[.int .i64 t101,.int .i64 t102,.slice Ao22 t103.length co22],.int .u8 (bt a1 0)] (by rfl) rfl rfl (by (try simp only [List.map_toArray,List.map_cons,List.map_nil]);first | done | rfl | (simp only [List.length_drop,List.length_take];rfl)) ?_
 with_reducible refine (spec_tiPlace.calls k t101 t102 _ _ t103 (bt a1 0) t109 _ ?side1 ?side2 A9.out).mono ?_
 (case side1=>repeat (first | exact (Kd.R_reads' HO105.out).2.2 | (with_reducible refine Kd.C_alloc ?_ _) | (with_reducible refine Kd.C_drewN ?_ _) | (with_reducible refine Kd.C_drew ?_)))
 (case side2=>exact (Kd.R_reads' HO105.out).2.1)
 rintro e w25 ⟨rfl,hb⟩
 refine ⟨_,rfl,?_⟩
 replace HO105:=am (Kd.R_below (by (with_reducible repeat (first | apply Kd.R_alloc | apply Kd.R_drewN | apply Kd.R_drew));exact HO105.out) hb)
 replace BK107:=am (blk_below (g:=gb107) (o:=.cells #[.int .i64 t101,.int .i64 t102,.slice Ao22 t103.length co22] 75 (0,0)) (by (with_reducible repeat (first | refine blk_drewN ?_ _ | refine blk_drew ?_ | refine blk_alloc ?_ _));exact BK107.out) hb)
 replace HB:=am (below_step (by repeat (first | (with_reducible first | exact HB.out | apply below_alloc | apply pw_below_drewN | apply below_drew1 | refine below_set ?_ GE107.out) | exact HB.out)) hb)
 (try clear hb)
 refine hK.out _ _ ⟨bk BK107 0,bk BK107 1,bk BK107 2⟩ (fun hHeld=>?_)
 clear hK K
 refine nm (some 24) ?_
 refine py (i:=12) (N:=some 25) (bm 14 8191) ?_
 refine py (i:=13) (N:=some 26) (bm 14 16383) ?_
 refine done_ (done_of HT_.out k_r) ?_
 try go_wp2_with (first | ((with_reducible refine gate_callee (f:=72) rfl ?_);refine goesL_ (some 28) rfl rfl Tryz.func72 k_r rfl #[.string a0] rfl (by (try simp only [List.map_toArray,List.map_cons,List.map_nil]);first | done | rfl | (simp only [List.length_drop,List.length_take];rfl)) ?_;(with_reducible refine (spec_reAll.calls a0 t110 t111 _ A18.out).mono ?_);rintro e w26 ⟨v112,rfl,ho0,hb⟩;refine ⟨_,rfl,?_⟩;replace HO105:=am (Kd.R_below (by (with_reducible repeat (first | apply Kd.R_alloc | apply Kd.R_drewN | apply Kd.R_drew));exact HO105.out) hb);have HO113:=am (Kd.R_lower ho0 (below_size (by repeat (first | (with_reducible first | exact HB.out | apply below_alloc | apply pw_below_drewN | apply below_drew1 | refine below_set ?_ GE107.out) | exact HB.out))));replace BK107:=am (blk_below (g:=gb107) (o:=.cells #[.int .i64 t101,.int .i64 t102,.slice Ao22 t103.length co22] 75 (0,0)) (by (with_reducible repeat (first | refine blk_drewN ?_ _ | refine blk_drew ?_ | refine blk_alloc ?_ _));exact BK107.out) hb);replace HB:=am (below_step (by repeat (first | (with_reducible first | exact HB.out | apply below_alloc | apply pw_below_drewN | apply below_drew1 | refine below_set ?_ GE107.out) | exact HB.out)) hb);(try clear hb);(try clear ho0)))
 go_ret2
 exact ⟨_,by first | rfl | (simp [errW_none,errW_some] <;> rfl) | (simp [*,errW_none,errW_some] <;> rfl),by (with_reducible repeat (first | apply Kd.R_alloc | apply Kd.R_drewN | apply Kd.R_drew));exact HO113.out,by repeat (first | (with_reducible first | exact HB.out | apply below_alloc | apply pw_below_drewN | apply below_drew1 | refine below_set ?_ GE107.out) | exact HB.out)⟩
end Go.Proofs.YtldhkbiomingbaaGreatDoor.F

namespace Go.Proofs.YtldhkbiomingbaaGreatDoor.F
open Go.Proofs.YtldhkbiomingbaaGreatDoor
open Go.RowKit Go.YW.PrintWords Go.YW.PrintMore
def ballS (t n:ByteArray):Option (Nat × Nat × RS):=match tyGrid (bytesOf t) with
 | none=>none
 | some g=>if oneName n = true ∧ firstAt g.2.2 (bt n 0) < g.2.2.length then srch t else none
def ballA (t n:ByteArray):List Node × Bool:=match ballS t n with | none=>([],false) | some q=>(nodesOf q.1 q.2.1 q.2.2,true)
theorem ballS_some {t n:ByteArray} {w h:Nat} {s:RS} (e:ballS t n = some (w,h,s)):srch t = some (w,h,s) ∧ oneName n = true:=by
 unfold ballS at e
 split at e
 ·cases e
 ·rename_i g _
  by_cases c:oneName n = true ∧ firstAt g.2.2 (bt n 0) < g.2.2.length
  rotate_left
  ·rw [if_neg c] at e;cases e
  rw [if_pos c] at e;exact ⟨e,c.1⟩
theorem spec_reBall_ev (t n:ByteArray):Ev (fun k=>spec_reBall.f k t n) (ballA t n):=by
 have hT:=spec_tyRead_ev t
 unfold ballA ballS
 refine Ev.bind hT ?_
 cases hg:tyGrid (bytesOf t) with
 | none=>exact Ev.congr (fun k=>if_neg (by simp [ansT])) (Ev.now _)
 | some g =>
  obtain ⟨w,h,cs⟩:=g
  obtain ⟨v,_⟩:=textB_grid hg
  have hs:=tray_small v
  simp only at hs ⊢
  refine Ev.congr (fun k=>if_pos rfl) ?_
  refine Ev.congr (fun k=>by rw [reName_eq,Option.bind_some]) ?_
  by_cases hn:oneName n = true
  rotate_left
  ·rw [if_neg (show ¬ (oneName n = true ∧ firstAt cs (bt n 0) < cs.length) from fun q=>hn q.1)]
   exact Ev.congr (fun k=>if_neg hn) (Ev.now _)
  have hz:=name_byte hn
  refine Ev.congr (fun k=>by rw [if_pos hn,if_pos o_m]) ?_
  refine Ev.bind (tiPlace_ev (cs:=cs) o_m w h (bt n 0)) ?_
  by_cases hf:firstAt cs (bt n 0) < cs.length
  rotate_left
  ·rw [if_neg hf,if_neg (show ¬ (oneName n = true ∧ firstAt cs (bt n 0) < cs.length) from fun q=>hf q.2)]
   exact Ev.congr (fun k=>if_pos (show (-1:Int) < 0 by decide)) (Ev.now _)
  rw [if_pos hf,if_pos (show oneName n = true ∧ firstAt cs (bt n 0) < cs.length from ⟨hn,hf⟩)]
  refine Ev.congr (fun k=>if_neg (show ¬ ((firstAt cs (bt n 0):Nat):Int) < 0 by omega)) ?_
  refine Ev.congr (f:=fun _=>some (match srch t with | none=>([],false) | some q=>(nodesOf q.1 q.2.1 q.2.2,true))) (fun k=>?_) (Ev.now _)
  unfold spec_reAll.f
  rfl
end Go.Proofs.YtldhkbiomingbaaGreatDoor.F

namespace Go.Proofs.YtldhkbiomingbaaGreatDoor.F
open Go.Proofs.YtldhkbiomingbaaGreatDoor
open Go.RowKit Go.YW.PrintWords Go.YW.PrintLast Go.YW.PrintMore
attribute [local go_sem] max2_int min2_int max_two min_two max_three min_three max_four min_four
def spec_tiDirs.f  : Option (ByteArray):=some (⟨#[117,114,100,108]⟩:ByteArray)
theorem spec_tiDirs.calls  (r:ByteArray) (w:World) (h:spec_tiDirs.f  = some r) :
  Calls Tryz.prog 95 #[] w fun e w'=>e = .returned (.string r) ∧ Drawn0 w w':=by
 have H:(some (⟨#[117,114,100,108]⟩:ByteArray)) = some r:=h
 clear h
 obtain rfl:=Option.some.inj H
 go_enter Tryz.func95,Tryz.ntmps95
 go_wp2
 go_ret
 exact ⟨aq8,aq17⟩
end Go.Proofs.YtldhkbiomingbaaGreatDoor.F

namespace Go.Proofs.YtldhkbiomingbaaGreatDoor.F
open Go.Proofs.YtldhkbiomingbaaGreatDoor
open Go.RowKit Go.YW.PrintWords Go.YW.PrintLast Go.YW.PrintMore Go.Lib
attribute [local go_sem] max2_int min2_int
def WordsAt (ns:List Node) (wd:Nat → ByteArray):Prop:=∀ i (hi:i < ns.length),(i = 0 → (ns[i]'hi).before = -1 ∧ wd 0 = (⟨#[]⟩:ByteArray)) ∧ (0 < i → ∃ b d:Nat,(ns[i]'hi).before = (b:Int) ∧ b < i ∧ (ns[i]'hi).dir = (d:Int) ∧ d < 4 ∧ wd i = wd b ++ (⟨#[117,114,100,108]⟩:ByteArray).extract d (d + 1)) ∧ (wd i).size < 65536
theorem reWord_calls (b o c:Nat) (ns:List Node) (at0:Nat) (wd:Nat → ByteArray) (W:World) (hc:ns.length ≤ c) (hn:ns.length < 65536) (ha:at0 < ns.length) (hw:WordsAt ns wd) (hat:∀ W',Below W.heap.size W W' → ∀ i (hi:i < ns.length),NodeC W' b o i (ns[i]'hi)) :
  Calls Tryz.prog 93 #[.slice (some ⟨b,o,none⟩) ns.length c,.int .i64 at0] W fun e w'=>e = .returned (.string (wd at0)) ∧ Below W.heap.size W w':=by
 have HAT:=am hat
 have HW:=am hw
 have HC:=am hc
 have HN:=am hn
 have HA:=am ha
 clear hat hc hn hw ha
 go_enter Tryz.func93,Tryz.ntmps93
 go_wp2
 go_loopw [1,5] (fun v1 v5 wr=>∃ (i:Nat) (acc:ByteArray),i < ns.length ∧ v1 = .int .i64 i ∧ v5 = .string acc ∧ Aside0 (wd i ++ acc = wd at0) ∧ Aside0 (Below W.heap.size W wr)) (fun v1 _ _=>(intOf v1).toNat)
 case atStart=>exact ⟨at0,(⟨#[]⟩:ByteArray),HA.out,rfl,rfl,⟨ByteArray.append_empty⟩,⟨Below.refl _ _⟩⟩
 case round =>
  obtain ⟨i,acc,hi,rfl,rfl,HV,HB⟩:=hrel
  obtain ⟨p,Ag,cg,Ax,cx,zp,z0,z1,z2,z3,z4,z5,z6,z7,_⟩:=HAT.out wr HB.out i hi
  obtain ⟨h0,h1,h2⟩:=HW.out i hi
  have hiI:(i:Int) < (ns.length:Int):=by omega
  have HI:=am hi
  clear z0 z1 z2 z3 z4 z5
  by_cases e0:i = 0
  ·obtain ⟨q1,q2⟩:=h0 e0
   rw [q1] at z6
   have HE:=am (show acc = wd at0 from by have:=HV.out;rw [e0,q2] at this;rw [← this,show (⟨#[]⟩:ByteArray) = ByteArray.empty from rfl,ByteArray.empty_append])
   clear h0 h1 h2 q1 q2 e0
   go_wp2
   go_ret
   exact ⟨by rw [HE.out];rfl,HB.out⟩
  obtain ⟨b',d,q1,q2,q3,q4,q5⟩:=h1 o_m
  rw [q1] at z6
  rw [q3] at z7
  have HS:=am (show (wd at0).size < 65536 from (HW.out at0 HA.out).2.2)
  have HE:=am (show wd b' ++ ((⟨#[117,114,100,108]⟩:ByteArray).extract d (d + 1) ++ acc) = wd at0 from by rw [← HV.out,q5,ByteArray.append_assoc])
  have hge:(0:Int) ≤ (b':Int):=by omega
  have hd0:(0:Int) ≤ (d:Int):=by omega
  have hd1:(d:Int) ≤ (d:Int) + 1:=by omega
  have hd2:(d:Int) + 1 ≤ 4:=by omega
  have hw1:IntKind.i64.wrap ((d:Int) + 1) = (d:Int) + 1:=by rw [IntKind.wrap_i64];omega
  have HLT:=am q2
  have HSZ:=am (show (((⟨#[117,114,100,108]⟩:ByteArray).extract d (d + 1)) ++ acc).size < 65536 from by
   have:=HS.out;rw [← HE.out,ByteArray.size_append] at this;omega)
  have hz1:((⟨#[117,114,100,108]⟩:ByteArray).extract d (d + 1)).size + acc.size ≤ 9223372036854775807:=by have:=HSZ.out;rw [ByteArray.size_append] at this;omega
  have hz2:min (d + 1) 4 - d + acc.size ≤ 9223372036854775807:=by rw [ByteArray.size_extract] at hz1;exact hz1
  have hz3:¬ 9223372036854775807 < min (d + 1) 4 - d + acc.size:=by omega
  clear hz1
  have ht1:((d:Int) + 1).toNat = d + 1:=by omega
  clear h0 h1 h2 q1 q2 q3 q4 q5 e0
  go_wp2
  go_region_held3 (fun w'=>w'.cell? ⟨b,o + i,none⟩ = some (.pointer (some ⟨p,0,none⟩)) ∧ w'.cell? ⟨p,7,none⟩ = some (.int .i64 d) ∧ w'.cell? ⟨p,6,none⟩ = some (.int .i64 b')) (first | go_keep)
   ((first
    | (go_simp;go_at_call 95;refine (spec_tiDirs.calls _ _ rfl).mono ?_;rintro e w1 ⟨rfl,⟨nd,rfl⟩⟩)))
  go_wp2
  go_roundw
  case rel=>exact ⟨b',_,Nat.lt_trans HLT.out HI.out,rfl,rfl,⟨HE.out⟩,⟨pw_below_drewN HB.out _⟩⟩
  case measure=>have:=HLT.out;simp [intOf];omega
end Go.Proofs.YtldhkbiomingbaaGreatDoor.F

namespace Go.Proofs.YtldhkbiomingbaaGreatDoor.F
open Go.Proofs.YtldhkbiomingbaaGreatDoor
open Go.RowKit Go.YW.PrintWords Go.YW.PrintMore
theorem dirs_ex {d:Nat} (h:d < 4):(⟨#[117,114,100,108]⟩:ByteArray).extract d (d + 1) = strOfNums [dirB d]:=by
 rcases (by omega:d = 0 ∨ d = 1 ∨ d = 2 ∨ d = 3) with rfl | rfl | rfl | rfl <;> decide
theorem wordsAt_nodes {w h:Nat} {cs:List Int} {s:RS} (o2:RS.Ok2 w h cs s.T.length s):WordsAt (nodesOf w h s) (fun i=>txtW (s.W.getD i [])):=by
 intro i hi
 have o:=o2.ok
 have hil:i < s.T.length:=by rw [nodesOf_len] at hi;exact hi
 rw [nodesOf_get]
 refine ⟨fun e=>?_,fun h0=>?_,?_⟩
 ·subst e
  refine ⟨rfl,?_⟩
  show txtW (s.W.getD 0 []) = _
  rw [o.first];rfl
 ·obtain ⟨b1,b2,b3⟩:=o.back i hil h0
  refine ⟨(s.B.getD i (0,0)).1,(s.B.getD i (0,0)).2,?_,b1,rfl,b2,?_⟩
  ·show (if i = 0 then (-1:Int) else ((s.B.getD i (0,0)).1:Nat)) = _
   rw [if_neg o_m]
  ·show txtW (s.W.getD i []) = txtW (s.W.getD (s.B.getD i (0,0)).1 []) ++ _
   rw [b3,txtW_snoc,dirs_ex b2]
 ·show (txtW (s.W.getD i [])).size < 65536
  rw [txtW_size,o.far i hil]
  have:=far_le o hil
  have:=o.most
  omega
def whichN (p:Nat → Bool) (n:Nat):Nat:=(List.range n).findIdx p
theorem whichN_of {p:Nat → Bool} {n i:Nat} (h:∀ j,j < i → p j = false) (hi:i < n) (he:p i = true):whichN p n = i:=by
 unfold whichN
 rw [List.findIdx_eq (by rw [List.length_range];exact hi)]
 refine ⟨by rw [List.getElem_range];exact he,fun j hj=>by rw [List.getElem_range];exact h j hj⟩
theorem whichN_none {p:Nat → Bool} {n:Nat} (h:∀ j,j < n → p j = false):whichN p n = n:=by
 unfold whichN
 have:(List.range n).findIdx p = (List.range n).length:=by
  rw [List.findIdx_eq_length]
  intro j hj
  exact h j (List.mem_range.1 hj)
 rw [this,List.length_range]
end Go.Proofs.YtldhkbiomingbaaGreatDoor.F

namespace Go.Proofs.YtldhkbiomingbaaGreatDoor.F
open Go.Proofs.YtldhkbiomingbaaGreatDoor
open Go.RowKit Go.YW.PrintWords Go.YW.PrintLast Go.YW.PrintMore Go.Lib
attribute [local go_sem] max2_int min2_int
def hitC (s:RS) (n cell:Int) (k:Nat):Bool:=decide (placeI n (s.T.getD k []) = cell) && decide (s.F.getD k 0 ≤ 40)
def cellW (t n:ByteArray) (cell:Int):ByteArray × Bool:=match ballS t n with
 | none=>((⟨#[]⟩:ByteArray),false)
 | some q=>if whichN (hitC q.2.2 (bt n 0) cell) q.2.2.T.length < q.2.2.T.length then (txtW (q.2.2.W.getD (whichN (hitC q.2.2 (bt n 0) cell) q.2.2.T.length) []),true) else ((⟨#[]⟩:ByteArray),false)
def spec_WordToCell.f (t n:ByteArray) (cell:Int):Option (ByteArray × Bool):=some (cellW t n cell)
theorem spec_WordToCell.calls (a0 a1:ByteArray) (a2:Int) (r1:ByteArray) (r2:Bool) (w:World) (h:spec_WordToCell.f a0 a1 a2 = some (r1,r2)) :
  Calls Tryz.prog 54 #[.string a0,.string a1,.int .i64 a2] w fun e w'=>e = .returned (.tuple #[.string r1,.bool r2]) ∧ Below w.heap.size w w':=by
 obtain ⟨K,hK⟩:=spec_reBall_ev a0 a1
 have hball:=hK K (Nat.le_refl _)
 have HR:=am (show cellW a0 a1 a2 = (r1,r2) from Option.some.inj h)
 have HB:=am (Below.refl w.heap.size w)
 clear hK h
 cases hs:ballS a0 a1 with
 | none =>
  have HA:=am (show spec_reBall.f K a0 a1 = some ([],false) from hball.trans (by unfold ballA;rw [hs]))
  obtain ⟨rfl,rfl⟩:(⟨#[]⟩:ByteArray) = r1 ∧ false = r2:=by have h:=HR.out;unfold cellW at h;rw [hs] at h;exact Prod.mk.inj h
  clear hball hs
  go_enter Tryz.func54,Tryz.ntmps54
  go_wp2_with (first
   | (go_at_call 79;refine (spec_reBall.calls K a0 a1 _ _ _ HA.out).mono ?_;rintro e w1 ⟨v1,rfl,ho1,hb1⟩;obtain ⟨A1,c1,rfl⟩:=Kd.R_slice ho1;have HB1:=am hb1;clear ho1 hb1))
  go_ret2
  exact ⟨rfl,HB1.out⟩
 | some q =>
  obtain ⟨gw,gh,s⟩:=q
  obtain ⟨hsr,hnm⟩:=ballS_some hs
  obtain ⟨cs,_,_,_,_,o2⟩:=srch_some hsr
  have HA:=am (show spec_reBall.f K a0 a1 = some (nodesOf gw gh s,true) from hball.trans (by unfold ballA;rw [hs]))
  have HO2:=am o2
  have HRR:=am (show (if whichN (hitC s (bt a1 0) a2) s.T.length < s.T.length then (txtW (s.W.getD (whichN (hitC s (bt a1 0) a2) s.T.length) []),true) else ((⟨#[]⟩:ByteArray),false)) = (r1,r2) by have h:=HR.out;unfold cellW at h;rw [hs] at h;exact h)
  have hz:=name_byte hnm
  have hnm1:(0:Int) < (a1.size:Int):=by omega
  have hnm2:0 < a1.size:=by omega
  have hbt:∀ h:0 < a1.size,((a1[0]'h).toNat:Int) = bt a1 0:=bt_at a1 0
  have hq0:((0:Int) < (a1.size:Int)) = True:=eq_true hnm1
  clear hball hs hsr hnm o2 HR hz
  go_enter Tryz.func54,Tryz.ntmps54
  go_wp2_with (first
   | (go_at_call 79;refine (spec_reBall.calls K a0 a1 _ _ _ HA.out).mono ?_;rintro e w3 ⟨v3,rfl,ho3,hb3⟩;have HB3:=am hb3;obtain ⟨b,o,c,rfl,hc,hst⟩:=states_open HO2.out ho3;obtain ⟨b',o',c',e',hc',_,hat'⟩:=nodes_open ho3 (nodesOf_ne HO2.out.ok);rw [nodesOf_len] at e' hc';injection e' with e1 _ e2;injection e1 with e1;injection e1 with e1 e3;subst e1 e2 e3;have HST:=am hst;have HNC:=am hat';have HC3:=am hc;clear ho3 hb3 hst hat' hc hc'))
  go_loopw [22] (fun v22 wr=>∃ i:Nat,i ≤ s.T.length ∧ v22 = .int .i64 i ∧ Aside0 (∀ j,j < i → hitC s (bt a1 0) a2 j = false) ∧ Aside0 (Below w3.heap.size w3 wr)) (fun v22 _=>s.T.length - (intOf v22).toNat)
  case atStart=>exact ⟨0,Nat.zero_le _,rfl,⟨fun j hj=>absurd hj (Nat.not_lt_zero j)⟩,⟨Below.refl _ _⟩⟩
  case round =>
   obtain ⟨i,hi,rfl,HF,HQ⟩:=hrel
   by_cases hlt:i < s.T.length
   rotate_left
   ·have hge:¬ (i:Int) < (s.T.length:Int):=by omega
    obtain rfl:i = s.T.length:=by omega
    obtain ⟨rfl,rfl⟩:(⟨#[]⟩:ByteArray) = r1 ∧ false = r2:=by have h:=HRR.out;rw [whichN_none (fun j hj=>HF.out j hj),if_neg (Nat.lt_irrefl _)] at h;exact Prod.mk.inj h
    go_wp2
    go_ret2
    exact ⟨rfl,below_step HB3.out HQ.out⟩
   have hltI:(i:Int) < (s.T.length:Int):=by omega
   obtain ⟨p,Ag,cg,Ax,cx,zp,z0,z1,z2,_,z4,_,_,hcg,hCg,_,hl⟩:=HST.out wr HQ.out i hlt
   have HL:=am hlt
   have HCG:=am (And.intro hcg (And.intro hCg hl))
   have hw1:IntKind.i64.wrap ((i:Int) + 1) = ((i + 1:Nat):Int):=by rw [IntKind.wrap_i64];have:=HO2.out.ok.most;omega
   have HHIT:=am (show hitC s (bt a1 0) a2 i = (decide (placeI (bt a1 0) (s.T.getD i []) = a2) && decide (s.F.getD i 0 ≤ 40)) from rfl)
   obtain ⟨cg0,hcg0⟩:∃ c,s.T.getD i [] = c:=⟨_,rfl⟩
   obtain ⟨fi,hfi⟩:∃ f,s.F.getD i 0 = f:=⟨_,rfl⟩
   rw [hcg0] at z2 HCG HHIT
   rw [hfi] at z4 HHIT
   clear hcg hCg hl hlt hi hcg0 hfi
   obtain ⟨pl,hpl⟩:∃ pl,placeI (bt a1 0) cg0 = pl:=⟨_,rfl⟩
   rw [hpl] at HHIT
   have HPL:=am (fun W Ag cg (hl:cg0.length ≤ 1000) (hc:cg0.length ≤ cg) (hC:(Kd.int .u8).C W Ag cg0.length cg0)=>by have h:=place_call hl hc hC gw gh (bt a1 0);rw [hpl] at h;exact h:∀ (W:World) (Ag:Option Addr) (cg:Nat),cg0.length ≤ 1000 → cg0.length ≤ cg → (Kd.int .u8).C W Ag cg0.length cg0 → Calls Tryz.prog 56 #[.agg #[.int .i64 gw,.int .i64 gh,.slice Ag cg0.length cg],.int .u8 (bt a1 0)] W fun e w'=>e = .returned (.int .i64 pl) ∧ Below W.heap.size W w')
   clear hpl
   go_wp2
   refine start_ (n:=16) (S:=fun w'=>w'.cell? ⟨p,0,none⟩ = some (.int .i64 gw) ∧ w'.cell? ⟨p,1,none⟩ = some (.int .i64 gh) ∧ w'.cell? ⟨p,2,none⟩ = some (.slice Ag cg0.length cg) ∧ w'.cell? ⟨p,4,none⟩ = some (.int .i64 (fi:Int))) (ds:=[]) (bm 16 0) k_r rfl rfl ⟨z0,z1,z2,z4⟩ (fun hHeld=>?_)
   refine take_ (i:=0) (N:=some 27) (v:=?_) (a':=?_) (bm 16 1) rfl rfl k_r (fun _ _ _ h=>h) (Or.inl ⟨by rfl,?_⟩) hHeld ?_ ?_
   rotate_left
   ·rintro w' ⟨s_0,s_1,s_2,s_3⟩
    go_simp
    try with_reducible rfl
   rotate_left
   ·simp only [Act.put,ac_]
    rfl
   refine take_ (i:=1) (N:=some 28) (v:=?_) (a':=?_) (bm 16 3) rfl rfl k_r (fun _ _ _ h=>h) (Or.inl ⟨by rfl,?_⟩) hHeld ?_ ?_
   rotate_left
   ·rintro w' ⟨s_0,s_1,s_2,s_3⟩
    go_simp
    try with_reducible rfl
   rotate_left
   ·simp only [Act.put,ac_]
    rfl
   refine take_ (i:=2) (N:=some 29) (v:=?_) (a':=?_) (bm 16 7) rfl rfl k_r (fun _ _ _ h=>h) (Or.inl ⟨by rfl,?_⟩) hHeld ?_ ?_
   rotate_left
   ·rintro w' ⟨s_0,s_1,s_2,s_3⟩
    go_simp
    try with_reducible rfl
   rotate_left
   ·simp only [Act.put,ac_]
    rfl
   refine take_ (i:=3) (N:=some 30) (v:=?_) (a':=?_) (bm 16 15) rfl rfl k_r (fun _ _ _ h=>h) (Or.inl ⟨by rfl,?_⟩) hHeld ?_ ?_
   rotate_left
   ·rintro w' ⟨s_0,s_1,s_2,s_3⟩
    go_simp
    try with_reducible rfl
   rotate_left
   ·simp only [Act.put,ac_]
    rfl
   refine take_ (i:=4) (N:=some 31) (v:=?_) (a':=?_) (bm 16 31) rfl rfl k_r (fun _ _ _ h=>h) (Or.inl ⟨by rfl,?_⟩) hHeld ?_ ?_
   rotate_left
   ·rintro w' ⟨s_0,s_1,s_2,s_3⟩
    go_simp
    try with_reducible rfl
   rotate_left
   ·simp only [Act.put,ac_]
    rfl
   refine take_ (i:=5) (N:=some 32) (v:=?_) (a':=?_) (bm 16 63) rfl rfl k_r (fun _ _ _ h=>h) (Or.inl ⟨by rfl,?_⟩) hHeld ?_ ?_
   rotate_left
   ·rintro w' ⟨s_0,s_1,s_2,s_3⟩
    go_simp
    try with_reducible rfl
   rotate_left
   ·simp only [Act.put,ac_]
    rfl
   refine take_ (i:=7) (N:=some 34) (v:=?_) (a':=?_) (bm 16 191) rfl rfl k_r (fun _ _ _ h=>h) (Or.inl ⟨by rfl,?_⟩) hHeld ?_ ?_
   rotate_left
   ·rintro w' ⟨s_0,s_1,s_2,s_3⟩
    go_simp
    try with_reducible rfl
   rotate_left
   ·simp only [Act.put,ac_]
    rfl
   refine one_ (i:=6) (N:=some 33) (bm 16 255) rfl rfl k_r d_c (fun K' hK'=>?_)
   refine goes_ Tryz.func56 k_r rfl #[.agg #[.int .i64 gw,.int .i64 gh,.slice Ag cg0.length cg],.int .u8 (bt a1 0)] (by rfl) rfl rfl (by (try simp only [List.map_toArray,List.map_cons,List.map_nil]);first | done | rfl) ?_
   refine (HPL.out _ Ag cg HCG.out.2.2 HCG.out.1 (by exact HCG.out.2.1)).mono ?_
   rintro e w4 ⟨rfl,hb4⟩
   have HB4:=am (show Below wr.heap.size wr w4 from ⟨hb4.os,hb4.tape,hb4.output,hb4.size,hb4.block⟩)
   refine ⟨_,rfl,?_⟩
   refine hK'.out _ _ ⟨(HB4.out.cell (World.block_lt_of_cell? wr _ z0)).trans z0,(HB4.out.cell (World.block_lt_of_cell? wr _ z1)).trans z1,(HB4.out.cell (World.block_lt_of_cell? wr _ z2)).trans z2,(HB4.out.cell (World.block_lt_of_cell? wr _ z4)).trans z4⟩ (fun hHeld=>?_)
   clear hK' K' hb4 z0 z1 z2 z4
   refine nm (some 33) ?_
   have HQ4:=am (below_step HQ.out HB4.out)
   by_cases he:pl = a2
   rotate_left
   ·have heb:(pl == a2) = false:=beq_eq_false_iff_ne.2 he
    refine take_ (i:=8) (N:=some 35) (v:=?_) (a':=?_) (bm 16 511) rfl rfl k_r (fun _ _ _ h=>h) (Or.inl ⟨by rfl,?_⟩) hHeld ?_ ?_
    rotate_left
    ·rintro w' ⟨s_0,s_1,s_2,s_3⟩
     go_simp
     try with_reducible rfl
    rotate_left
    ·simp only [Act.put,ac_]
     rfl
    refine take_ (i:=9) (N:=some 36) (v:=?_) (a':=?_) (bm 16 1023) rfl rfl k_r (fun _ _ _ h=>h) (Or.inl ⟨by rfl,?_⟩) hHeld ?_ ?_
    rotate_left
    ·rintro w' ⟨s_0,s_1,s_2,s_3⟩
     go_simp
     try with_reducible rfl
    rotate_left
    ·simp only [Act.put,ac_]
     rfl
    refine take_ (i:=10) (N:=some 37) (v:=undef) (a':=?_) (bm 16 2047) rfl rfl k_r (fun _ _ _ h=>h) (Or.inr ⟨by rfl,rfl⟩) hHeld ?_ ?_
    rotate_left
    ·simp only [Act.put,ac_]
     rfl
    refine take_ (i:=11) (N:=some 38) (v:=undef) (a':=?_) (bm 16 4095) rfl rfl k_r (fun _ _ _ h=>h) (Or.inr ⟨by rfl,rfl⟩) hHeld ?_ ?_
    rotate_left
    ·simp only [Act.put,ac_]
     rfl
    refine take_ (i:=12) (N:=some 39) (v:=undef) (a':=?_) (bm 16 8191) rfl rfl k_r (fun _ _ _ h=>h) (Or.inr ⟨by rfl,rfl⟩) hHeld ?_ ?_
    rotate_left
    ·simp only [Act.put,ac_]
     rfl
    refine take_ (i:=13) (N:=some 40) (v:=undef) (a':=?_) (bm 16 16383) rfl rfl k_r (fun _ _ _ h=>h) (Or.inr ⟨by rfl,rfl⟩) hHeld ?_ ?_
    rotate_left
    ·simp only [Act.put,ac_]
     rfl
    refine take_ (i:=14) (N:=some 41) (v:=undef) (a':=?_) (bm 16 32767) rfl rfl k_r (fun _ _ _ h=>h) (Or.inr ⟨by rfl,rfl⟩) hHeld ?_ ?_
    rotate_left
    ·simp only [Act.put,ac_]
     rfl
    refine take_ (i:=15) (N:=some 42) (v:=?_) (a':=?_) (bm 16 65535) rfl rfl k_r (fun _ _ _ h=>h) (Or.inl ⟨by rfl,?_⟩) hHeld ?_ ?_
    rotate_left
    ·rintro w' ⟨s_0,s_1,s_2,s_3⟩
     go_simp
     try with_reducible rfl
    rotate_left
    ·simp only [Act.put,ac_]
     rfl
    refine done_ k_r ?_
    have HNO:=am (fun j hj=>by
     by_cases e:j = i
     ·subst e;rw [HHIT.out,decide_eq_false he,Bool.false_and]
     ·exact HF.out j o_m:∀ j,j < i + 1 → hitC s (bt a1 0) a2 j = false)
    clear he hHeld
    go_wp2
    go_roundw
    case rel=>exact ⟨i + 1,HL.out,by first | rfl | simp,HNO,HQ4⟩
    case measure=>have:=HL.out;simp [intOf];omega
   have heb:(pl == a2) = true:=beq_iff_eq.2 he
   refine take_ (i:=8) (N:=some 35) (v:=?_) (a':=?_) (bm 16 511) rfl rfl k_r (fun _ _ _ h=>h) (Or.inl ⟨by rfl,?_⟩) hHeld ?_ ?_
   rotate_left
   ·rintro w' ⟨s_0,s_1,s_2,s_3⟩
    go_simp
    try with_reducible rfl
   rotate_left
   ·simp only [Act.put,ac_]
    rfl
   refine take_ (i:=9) (N:=some 36) (v:=?_) (a':=?_) (bm 16 1023) rfl rfl k_r (fun _ _ _ h=>h) (Or.inl ⟨by rfl,?_⟩) hHeld ?_ ?_
   rotate_left
   ·rintro w' ⟨s_0,s_1,s_2,s_3⟩
    go_simp
    try with_reducible rfl
   rotate_left
   ·simp only [Act.put,ac_]
    rfl
   refine take_ (i:=10) (N:=some 37) (v:=?_) (a':=?_) (bm 16 2047) rfl rfl k_r (fun _ _ _ h=>h) (Or.inl ⟨by rfl,?_⟩) hHeld ?_ ?_
   rotate_left
   ·rintro w' ⟨s_0,s_1,s_2,s_3⟩
    go_simp
    try with_reducible rfl
   rotate_left
   ·simp only [Act.put,ac_]
    rfl
   refine take_ (i:=11) (N:=some 38) (v:=?_) (a':=?_) (bm 16 4095) rfl rfl k_r (fun _ _ _ h=>h) (Or.inl ⟨by rfl,?_⟩) hHeld ?_ ?_
   rotate_left
   ·rintro w' ⟨s_0,s_1,s_2,s_3⟩
    go_simp
    try with_reducible rfl
   rotate_left
   ·simp only [Act.put,ac_]
    rfl
   refine take_ (i:=12) (N:=some 39) (v:=?_) (a':=?_) (bm 16 8191) rfl rfl k_r (fun _ _ _ h=>h) (Or.inl ⟨by rfl,?_⟩) hHeld ?_ ?_
   rotate_left
   ·rintro w' ⟨s_0,s_1,s_2,s_3⟩
    go_simp
    try with_reducible rfl
   rotate_left
   ·simp only [Act.put,ac_]
    rfl
   refine take_ (i:=13) (N:=some 40) (v:=?_) (a':=?_) (bm 16 16383) rfl rfl k_r (fun _ _ _ h=>h) (Or.inl ⟨by rfl,?_⟩) hHeld ?_ ?_
   rotate_left
   ·rintro w' ⟨s_0,s_1,s_2,s_3⟩
    go_simp
    try with_reducible rfl
   rotate_left
   ·simp only [Act.put,ac_]
    rfl
   refine take_ (i:=14) (N:=some 41) (v:=?_) (a':=?_) (bm 16 32767) rfl rfl k_r (fun _ _ _ h=>h) (Or.inl ⟨by rfl,?_⟩) hHeld ?_ ?_
   rotate_left
   ·rintro w' ⟨s_0,s_1,s_2,s_3⟩
    go_simp
    try with_reducible rfl
   rotate_left
   ·simp only [Act.put,ac_]
    rfl
   refine take_ (i:=15) (N:=some 42) (v:=?_) (a':=?_) (bm 16 65535) rfl rfl k_r (fun _ _ _ h=>h) (Or.inl ⟨by rfl,?_⟩) hHeld ?_ ?_
   rotate_left
   ·rintro w' ⟨s_0,s_1,s_2,s_3⟩
    go_simp
    try with_reducible rfl
   rotate_left
   ·simp only [Act.put,ac_]
    rfl
   refine done_ k_r ?_
   clear hHeld
   cases h40:decide (fi ≤ 40) with
   | true =>
    have h40b:decide ((fi:Int) ≤ 40) = true:=decide_eq_true (by have:=of_decide_eq_true h40;omega)
    have h40c:(fi:Int) ≤ 40:=of_decide_eq_true h40b
    have h40d:((fi:Int) ≤ 40) = True:=eq_true h40c
    have hw:=whichN_of HF.out HL.out (by rw [HHIT.out,decide_eq_true he,h40];rfl)
    obtain ⟨rfl,rfl⟩:txtW (s.W.getD i []) = r1 ∧ true = r2:=by have h:=HRR.out;rw [hw,if_pos HL.out] at h;exact Prod.mk.inj h
    clear hw he h40
    go_wp2_with (first
     | (go_at_call 93;refine (by have h:=reWord_calls b o c (nodesOf gw gh s) i (fun i=>txtW (s.W.getD i [])) w4 (by rw [nodesOf_len];exact HC3.out) (by rw [nodesOf_len];have:=HO2.out.ok.most;omega) (by rw [nodesOf_len];exact HL.out) (wordsAt_nodes HO2.out) (fun W' hB j hj=>HNC.out W' (below_step HQ4.out hB) j hj);rw [nodesOf_len] at h;exact h:Calls Tryz.prog 93 _ _ _).mono ?_;rintro e w5 ⟨rfl,hb5⟩;have HB5:=am (below_step (below_step HB3.out HQ4.out) hb5);clear hb5))
    go_ret2
    exact ⟨rfl,HB5.out⟩
   | false =>
    have h40b:decide ((fi:Int) ≤ 40) = false:=decide_eq_false (by have:=of_decide_eq_false h40;omega)
    have h40c:¬ (fi:Int) ≤ 40:=of_decide_eq_false h40b
    have h40d:((fi:Int) ≤ 40) = False:=eq_false h40c
    have HNO:=am (fun j hj=>by
     by_cases e:j = i
     ·subst e;rw [HHIT.out,h40,Bool.and_false]
     ·exact HF.out j o_m:∀ j,j < i + 1 → hitC s (bt a1 0) a2 j = false)
    clear he h40
    go_wp2
    go_roundw
    case rel=>exact ⟨i + 1,HL.out,by first | rfl | simp,HNO,HQ4⟩
    case measure=>have:=HL.out;simp [intOf];omega
end Go.Proofs.YtldhkbiomingbaaGreatDoor.F

namespace Go.Proofs.YtldhkbiomingbaaGreatDoor.F
open Go.Proofs.YtldhkbiomingbaaGreatDoor
open Go.RowKit Go.YW.PrintWords Go.YW.PrintLast Go.YW.PrintMore
attribute [local go_sem] max2_int min2_int max_two min_two max_three min_three max_four min_four
def spec_SolutionOf.f (a0_0:ByteArray) (a0_1:ByteArray) (a0_2:Int):Option (ByteArray × Bool):=(spec_puStates.f a0_0 a0_1 a0_2).bind fun bt102=>(if bt102.2.2 = true then ((spec_WordToCell.f a0_0 a0_1 a0_2).bind fun bt107=>(some (bt107.1,bt107.2))) else (some ((⟨#[]⟩:ByteArray),false)))
theorem spec_SolutionOf.calls (a0_0:ByteArray) (a0_1:ByteArray) (a0_2:Int) (r1:ByteArray) (r2:Bool) (w:World) (h:spec_SolutionOf.f a0_0 a0_1 a0_2 = some (r1,r2)) :
  Calls Tryz.prog 20 #[.agg #[.string a0_0,.string a0_1,.int .i64 a0_2]] w fun e w'=>e = .returned (.tuple #[.string r1,.bool r2]) ∧ Below w.heap.size w w':=by
 have hu30:=Tryz.underlying30
 have HB:=am (Below.refl w.heap.size w)
 have H:((spec_puStates.f a0_0 a0_1 a0_2).bind fun bt102=>(if bt102.2.2 = true then ((spec_WordToCell.f a0_0 a0_1 a0_2).bind fun bt107=>(some (bt107.1,bt107.2))) else (some ((⟨#[]⟩:ByteArray),false)))) = some (r1,r2):=h
 clear h
 replace H:=Option.bind_eq_some_iff.mp H
 obtain ⟨⟨t102,t105,t106⟩,A20,H⟩:=H
 replace H:(if t106 = true then ((spec_WordToCell.f a0_0 a0_1 a0_2).bind fun bt107=>(some (bt107.1,bt107.2))) else (some ((⟨#[]⟩:ByteArray),false))) = some (r1,r2):=H
 have A2:=am A20
 clear A20
 by_cases c3:t106 = true
 rotate_left
 ·replace c3:=Bool.eq_false_iff.mpr c3
  subst c3
  have H1:(some ((⟨#[]⟩:ByteArray),false)) = some (r1,r2):=by rw [if_neg (show ¬ (false = true) by decide)] at H;exact H
  clear H
  have H:=H1
  clear H1
  simp only [Option.some.injEq,Prod.mk.injEq] at H
  obtain ⟨rfl,rfl⟩:=H
  go_enter Tryz.func20,Tryz.ntmps20
  go_wp2_with (first | (refine bx 1 #[.string a0_0,.string a0_1,.int .i64 a0_2] 30 ?_;intro gb101 hg w10 hbox hb;have BK101:=am (hbox);have GW101:=am ((by rw [hg];exact (below_size (by repeat (first | (with_reducible first | exact HB.out | apply below_alloc | apply pw_below_drewN | apply below_drew1) | exact HB.out))):w.heap.size ≤ gb101));have GE101:=am ((by rw [hg];exact (below_size (by repeat (first | (with_reducible first | exact HB.out | apply below_alloc | apply pw_below_drewN | apply below_drew1) | exact HB.out))):w.heap.size ≤ gb101));replace HB:=am (below_step (by repeat (first | (with_reducible first | exact HB.out | apply below_alloc | apply pw_below_drewN | apply below_drew1) | exact HB.out)) hb);clear hb hbox hg;have hcz11_0:w10.cell? ⟨gb101,0,none⟩ = some (.string a0_0):=(blk_cell BK101.out 0).trans rfl;have hcz11_1:w10.cell? ⟨gb101,1,none⟩ = some (.string a0_1):=(blk_cell BK101.out 1).trans rfl;have hcz11_2:w10.cell? ⟨gb101,2,none⟩ = some (.int .i64 a0_2):=(blk_cell BK101.out 2).trans rfl;have hfz11_0:=blk_frozen BK101.out 0;have hfz11_1:=blk_frozen BK101.out 1;have hfz11_2:=blk_frozen BK101.out 2) | ((with_reducible refine gate_callee (f:=53) rfl ?_);refine goesL_ (some 9) rfl rfl Tryz.func53 k_r rfl #[.agg #[.string a0_0,.string a0_1,.int .i64 a0_2]] rfl (by (try simp only [List.map_toArray,List.map_cons,List.map_nil]);first | done | rfl | (simp only [List.length_drop,List.length_take];rfl)) ?_;(with_reducible refine (spec_puStates.calls a0_0 a0_1 a0_2 t102 t105 false _ A2.out).mono ?_);rintro e w12 ⟨v103,rfl,ho0,hb⟩;refine ⟨_,rfl,?_⟩;have HO104:=am (Kd.R_lower ho0 (below_size (by repeat (first | (with_reducible first | exact HB.out | apply below_alloc | apply pw_below_drewN | apply below_drew1 | refine below_set ?_ GE101.out) | exact HB.out))));replace BK101:=am (blk_below (g:=gb101) (o:=.cells #[.string a0_0,.string a0_1,.int .i64 a0_2] 30 (0,0)) (by (with_reducible repeat (first | refine blk_drewN ?_ _ | refine blk_drew ?_ | refine blk_alloc ?_ _));exact BK101.out) hb);replace HB:=am (below_step (by repeat (first | (with_reducible first | exact HB.out | apply below_alloc | apply pw_below_drewN | apply below_drew1 | refine below_set ?_ GE101.out) | exact HB.out)) hb);(try clear hb);(try clear ho0)))
  go_ret2
  exact ⟨by first | rfl | (simp [errW_none,errW_some] <;> rfl) | (simp [*,errW_none,errW_some] <;> rfl),by repeat (first | (with_reducible first | exact HB.out | apply below_alloc | apply pw_below_drewN | apply below_drew1 | refine below_set ?_ GE101.out) | exact HB.out)⟩
 subst c3
 have H1:((spec_WordToCell.f a0_0 a0_1 a0_2).bind fun bt107=>(some (bt107.1,bt107.2))) = some (r1,r2):=by rw [if_pos rfl] at H;exact H
 clear H
 have H:=H1
 clear H1
 replace H:=Option.bind_eq_some_iff.mp H
 obtain ⟨⟨t107,t108⟩,A40,H⟩:=H
 replace H:(some (t107,t108)) = some (r1,r2):=H
 have A4:=am A40
 clear A40
 simp only [Option.some.injEq,Prod.mk.injEq] at H
 obtain ⟨rfl,rfl⟩:=H
 go_enter Tryz.func20,Tryz.ntmps20
 go_wp2_with (first | (refine bx 1 #[.string a0_0,.string a0_1,.int .i64 a0_2] 30 ?_;intro gb101 hg w5 hbox hb;have BK101:=am (hbox);have GW101:=am ((by rw [hg];exact (below_size (by repeat (first | (with_reducible first | exact HB.out | apply below_alloc | apply pw_below_drewN | apply below_drew1) | exact HB.out))):w.heap.size ≤ gb101));have GE101:=am ((by rw [hg];exact (below_size (by repeat (first | (with_reducible first | exact HB.out | apply below_alloc | apply pw_below_drewN | apply below_drew1) | exact HB.out))):w.heap.size ≤ gb101));replace HB:=am (below_step (by repeat (first | (with_reducible first | exact HB.out | apply below_alloc | apply pw_below_drewN | apply below_drew1) | exact HB.out)) hb);clear hb hbox hg;have hcz6_0:w5.cell? ⟨gb101,0,none⟩ = some (.string a0_0):=(blk_cell BK101.out 0).trans rfl;have hcz6_1:w5.cell? ⟨gb101,1,none⟩ = some (.string a0_1):=(blk_cell BK101.out 1).trans rfl;have hcz6_2:w5.cell? ⟨gb101,2,none⟩ = some (.int .i64 a0_2):=(blk_cell BK101.out 2).trans rfl;have hfz6_0:=blk_frozen BK101.out 0;have hfz6_1:=blk_frozen BK101.out 1;have hfz6_2:=blk_frozen BK101.out 2) | ((with_reducible refine gate_callee (f:=53) rfl ?_);refine goesL_ (some 9) rfl rfl Tryz.func53 k_r rfl #[.agg #[.string a0_0,.string a0_1,.int .i64 a0_2]] rfl (by (try simp only [List.map_toArray,List.map_cons,List.map_nil]);first | done | rfl | (simp only [List.length_drop,List.length_take];rfl)) ?_;(with_reducible refine (spec_puStates.calls a0_0 a0_1 a0_2 t102 t105 true _ A2.out).mono ?_);rintro e w7 ⟨v103,rfl,ho0,hb⟩;refine ⟨_,rfl,?_⟩;have HO104:=am (Kd.R_lower ho0 (below_size (by repeat (first | (with_reducible first | exact HB.out | apply below_alloc | apply pw_below_drewN | apply below_drew1 | refine below_set ?_ GE101.out) | exact HB.out))));replace BK101:=am (blk_below (g:=gb101) (o:=.cells #[.string a0_0,.string a0_1,.int .i64 a0_2] 30 (0,0)) (by (with_reducible repeat (first | refine blk_drewN ?_ _ | refine blk_drew ?_ | refine blk_alloc ?_ _));exact BK101.out) hb);replace HB:=am (below_step (by repeat (first | (with_reducible first | exact HB.out | apply below_alloc | apply pw_below_drewN | apply below_drew1 | refine below_set ?_ GE101.out) | exact HB.out)) hb);(try clear hb);(try clear ho0);have hcz8_0:w7.cell? ⟨gb101,0,none⟩ = some (.string a0_0):=(blk_cell BK101.out 0).trans rfl;have hcz8_1:w7.cell? ⟨gb101,1,none⟩ = some (.string a0_1):=(blk_cell BK101.out 1).trans rfl;have hcz8_2:w7.cell? ⟨gb101,2,none⟩ = some (.int .i64 a0_2):=(blk_cell BK101.out 2).trans rfl;have hfz8_0:=blk_frozen BK101.out 0;have hfz8_1:=blk_frozen BK101.out 1;have hfz8_2:=blk_frozen BK101.out 2) | ((with_reducible refine gate_callee (f:=54) rfl ?_);refine goesL_ (some 21) rfl rfl Tryz.func54 k_r rfl #[.string a0_0,.string a0_1,.int .i64 a0_2] rfl (by (try simp only [List.map_toArray,List.map_cons,List.map_nil]);first | done | rfl | (simp only [List.length_drop,List.length_take];rfl)) ?_;(with_reducible refine (spec_WordToCell.calls a0_0 a0_1 a0_2 t107 t108 _ A4.out).mono ?_);rintro e w9 ⟨rfl,hb⟩;refine ⟨_,rfl,?_⟩;replace HO104:=am (Kd.R_below (by (with_reducible repeat (first | apply Kd.R_alloc | apply Kd.R_drewN | apply Kd.R_drew));exact HO104.out) hb);replace BK101:=am (blk_below (g:=gb101) (o:=.cells #[.string a0_0,.string a0_1,.int .i64 a0_2] 30 (0,0)) (by (with_reducible repeat (first | refine blk_drewN ?_ _ | refine blk_drew ?_ | refine blk_alloc ?_ _));exact BK101.out) hb);replace HB:=am (below_step (by repeat (first | (with_reducible first | exact HB.out | apply below_alloc | apply pw_below_drewN | apply below_drew1 | refine below_set ?_ GE101.out) | exact HB.out)) hb);(try clear hb)))
 go_ret2
 exact ⟨by first | rfl | (simp [errW_none,errW_some] <;> rfl) | (simp [*,errW_none,errW_some] <;> rfl),by repeat (first | (with_reducible first | exact HB.out | apply below_alloc | apply pw_below_drewN | apply below_drew1 | refine below_set ?_ GE101.out) | exact HB.out)⟩
def laws_FnExactSolutionOf.f (k:Nat) (a0_0:ByteArray) (a0_1:ByteArray) (a0_2:Int):Option (Bool):=(laws_szPuzzle.f a0_0 a0_1 a0_2 1048576).bind fun t102=>(if t102 < 0 then (some true) else ((laws_toPuzzle.f a0_0 a0_1 a0_2).bind fun bt103=>((spec_SolutionOf.f bt103.1 bt103.2.1 bt103.2.2).bind fun bt106=>((laws_toPuzzle.f a0_0 a0_1 a0_2).bind fun bt108=>((impl_SolutionOf.f k bt108.1 bt108.2.1 bt108.2.2).bind fun bt111=>(if bt111.1.toList = bt106.1.toList then (if (bt111.2 != bt106.2) = true then (some false) else (some true)) else (some false)))))))
theorem laws_FnExactSolutionOf.calls (k:Nat) (a0_0:ByteArray) (a0_1:ByteArray) (a0_2:Int) (r:Bool) (w:World) (h:laws_FnExactSolutionOf.f k a0_0 a0_1 a0_2 = some r) :
  Calls Tryz.prog 5 #[.agg #[.string a0_0,.string a0_1,.int .i64 a0_2]] w fun e w'=>e = .returned (.bool r) ∧ Below w.heap.size w w':=by
 have hu26:=Tryz.underlying26
 have HB:=am (Below.refl w.heap.size w)
 have H:((laws_szPuzzle.f a0_0 a0_1 a0_2 1048576).bind fun t102=>(if t102 < 0 then (some true) else ((laws_toPuzzle.f a0_0 a0_1 a0_2).bind fun bt103=>((spec_SolutionOf.f bt103.1 bt103.2.1 bt103.2.2).bind fun bt106=>((laws_toPuzzle.f a0_0 a0_1 a0_2).bind fun bt108=>((impl_SolutionOf.f k bt108.1 bt108.2.1 bt108.2.2).bind fun bt111=>(if bt111.1.toList = bt106.1.toList then (if (bt111.2 != bt106.2) = true then (some false) else (some true)) else (some false)))))))) = some r:=h
 clear h
 obtain ⟨t102,A2,H⟩:=bn H
 by_cases c3:t102 < 0
 ·rw [if_pos c3] at H
  have c3b0:=decide_eq_true c3
  clear c3
  obtain rfl:=Option.some.inj H
  go_enter Tryz.func5,Tryz.ntmps5
  go_wp2_with (first | (refine bx 1 #[.string a0_0,.string a0_1,.int .i64 a0_2] 26 ?_;intro gb101 hg w4 hbox hb;have BK101:=am (hbox);have GW101:=am ((by rw [hg];exact (below_size aq2):w.heap.size ≤ gb101));have GE101:=GW101;replace HB:=am (below_step aq2 hb);clear hb hbox hg;obtain ⟨hcz5_0,hcz5_1,hcz5_2,hfz5_0,hfz5_1,hfz5_2⟩:=blk3_ BK101.out) | ((with_reducible refine gate_callee (f:=16) rfl ?_);refine goesL_ (some 10) rfl rfl Tryz.func16 k_r rfl #[.agg #[.string a0_0,.string a0_1,.int .i64 a0_2],.int .i64 1048576] rfl aq4 ?_;(with_reducible refine (laws_szPuzzle.calls a0_0 a0_1 a0_2 1048576 t102 _ A2.out).mono ?_);rintro e w6 ⟨rfl,hb⟩;refine ⟨_,rfl,?_⟩;replace BK101:=am (bb BK101 hb);replace HB:=am (below_step aq0 hb);(try clear hb)))
  go_ret
  exact ⟨aq7,aq0⟩
 rw [if_neg c3] at H
 have c3b0:=decide_eq_false c3
 clear c3
 replace H:=Option.bind_eq_some_iff.mp H
 obtain ⟨⟨t103,t104,t105⟩,A70,H⟩:=H
 replace H:((spec_SolutionOf.f t103 t104 t105).bind fun bt106=>((laws_toPuzzle.f a0_0 a0_1 a0_2).bind fun bt108=>((impl_SolutionOf.f k bt108.1 bt108.2.1 bt108.2.2).bind fun bt111=>(if bt111.1.toList = bt106.1.toList then (if (bt111.2 != bt106.2) = true then (some false) else (some true)) else (some false))))) = some r:=H
 have A7:=am A70
 clear A70
 replace H:=Option.bind_eq_some_iff.mp H
 obtain ⟨⟨t106,t107⟩,A80,H⟩:=H
 replace H:((laws_toPuzzle.f a0_0 a0_1 a0_2).bind fun bt108=>((impl_SolutionOf.f k bt108.1 bt108.2.1 bt108.2.2).bind fun bt111=>(if bt111.1.toList = t106.toList then (if (bt111.2 != t107) = true then (some false) else (some true)) else (some false)))) = some r:=H
 have A8:=am A80
 clear A80
 replace H:=Option.bind_eq_some_iff.mp H
 obtain ⟨⟨t108,t109,t110⟩,A90,H⟩:=H
 replace H:((impl_SolutionOf.f k t108 t109 t110).bind fun bt111=>(if bt111.1.toList = t106.toList then (if (bt111.2 != t107) = true then (some false) else (some true)) else (some false))) = some r:=H
 have A9:=am A90
 clear A90
 replace H:=Option.bind_eq_some_iff.mp H
 obtain ⟨⟨t111,t112⟩,A100,H⟩:=H
 replace H:(if t111.toList = t106.toList then (if (t112 != t107) = true then (some false) else (some true)) else (some false)) = some r:=H
 have A10:=am A100
 clear A100
 by_cases c11:t111.toList = t106.toList
 rotate_left
 ·rw [if_neg c11] at H
  have c11b0:=beq_eq_false_iff_ne.mpr c11
  have c11b1:=bne_iff_ne.mpr c11
  obtain rfl:=Option.some.inj H
  go_enter Tryz.func5,Tryz.ntmps5
  go_wp2_with (first | (refine bx 1 #[.string a0_0,.string a0_1,.int .i64 a0_2] 26 ?_;intro gb101 hg w31 hbox hb;have BK101:=am (hbox);have GW101:=am ((by rw [hg];exact (below_size aq2):w.heap.size ≤ gb101));have GE101:=GW101;replace HB:=am (below_step aq2 hb);clear hb hbox hg;obtain ⟨hcz32_0,hcz32_1,hcz32_2,hfz32_0,hfz32_1,hfz32_2⟩:=blk3_ BK101.out) | ((with_reducible refine gate_callee (f:=16) rfl ?_);refine goesL_ (some 10) rfl rfl Tryz.func16 k_r rfl #[.agg #[.string a0_0,.string a0_1,.int .i64 a0_2],.int .i64 1048576] rfl aq4 ?_;(with_reducible refine (laws_szPuzzle.calls a0_0 a0_1 a0_2 1048576 t102 _ A2.out).mono ?_);rintro e w33 ⟨rfl,hb⟩;refine ⟨_,rfl,?_⟩;replace BK101:=am (bb BK101 hb);replace HB:=am (below_step aq0 hb);(try clear hb);obtain ⟨hcz34_0,hcz34_1,hcz34_2,hfz34_0,hfz34_1,hfz34_2⟩:=blk3_ BK101.out) | ((with_reducible refine gate_callee (f:=18) rfl ?_);refine goesL_ (some 15) rfl rfl Tryz.func18 k_r rfl #[.agg #[.string a0_0,.string a0_1,.int .i64 a0_2]] rfl aq4 ?_;(with_reducible refine (laws_toPuzzle.calls a0_0 a0_1 a0_2 t103 t104 t105 _ A7.out).mono ?_);rintro e w35 ⟨rfl,hb⟩;refine ⟨_,rfl,?_⟩;replace BK101:=am (bb BK101 hb);replace HB:=am (below_step aq0 hb);(try clear hb)) | ((with_reducible refine gate_callee (f:=20) rfl ?_);refine goesL_ (some 16) rfl rfl Tryz.func20 k_r rfl #[.agg #[.string t103,.string t104,.int .i64 t105]] rfl aq4 ?_;(with_reducible refine (spec_SolutionOf.calls t103 t104 t105 t106 t107 _ A8.out).mono ?_);rintro e w36 ⟨rfl,hb⟩;refine ⟨_,rfl,?_⟩;replace BK101:=am (bb BK101 hb);replace HB:=am (below_step aq0 hb);(try clear hb);obtain ⟨hcz37_0,hcz37_1,hcz37_2,hfz37_0,hfz37_1,hfz37_2⟩:=blk3_ BK101.out) | ((with_reducible refine gate_callee (f:=18) rfl ?_);refine goesL_ (some 21) rfl rfl Tryz.func18 k_r rfl #[.agg #[.string a0_0,.string a0_1,.int .i64 a0_2]] rfl aq4 ?_;(with_reducible refine (laws_toPuzzle.calls a0_0 a0_1 a0_2 t108 t109 t110 _ A9.out).mono ?_);rintro e w38 ⟨rfl,hb⟩;refine ⟨_,rfl,?_⟩;replace BK101:=am (bb BK101 hb);replace HB:=am (below_step aq0 hb);(try clear hb)) | ((with_reducible refine gate_callee (f:=21) rfl ?_);refine goesL_ (some 22) rfl rfl Tryz.func21 k_r rfl #[.agg #[.string t108,.string t109,.int .i64 t110]] rfl aq4 ?_;(with_reducible refine (impl_SolutionOf.calls k t108 t109 t110 t111 t112 _ A10.out).mono ?_);rintro e w39 ⟨rfl,hb⟩;refine ⟨_,rfl,?_⟩;replace BK101:=am (bb BK101 hb);replace HB:=am (below_step aq0 hb);(try clear hb)))
  go_ret
  exact ⟨aq7,aq0⟩
 rw [if_pos c11] at H
 have c11b0:=beq_iff_eq.mpr c11
 have c11b1:=bne_eq_false_iff_eq.mpr c11
 clear c11
 by_cases c12:(t112 != t107) = true
 rotate_left
 ·rw [if_neg c12] at H
  have c12b0:(t112 != t107) = false:=by simpa using c12
  (try (have c12b1:decide (t112 = t107) = true:=by simpa using c12))
  (try (have c12b2:(t112 == t107) = true:=by simpa using c12))
  clear c12
  obtain rfl:=Option.some.inj H
  go_enter Tryz.func5,Tryz.ntmps5
  go_wp2_with (first | (refine bx 1 #[.string a0_0,.string a0_1,.int .i64 a0_2] 26 ?_;intro gb101 hg w22 hbox hb;have BK101:=am (hbox);have GW101:=am ((by rw [hg];exact (below_size aq2):w.heap.size ≤ gb101));have GE101:=GW101;replace HB:=am (below_step aq2 hb);clear hb hbox hg;obtain ⟨hcz23_0,hcz23_1,hcz23_2,hfz23_0,hfz23_1,hfz23_2⟩:=blk3_ BK101.out) | ((with_reducible refine gate_callee (f:=16) rfl ?_);refine goesL_ (some 10) rfl rfl Tryz.func16 k_r rfl #[.agg #[.string a0_0,.string a0_1,.int .i64 a0_2],.int .i64 1048576] rfl aq4 ?_;(with_reducible refine (laws_szPuzzle.calls a0_0 a0_1 a0_2 1048576 t102 _ A2.out).mono ?_);rintro e w24 ⟨rfl,hb⟩;refine ⟨_,rfl,?_⟩;replace BK101:=am (bb BK101 hb);replace HB:=am (below_step aq0 hb);(try clear hb);obtain ⟨hcz25_0,hcz25_1,hcz25_2,hfz25_0,hfz25_1,hfz25_2⟩:=blk3_ BK101.out) | ((with_reducible refine gate_callee (f:=18) rfl ?_);refine goesL_ (some 15) rfl rfl Tryz.func18 k_r rfl #[.agg #[.string a0_0,.string a0_1,.int .i64 a0_2]] rfl aq4 ?_;(with_reducible refine (laws_toPuzzle.calls a0_0 a0_1 a0_2 t103 t104 t105 _ A7.out).mono ?_);rintro e w26 ⟨rfl,hb⟩;refine ⟨_,rfl,?_⟩;replace BK101:=am (bb BK101 hb);replace HB:=am (below_step aq0 hb);(try clear hb)) | ((with_reducible refine gate_callee (f:=20) rfl ?_);refine goesL_ (some 16) rfl rfl Tryz.func20 k_r rfl #[.agg #[.string t103,.string t104,.int .i64 t105]] rfl aq4 ?_;(with_reducible refine (spec_SolutionOf.calls t103 t104 t105 t106 t107 _ A8.out).mono ?_);rintro e w27 ⟨rfl,hb⟩;refine ⟨_,rfl,?_⟩;replace BK101:=am (bb BK101 hb);replace HB:=am (below_step aq0 hb);(try clear hb);obtain ⟨hcz28_0,hcz28_1,hcz28_2,hfz28_0,hfz28_1,hfz28_2⟩:=blk3_ BK101.out) | ((with_reducible refine gate_callee (f:=18) rfl ?_);refine goesL_ (some 21) rfl rfl Tryz.func18 k_r rfl #[.agg #[.string a0_0,.string a0_1,.int .i64 a0_2]] rfl aq4 ?_;(with_reducible refine (laws_toPuzzle.calls a0_0 a0_1 a0_2 t108 t109 t110 _ A9.out).mono ?_);rintro e w29 ⟨rfl,hb⟩;refine ⟨_,rfl,?_⟩;replace BK101:=am (bb BK101 hb);replace HB:=am (below_step aq0 hb);(try clear hb)) | ((with_reducible refine gate_callee (f:=21) rfl ?_);refine goesL_ (some 22) rfl rfl Tryz.func21 k_r rfl #[.agg #[.string t108,.string t109,.int .i64 t110]] rfl aq4 ?_;(with_reducible refine (impl_SolutionOf.calls k t108 t109 t110 t111 t112 _ A10.out).mono ?_);rintro e w30 ⟨rfl,hb⟩;refine ⟨_,rfl,?_⟩;replace BK101:=am (bb BK101 hb);replace HB:=am (below_step aq0 hb);(try clear hb)))
  go_ret
  exact ⟨aq7,aq0⟩
 rw [if_pos c12] at H
 have c12b0:(t112 != t107) = true:=c12
 (try (have c12b1:decide (t112 = t107) = false:=by simpa using c12))
 (try (have c12b2:(t112 == t107) = false:=by simpa using c12))
 (try (have c12b3:¬ (t112 = t107):=by simpa using c12))
 clear c12
 obtain rfl:=Option.some.inj H
 go_enter Tryz.func5,Tryz.ntmps5
 go_wp2_with (first | (refine bx 1 #[.string a0_0,.string a0_1,.int .i64 a0_2] 26 ?_;intro gb101 hg w13 hbox hb;have BK101:=am (hbox);have GW101:=am ((by rw [hg];exact (below_size aq2):w.heap.size ≤ gb101));have GE101:=GW101;replace HB:=am (below_step aq2 hb);clear hb hbox hg;obtain ⟨hcz14_0,hcz14_1,hcz14_2,hfz14_0,hfz14_1,hfz14_2⟩:=blk3_ BK101.out) | ((with_reducible refine gate_callee (f:=16) rfl ?_);refine goesL_ (some 10) rfl rfl Tryz.func16 k_r rfl #[.agg #[.string a0_0,.string a0_1,.int .i64 a0_2],.int .i64 1048576] rfl aq4 ?_;(with_reducible refine (laws_szPuzzle.calls a0_0 a0_1 a0_2 1048576 t102 _ A2.out).mono ?_);rintro e w15 ⟨rfl,hb⟩;refine ⟨_,rfl,?_⟩;replace BK101:=am (bb BK101 hb);replace HB:=am (below_step aq0 hb);(try clear hb);obtain ⟨hcz16_0,hcz16_1,hcz16_2,hfz16_0,hfz16_1,hfz16_2⟩:=blk3_ BK101.out) | ((with_reducible refine gate_callee (f:=18) rfl ?_);refine goesL_ (some 15) rfl rfl Tryz.func18 k_r rfl #[.agg #[.string a0_0,.string a0_1,.int .i64 a0_2]] rfl aq4 ?_;(with_reducible refine (laws_toPuzzle.calls a0_0 a0_1 a0_2 t103 t104 t105 _ A7.out).mono ?_);rintro e w17 ⟨rfl,hb⟩;refine ⟨_,rfl,?_⟩;replace BK101:=am (bb BK101 hb);replace HB:=am (below_step aq0 hb);(try clear hb)) | ((with_reducible refine gate_callee (f:=20) rfl ?_);refine goesL_ (some 16) rfl rfl Tryz.func20 k_r rfl #[.agg #[.string t103,.string t104,.int .i64 t105]] rfl aq4 ?_;(with_reducible refine (spec_SolutionOf.calls t103 t104 t105 t106 t107 _ A8.out).mono ?_);rintro e w18 ⟨rfl,hb⟩;refine ⟨_,rfl,?_⟩;replace BK101:=am (bb BK101 hb);replace HB:=am (below_step aq0 hb);(try clear hb);obtain ⟨hcz19_0,hcz19_1,hcz19_2,hfz19_0,hfz19_1,hfz19_2⟩:=blk3_ BK101.out) | ((with_reducible refine gate_callee (f:=18) rfl ?_);refine goesL_ (some 21) rfl rfl Tryz.func18 k_r rfl #[.agg #[.string a0_0,.string a0_1,.int .i64 a0_2]] rfl aq4 ?_;(with_reducible refine (laws_toPuzzle.calls a0_0 a0_1 a0_2 t108 t109 t110 _ A9.out).mono ?_);rintro e w20 ⟨rfl,hb⟩;refine ⟨_,rfl,?_⟩;replace BK101:=am (bb BK101 hb);replace HB:=am (below_step aq0 hb);(try clear hb)) | ((with_reducible refine gate_callee (f:=21) rfl ?_);refine goesL_ (some 22) rfl rfl Tryz.func21 k_r rfl #[.agg #[.string t108,.string t109,.int .i64 t110]] rfl aq4 ?_;(with_reducible refine (impl_SolutionOf.calls k t108 t109 t110 t111 t112 _ A10.out).mono ?_);rintro e w21 ⟨rfl,hb⟩;refine ⟨_,rfl,?_⟩;replace BK101:=am (bb BK101 hb);replace HB:=am (below_step aq0 hb);(try clear hb)))
 go_ret
 exact ⟨aq7,aq0⟩
end Go.Proofs.YtldhkbiomingbaaGreatDoor.F

namespace Go.Proofs.YtldhkbiomingbaaGreatDoor.F
open Go.RowKit Go.Proofs.YtldhkbiomingbaaGreatDoor Go.YW.PrintWords Go.YW.PrintMore
theorem puzB_ball {t n:ByteArray} {g:Int} (h:puzB t n g = true):ballS t n = srch t:=by
 unfold puzB at h
 unfold ballS
 split at h
 ·cases h
 ·rename_i q hq
  split at h
  ·rename_i hc
   rw [hq]
   exact if_pos hc
  ·cases h
theorem spec_sol_eq (t n:ByteArray) (g:Int):spec_SolutionOf.f t n g = some (solI t n g):=by
 unfold spec_SolutionOf.f spec_puStates.f spec_WordToCell.f solI
 cases e:puS t n g with
 | none=>rfl
 | some q =>
  obtain ⟨w,h,s,i⟩:=q
  obtain ⟨hp,hs,hgi,hi⟩:=puS_some e
  rw [Option.bind_some]
  simp only
  by_cases hf:s.F.getD i 0 ≤ 40
  rotate_left
  ·rw [if_neg hf]
   exact if_neg (by simpa using hf)
  rw [if_pos hf]
  refine (if_pos (decide_eq_true hf)).trans ?_
  have hw:whichN (hitC s (bt n 0) g) s.T.length = i:=by
   refine whichN_of (fun j hj=>?_) hi ?_
   ·unfold hitC
    have:=goalAt_low (s:=s) (n:=bt n 0) (goal:=g) (j:=j) o_m o_m
    rw [decide_eq_false this];rfl
   ·unfold hitC
    have:=goalAt_at (s:=s) (n:=bt n 0) (goal:=g) o_m
    rw [hgi] at this
    rw [decide_eq_true this,decide_eq_true hf];rfl
  have hc:cellW t n g = (txtW (s.W.getD i []),true):=by
   unfold cellW
   rw [puzB_ball hp,hs]
   simp only
   rw [hw,if_pos hi]
  rw [hc];rfl
theorem FnExactSolutionOf (t n:ByteArray) (g:Int) (ht:t.size ≤ 9223372036854775807) (hn:n.size ≤ 9223372036854775807) (hg:(Lit.int .i64 g).wf = true):∃ k,laws_FnExactSolutionOf.f k t n g = some true:=by
 refine Ev.rounds (g:=fun k=>laws_FnExactSolutionOf.f k t n g) ?_
 unfold laws_FnExactSolutionOf.f
 obtain ⟨r,hr,hrs⟩:=szPuzzle_ok (g:=g) ht hn
 refine Ev.congr (fun k=>by rw [hr,Option.bind_some]) ?_
 by_cases h0:r < 0
 ·exact Ev.congr (fun k=>if_pos h0) (Ev.now _)
 obtain ⟨h1,h2⟩:=hrs o_m
 refine Ev.congr (fun k=>if_neg h0) ?_
 have hI:=impl_SolutionOf_ev t n g o_m
 refine Ev.congr (fun k=>by rw [show laws_toPuzzle.f t n g = some (t,n,g) from rfl,Option.bind_some,spec_sol_eq,Option.bind_some,Option.bind_some]) ?_
 refine Ev.bind hI (Ev.congr (fun k=>if_pos rfl) (Ev.congr (fun k=>?_) (Ev.now _)))
 rw [bne_self_eq_false];rfl
end Go.Proofs.YtldhkbiomingbaaGreatDoor.F
