/- The proof that the law's row holds, part 7: the kit's words, the printed walks and the plain law. No conditions beyond the card's own. -/
import Derived.Deep.RegionHeld3
import Derived.Test.YtldhkbiomingbaaGreatDoorC0
import Derived.Test.YtldhkbiomingbaaGreatDoorC1
import Derived.Test.YtldhkbiomingbaaGreatDoorC2
import Derived.Test.YtldhkbiomingbaaGreatDoorC3
import Derived.Test.YtldhkbiomingbaaGreatDoorC4
import Derived.Test.YtldhkbiomingbaaGreatDoorC5
import Derived.Test.YtldhkbiomingbaaGreatDoorC6
set_option linter.unusedVariables false
set_option linter.unusedSimpArgs false
set_option maxHeartbeats 8000000
set_option maxRecDepth 100000
namespace Go.Proofs.YtldhkbiomingbaaGreatDoor.F
open Go.Proofs.YtldhkbiomingbaaGreatDoor
open Go.RowKit Go.YW.PrintWords Go.YW.PrintLast Go.YW.PrintMore
attribute [local go_sem] max2_int min2_int max_two min_two max_three min_three max_four min_four
def impl_reach_cells.l0:Nat → ByteArray → List Int → List ByteArray → Int → Int → Option (List Int)
 | 0,_,_,_,_,_=>none
 | k + 1,x1,x5,x10,x11,x12=>if x12 < x11 then (if 0 ≤ x12 then (if x12 < (x10.length:Int) then ((impl_read.f (rdOf ByteArray.empty x10 x12)).bind fun bt106=>(if 0 < (x1.size:Int) then ((slices_Index_byte_byte.f k bt106.2.2 (bt x1 0)).bind fun t111=>(if x5.length < 17592186044416 then (impl_reach_cells.l0 k x1 (x5 ++ [t111]) x10 x11 (wrap64 (x12 + 1))) else (none))) else (none))) else (none)) else (none)) else (some x5)
def impl_reach_cells.f (k:Nat) (l0_0:List ByteArray) (l0_1:List Int) (l0_2:List (List Int)) (l0_3:List ByteArray) (a1:ByteArray):Option (List Int):=impl_reach_cells.l0 k a1 (([]:List Int)) l0_0 (l0_0.length:Int) 0
theorem impl_reach_cells.mono_l:∀ k,(∀ y0 y1 y2 y3 y4,LeO (impl_reach_cells.l0 k y0 y1 y2 y3 y4) (impl_reach_cells.l0 (k + 1) y0 y1 y2 y3 y4))
 | 0=>fun _ _ _ _ _ r h=>by simp [impl_reach_cells.l0] at h
 | k + 1=>by
  have ih0:=impl_reach_cells.mono_l k
  ·intro y0 y1 y2 y3 y4
   unfold impl_reach_cells.l0
   have im0:=@slices_Index_byte_byte.mono;exact mo
theorem impl_reach_cells.mono:∀ a0 a1 a2 a3 a4 k,LeO (impl_reach_cells.f k a0 a1 a2 a3 a4) (impl_reach_cells.f (k + 1) a0 a1 a2 a3 a4):=by
 intro a0 a1 a2 a3 a4 k
 have ih0:=impl_reach_cells.mono_l k
 unfold impl_reach_cells.f
 have im0:=@slices_Index_byte_byte.mono;exact mo
def impl_reach_cells.T5:Bool × List (List Nat × List Nat):=(true,[([],[]),([],[]),([1],[1]),([2],[2]),([],[]),([4],[4]),([3,5,2],[3,5]),([6],[6]),([0,7,6],[0,7]),([8,8,0,1,2,3,4,5,6,7,8],[0,8])])
def impl_reach_cells.B5:List Nat:=[0,0,2,6,0,16,62,126,255,511]
theorem impl_reach_cells.tab5:rtab .any (opsOf Tryz.f50 5) = impl_reach_cells.T5:=by kernel_rfl
theorem impl_reach_cells.bits5:waitsOk impl_reach_cells.T5.2 impl_reach_cells.B5 = true:=by kernel_rfl
theorem impl_reach_cells.calls (k:Nat) (A0_0:Option Addr) (c0_0:Nat) (l0_0:List ByteArray) (A0_1:Option Addr) (c0_1:Nat) (l0_1:List Int) (A0_2:Option Addr) (c0_2:Nat) (l0_2:List (List Int)) (A0_3:Option Addr) (c0_3:Nat) (l0_3:List ByteArray) (a1:ByteArray) (r:List Int) (w:World) (hr0_0:Kd.C Kd.string w A0_0 l0_0.length l0_0) (hc0_0:l0_0.length ≤ c0_0) (hr0_1:Kd.C (Kd.int .i64) w A0_1 l0_1.length l0_1) (hc0_1:l0_1.length ≤ c0_1) (hr0_2:Kd.C (Kd.slice 3 (Kd.int .i64)) w A0_2 l0_2.length l0_2) (hc0_2:l0_2.length ≤ c0_2) (hr0_3:Kd.C Kd.string w A0_3 l0_3.length l0_3) (hc0_3:l0_3.length ≤ c0_3) (h:impl_reach_cells.f k l0_0 l0_1 l0_2 l0_3 a1 = some r) :
  Calls Tryz.prog 50 #[.agg #[.slice A0_0 l0_0.length c0_0,.slice A0_1 l0_1.length c0_1,.slice A0_2 l0_2.length c0_2,.slice A0_3 l0_3.length c0_3],.string a1] w fun e w'=>∃ v0_:Value,e = .returned (v0_) ∧ Kd.R (Kd.int .i64) 3 w' w.heap.size (fun _=>True) v0_ r ∧ Below w.heap.size w w':=by
 have hu59:=Tryz.underlying59
 have hfd65_2:∀ (x0_ x1_ x2_:Value) (W:World),(Instr.field 65 (.agg #[x0_,x1_,x2_]) 2).run Tryz.prog W = .ok x2_ W:=fun _ _ _  _=>by kernel_rfl
 have HR0_0:=am hr0_0
 have HC0_0:=am hc0_0
 clear hr0_0 hc0_0
 have HR0_1:=am hr0_1
 have HC0_1:=am hc0_1
 clear hr0_1 hc0_1
 have HR0_2:=am hr0_2
 have HC0_2:=am hc0_2
 clear hr0_2 hc0_2
 have HR0_3:=am hr0_3
 have HC0_3:=am hc0_3
 clear hr0_3 hc0_3
 have HB:=am (Below.refl w.heap.size w)
 have H:(impl_reach_cells.l0 k a1 (([]:List Int)) l0_0 (l0_0.length:Int) 0) = some r:=h
 clear h
 obtain ⟨y102,hy_⟩:∃ y_:List Int,y_ = (([]:List Int)):=⟨_,rfl⟩
 replace H:(impl_reach_cells.l0 k a1 y102 l0_0 (l0_0.length:Int) 0) = some r:=aq6
 have Ny102:=am hy_
 clear hy_
 have H':=am H
 clear H
 go_enter Tryz.func50,Tryz.ntmps50
 go_wp2_with (first | (refine bx 2 #[.slice A0_0 l0_0.length c0_0,.slice A0_1 l0_1.length c0_1,.slice A0_2 l0_2.length c0_2,.slice A0_3 l0_3.length c0_3] 59 ?_;intro gb101 hg w3 hbox hb;have BK101:=am (hbox);have GW101:=am ((by rw [hg];exact (below_size aq2):w.heap.size ≤ gb101));have GE101:=GW101;replace HB:=am (below_step aq2 hb);clear hb hbox hg) | ((with_reducible refine gate_dst (N:=8) rfl ?_);refine Kd.R_lit (Kd.int .i64) _ 3 ?hg (N:=8) ?hd (xs:=([]:List Int)) (inner:=[]) (ok:=fun _=>True) (okp:=fun _=>True) ?hr ?hp (fun _ hk=>hk) trivial (Below.refl _ _) (Nat.le_refl _) (by simp) ?_;(case hd=>rfl);(case hg=>rfl);(case hr=>exact aq13);(case hp=>exact (Reps.none _ _));intro v103 w4 ho5 hb hg_ hnew_;clear hg_ hnew_;(first | rw [← Ny102.out] at ho5 | (simp only [Int.reduceToNat] at ho5;rw [← Ny102.out] at ho5));have HO104:=am (Kd.R_lower ho5 (below_size aq0));replace BK101:=am (bb BK101 hb);replace HB:=am (below_step aq0 hb);clear hb ho5;obtain ⟨hcz6_0,hcz6_1,hcz6_2,hcz6_3,hfz6_0,hfz6_1,hfz6_2,hfz6_3⟩:=blk4_ BK101.out))
 go_loopg [5,12] k (fun kq v5 v12 w'=>∃ (x5_1:List Int) (x12_1:Int),v12 = .int .i64 x12_1 ∧ Aside0 (impl_reach_cells.l0 kq a1 x5_1 l0_0 (l0_0.length:Int) x12_1 = some r) ∧ Aside0 (kq ≤ k) ∧ Aside0 (Kd.R (Kd.int .i64) 3 w' w.heap.size (fun _=>True) v5 x5_1) ∧ Aside0 (w'.heap[gb101]? = some (.cells #[(.slice A0_0 l0_0.length c0_0),(.slice A0_1 l0_1.length c0_1),(.slice A0_2 l0_2.length c0_2),(.slice A0_3 l0_3.length c0_3)] 59 (0,0))) ∧ Aside0 (Below w.heap.size w w'))
 case atStart=>exact ⟨(y102),(0),aq7,H',⟨Nat.le_refl _⟩,⟨aq27⟩,⟨aq1⟩,⟨aq0⟩⟩
 case round =>
  clear H'
  try clear p2
  try clear c5
  try clear hcz6_0
  try clear hcz6_1
  try clear hcz6_2
  try clear hcz6_3
  try clear hfz6_0
  try clear hfz6_1
  try clear hfz6_2
  try clear hfz6_3
  obtain ⟨x5_1,x12_1,rfl,HA,HK1,HO_5,BK101,HB⟩:=hrel
  cases gk with
  | zero=>exact absurd HA.out (by simp [impl_reach_cells.l0])
  | succ k1 =>
   have H:=HA.out
   clear HA
   simp only [impl_reach_cells.l0] at H
   by_cases c7:x12_1 < (l0_0.length:Int)
   rotate_left
   ·rw [if_neg c7] at H
    have c7b0:=decide_eq_false c7
    clear c7
    obtain rfl:=Option.some.inj H
    go_wp2
    go_ret
    exact ⟨_,aq8,aq69,aq0⟩
   rw [if_pos c7] at H
   have c7b0:=decide_eq_true c7
   clear c7
   replace H:=gd H
   obtain ⟨c8,H⟩:=H
   have c8b0:=decide_eq_true c8
   clear c8
   replace H:=gd H
   obtain ⟨c9,H⟩:=H
   have c9b0:=decide_eq_true c9
   clear c9
   replace H:=Option.bind_eq_some_iff.mp H
   obtain ⟨⟨t106,t107,t108⟩,A100,H⟩:=H
   replace H:(if 0 < (a1.size:Int) then ((slices_Index_byte_byte.f k1 t108 (bt a1 0)).bind fun t111=>(if x5_1.length < 17592186044416 then (impl_reach_cells.l0 k1 a1 (x5_1 ++ [t111]) l0_0 (l0_0.length:Int) (wrap64 (x12_1 + 1))) else (none))) else (none)) = some r:=H
   have A10:=am A100
   clear A100
   replace H:=gd H
   obtain ⟨c11,H⟩:=H
   have c11b0:=decide_eq_true c11
   have c11b1:decide (0 < a1.size) = true:=decide_eq_true o_m
   clear c11
   obtain ⟨t111,A13,H⟩:=bn H
   replace H:=gd H
   obtain ⟨c14,H⟩:=H
   have LMc14:=am c14
   clear c14
   obtain ⟨y112,hy_⟩:∃ y_:List Int,y_ = (x5_1 ++ [t111]):=⟨_,rfl⟩
   replace H:(impl_reach_cells.l0 k1 a1 y112 l0_0 (l0_0.length:Int) (wrap64 (x12_1 + 1))) = some r:=aq6
   have Ny112:=am hy_
   clear hy_
   have H':=am H
   clear H
   have p105:0 ≤ (x12_1:Int):=of_decide_eq_true aq5
   have q105:x12_1 < (l0_0.length:Int):=of_decide_eq_true aq5
   obtain ⟨ad105,e105,hx105_0⟩:=Kd.at_string HR0_0.out x12_1 p105 q105
   cases e105
   try replace hx105_0:=(HB.out.cell (World.block_lt_of_cell? w _ hx105_0)).trans hx105_0
   replace p105:=eq_true p105
   replace q105:=eq_true q105
   try go_wp2
   replace HO_5:=am (Kd.R_drew HO_5.out)
   replace BK101:=am (blk_drew BK101.out)
   replace HB:=am (below_drew1 HB.out)
   have p12:0 ≤ (0:Int):=o_m
   have q12:0 < a1.size:=(by have:(0:Int) < (a1.size:Int):=of_decide_eq_true aq5;omega)
   have hx12:∀ h:0 < a1.size,((a1[0]'h).toNat:Int) = bt a1 0:=bt_at a1 0
   clear p12
   have qi12:(0 < (a1.size:Int)) = True:=eq_true (of_decide_eq_true aq5)
   replace q12:=eq_true q12
   refine start_ (n:=10) (S:=fun w'=>True) (ds:=[]) (bm 10 0) k_r rfl rfl trivial (fun hHeld=>?_);refine with_tabW impl_reach_cells.tab5 impl_reach_cells.bits5 (fun HT_ HW_=>?_)
   generalize wr.drew = w15 at HO_5 BK101 HB hHeld ⊢
   refine py (i:=0) (N:=some 16) (bm 10 1) ?_
   refine py (i:=1) (N:=some 17) (bm 10 3) ?_
   refine py (i:=4) (N:=some 20) (bm 10 19) ?_
   refine tk1 (i:=5) (N:=some 21) (bm 10 51) hHeld ?_
   refine one_ (i:=2) (N:=some 18) (bm 10 55) rfl rfl (one_of HT_.out k_r) d_c (fun K hK=>?_)
   refine goes_ Tryz.func51 k_r rfl #[.string (rdOf ByteArray.empty l0_0 x12_1)] (by rfl) rfl rfl aq4 ?_
   with_reducible refine (impl_read.calls (rdOf ByteArray.empty l0_0 x12_1) t106 t107 t108 _ A10.out).mono ?_
   rintro e w16 ⟨v109,rfl,ho0,hb⟩
   refine ⟨_,rfl,?_⟩
   have HO110:=am (Kd.V_lower (Kd.V_mono (ok':=fun k_=>some k_ ≠ (u5:Value).ownBlock ∧ k_ ≠ gb101) ho0 (fun k_ hk_=>⟨(Kd.fresh' (Kd.R_lt aq69) k_ hk_),(Kd.freshB (g:=gb101) (o:=.cells #[.slice (some ad105) l0_0.length c0_0,.slice A0_1 l0_1.length c0_1,.slice A0_2 l0_2.length c0_2,.slice A0_3 l0_3.length c0_3] 59 (0,0)) aq1 k_ hk_)⟩)) (below_size aq0))
   replace HO_5:=am (Kd.R_below aq69 hb)
   replace BK101:=am (bb BK101 hb)
   replace HB:=am (below_step aq0 hb)
   (try clear hb)
   (try clear ho0)
   obtain ⟨Ao17,co17,eo17⟩:=Kd.V_slice HO110.out
   (first | subst eo17 | (injection eo17 with f1_ f2_ f3_;have f4_:=f1_.symm;have f5_:=f3_.symm;clear f1_ f2_ f3_;subst f4_;subst f5_))
   refine hK.out _ _ trivial (fun hHeld=>?_)
   clear hK K
   refine nm (some 18) ?_
   refine py (i:=3) (N:=some 19) (bm 10 63) ?_
   refine one_ (i:=6) (N:=some 22) (bm 10 127) rfl rfl (one_of HT_.out k_r) d_c (fun K hK=>?_)
   refine goes_ Tryz.func89 k_r rfl #[.slice Ao17 t108.length co17,.int .u8 (bt a1 0)] (by rfl) rfl rfl aq4 ?_
   with_reducible refine (slices_Index_byte_byte.calls k1 _ _ t108 (bt a1 0) t111 _ ?side1 ?side2 A13.out).mono ?_
   (case side1=>repeat (first | exact (Kd.V_reads' HO110.out).2.2 | (with_reducible refine Kd.C_alloc ?_ _) | (with_reducible refine Kd.C_drewN ?_ _) | (with_reducible refine Kd.C_drew ?_)))
   (case side2=>exact (Kd.V_reads' HO110.out).2.1)
   rintro e w' ⟨rfl,⟨nd,rfl⟩⟩
   refine ⟨_,rfl,?_⟩
   refine hK.out _ _ trivial (fun hHeld=>?_)
   clear hK K
   refine nm (some 22) ?_
   refine one_ (i:=7) (N:=some 23) (bm 10 255) rfl rfl (one_of HT_.out k_r) d_c (fun K hK=>?_)
   refine value_ (w1:=?_) (v:=?_) (by rfl) rfl ?_ ?_
   rotate_left 2
   ·go_simp
    constructor
    ·rfl
    ·rfl
   refine hK.out _ _ trivial (fun hHeld=>?_)
   clear hK K
   refine nm (some 23) ?_
   refine one_ (i:=8) (N:=some 24) (bm 10 511) rfl rfl (one_of HT_.out k_r) d_c (fun K hK=>?_)
   refine Kd.R_append_step (Kd.int .i64) (w0:=w) w.heap.size (by rfl) (.tmp 16) (.tmp 23) 40 3 (.int .i64 0) 8 rfl Tryz.underlying40 info3 rfl d_c o_m u5 x5_1 t111 [.int .i64 t111] (fun _=>True) (fun _=>False) rfl rfl ?aP (fun _ hk=>hk.elim) ?aF ?aO ?aB ?aS ?aL ?_
   (case aP=>exact rfl)
   (case aB=>exact aq0)
   (case aF=>exact aq87)
   (case aO=>exact aq69)
   (case aS=>exact aq78)
   (case aL=>have:=LMc14.out;omega)
   intro v113 w18 ho hb hg hat
   rw [← Ny112.out] at ho
   replace BK101:=am (bg BK101 hg (Kd.R_ne HO_5.out BK101.out d_c))
   replace HO110:=am (Kd.V_afterv (ok:=(fun k_=>k_ ≠ gb101)) (by (with_reducible repeat (first | apply Kd.V_alloc | apply Kd.V_drewN | apply Kd.V_drew));exact Kd.V_mono HO110.out (fun _ hk=>⟨hk.2,hk.1⟩)) hg hat)
   replace HB:=am (hb)
   have HO114:=am (ho)
   clear HO_5 ho hb hg hat
   refine hK.out _ _ trivial (fun hHeld=>?_)
   clear hK K
   refine nm (some 24) ?_
   refine py (i:=9) (N:=some 5) (bm 10 1023) ?_
   refine done_ (done_of HT_.out k_r) ?_
   try go_wp2
   go_roundg k1
   case measure=>have:=HK1.out;omega
   case rel=>exact ⟨(y112),(wrap64 (x12_1 + 1)),aq7,H',⟨aq77⟩,⟨by (with_reducible repeat (first | apply Kd.R_alloc | apply Kd.R_drewN | apply Kd.R_drew));exact HO114.out⟩,⟨aq1⟩,⟨aq0⟩⟩
def slices_Index_int_int.l0:Nat → List Int → Int → Int → Int → Option (Int)
 | 0,_,_,_,_=>none
 | k + 1,x0,x1,x7,x8=>if x8 < x7 then (if 0 ≤ x8 then (if x8 < (x0.length:Int) then (if x1 = (rd x0 x8) then (some x8) else (slices_Index_int_int.l0 k x0 x1 x7 (wrap64 (x8 + 1)))) else (none)) else (none)) else (some (-1))
def slices_Index_int_int.f (k:Nat) (l0:List Int) (a1:Int):Option (Int):=slices_Index_int_int.l0 k l0 a1 (l0.length:Int) 0
theorem slices_Index_int_int.mono_l:∀ k,(∀ y0 y1 y2 y3,LeO (slices_Index_int_int.l0 k y0 y1 y2 y3) (slices_Index_int_int.l0 (k + 1) y0 y1 y2 y3))
 | 0=>fun _ _ _ _ r h=>by simp [slices_Index_int_int.l0] at h
 | k + 1=>by
  have ih0:=slices_Index_int_int.mono_l k
  ·intro y0 y1 y2 y3
   unfold slices_Index_int_int.l0
   exact mo
theorem slices_Index_int_int.mono:∀ a0 a1 k,LeO (slices_Index_int_int.f k a0 a1) (slices_Index_int_int.f (k + 1) a0 a1):=by
 intro a0 a1 k
 have ih0:=slices_Index_int_int.mono_l k
 unfold slices_Index_int_int.f
 exact mo
theorem slices_Index_int_int.calls (k:Nat) (A0:Option Addr) (c0:Nat) (l0:List Int) (a1:Int) (r:Int) (w:World) (hr0:Kd.C (Kd.int .i64) w A0 l0.length l0) (hc0:l0.length ≤ c0) (h:slices_Index_int_int.f k l0 a1 = some r) :
  Calls Tryz.prog 52 #[.slice A0 l0.length c0,.int .i64 a1] w fun e w'=>e = .returned (.int .i64 r) ∧ Drawn0 w w':=by
 have HR0:=am hr0
 have HC0:=am hc0
 clear hr0 hc0
 have H:(slices_Index_int_int.l0 k l0 a1 (l0.length:Int) 0) = some r:=h
 clear h
 have H':=am H
 clear H
 go_enter Tryz.func52,Tryz.ntmps52
 go_wp2
 go_loopg [8] k (fun kq v8 w'=>∃ (x8_1:Int),v8 = .int .i64 x8_1 ∧ Aside0 (slices_Index_int_int.l0 kq l0 a1 (l0.length:Int) x8_1 = some r) ∧ Aside0 (kq ≤ k) ∧ Drawn0 w w')
 case atStart=>exact ⟨(0),aq7,H',⟨Nat.le_refl _⟩,aq23⟩
 case round =>
  clear H'
  try clear p2
  obtain ⟨x8_1,rfl,HA,HK1,⟨m1,rfl⟩⟩:=hrel
  cases gk with
  | zero=>exact absurd HA.out (by simp [slices_Index_int_int.l0])
  | succ k1 =>
   have H:=HA.out
   clear HA
   simp only [slices_Index_int_int.l0] at H
   by_cases c3:x8_1 < (l0.length:Int)
   rotate_left
   ·rw [if_neg c3] at H
    have c3b0:=decide_eq_false c3
    clear c3
    obtain rfl:=Option.some.inj H
    go_wp2
    go_ret
    exact ⟨aq7,aq23⟩
   rw [if_pos c3] at H
   have c3b0:=decide_eq_true c3
   clear c3
   replace H:=gd H
   obtain ⟨c4,H⟩:=H
   have c4b0:=decide_eq_true c4
   clear c4
   replace H:=gd H
   obtain ⟨c5,H⟩:=H
   have c5b0:=decide_eq_true c5
   clear c5
   by_cases c6:a1 = (rd l0 x8_1)
   ·rw [if_pos c6] at H
    have c6b0:=beq_iff_eq.mpr c6
    have c6b1:=bne_eq_false_iff_eq.mpr c6
    clear c6
    obtain rfl:=Option.some.inj H
    have p101:0 ≤ (x8_1:Int):=of_decide_eq_true aq5
    have q101:x8_1 < (l0.length:Int):=of_decide_eq_true aq5
    obtain ⟨ad101,e101,hx101_0⟩:=Kd.at_int HR0.out x8_1 p101 q101
    cases e101
    replace p101:=eq_true p101
    replace q101:=eq_true q101
    go_wp2
    go_ret
    exact ⟨aq7,aq23⟩
   rw [if_neg c6] at H
   have c6b0:=beq_eq_false_iff_ne.mpr c6
   have c6b1:=bne_iff_ne.mpr c6
   have H':=am H
   clear H
   have p101:0 ≤ (x8_1:Int):=of_decide_eq_true aq5
   have q101:x8_1 < (l0.length:Int):=of_decide_eq_true aq5
   obtain ⟨ad101,e101,hx101_0⟩:=Kd.at_int HR0.out x8_1 p101 q101
   cases e101
   replace p101:=eq_true p101
   replace q101:=eq_true q101
   go_wp2
   go_roundg k1
   case measure=>have:=HK1.out;omega
   case rel=>exact ⟨(wrap64 (x8_1 + 1)),aq7,H',⟨aq77⟩,aq23⟩
def impl_solution.f (k:Nat) (a0_0:ByteArray) (a0_1:ByteArray) (a0_2:Int):Option (List ByteArray × List Int × (List (List Int)) × List ByteArray × Int × Bool):=(impl_IsPuzzle.f k a0_0 a0_1 a0_2).bind fun t103=>(if t103 = true then ((impl_reachOf.f a0_0).bind fun bt104=>(if bt104.2.2.2.2 = true then ((impl_reach_cells.f k bt104.1 bt104.2.1 bt104.2.2.1 bt104.2.2.2.1 a0_1).bind fun t118=>((slices_Index_int_int.f k t118 a0_2).bind fun t121=>(if t121 ≥ 0 then (if 0 ≤ t121 then (if t121 < (bt104.2.1.length:Int) then (some (bt104.1,bt104.2.1,bt104.2.2.1,bt104.2.2.2.1,t121,decide ((rd bt104.2.1 t121) ≤ 40))) else (none)) else (none)) else (some (bt104.1,bt104.2.1,bt104.2.2.1,bt104.2.2.2.1,t121,false))))) else (some (([]:List ByteArray),([]:List Int),([]:List (List Int)),([]:List ByteArray),0,false)))) else (some (([]:List ByteArray),([]:List Int),([]:List (List Int)),([]:List ByteArray),0,false)))
theorem impl_solution.mono:∀ a0 a1 a2 k,LeO (impl_solution.f k a0 a1 a2) (impl_solution.f (k + 1) a0 a1 a2):=by
 intro a0 a1 a2 k
 unfold impl_solution.f
 have im0:=@impl_IsPuzzle.mono;have im1:=@impl_reach_cells.mono;have im2:=@slices_Index_int_int.mono;exact mo
def impl_solution.T6:Bool × List (List Nat × List Nat):=(true,[([],[]),([],[]),([1],[1]),([0,2],[0,2]),([],[]),([4],[4]),([3,5,3],[3,5]),([6,6,0,1,2,3,4,5,6],[6])])
def impl_solution.B6:List Nat:=[0,0,2,7,0,16,63,127]
theorem impl_solution.tab6:rtab .any (opsOf Tryz.f55 6) = impl_solution.T6:=by kernel_rfl
theorem impl_solution.bits6:waitsOk impl_solution.T6.2 impl_solution.B6 = true:=by kernel_rfl
def impl_solution.T7:Bool × List (List Nat × List Nat):=(true,[([],[]),([],[]),([],[]),([2],[2]),([3],[3]),([4],[4]),([5,4],[4,5]),([4],[4]),([6,7,4],[4,6,7]),([8,4],[4,8]),([9,4],[4,9]),([4,10],[4,10]),([0,4,0],[0]),([1,12,0,1,12],[1]),([11,13,0,1,2,3,4,5,6,7,8,9,10,11,12,13],[11])])
def impl_solution.B7:List Nat:=[0,0,0,4,12,28,60,28,252,508,1020,2044,29,4127,16383]
theorem impl_solution.tab7:rtab .any (opsOf Tryz.f55 7) = impl_solution.T7:=by kernel_rfl
theorem impl_solution.bits7:waitsOk impl_solution.T7.2 impl_solution.B7 = true:=by kernel_rfl
theorem impl_solution.calls (k:Nat) (a0_0:ByteArray) (a0_1:ByteArray) (a0_2:Int) (r1:List ByteArray) (r2:List Int) (r3:List (List Int)) (r4:List ByteArray) (r5:Int) (r6:Bool) (w:World) (h:impl_solution.f k a0_0 a0_1 a0_2 = some (r1,r2,r3,r4,r5,r6)) :
  Calls Tryz.prog 55 #[.agg #[.string a0_0,.string a0_1,.int .i64 a0_2]] w fun e w'=>∃ v0_ v1_ v2_ v3_:Value,e = .returned (.tuple #[.agg #[v0_,v1_,v2_,v3_],.int .i64 r5,.bool r6]) ∧ Kd.R Kd.string 9 w' w.heap.size (fun k_=>some k_ ≠ (v3_:Value).ownBlock) v0_ r1 ∧ Kd.R (Kd.int .i64) 3 w' w.heap.size (fun _=>True) v1_ r2 ∧ Kd.S (Kd.slice 3 (Kd.int .i64)) 40 w' w.heap.size (fun k_=>some k_ ≠ (v1_:Value).ownBlock) v2_ r3 ∧ Kd.R Kd.string 9 w' w.heap.size (fun k_=>some k_ ≠ (v0_:Value).ownBlock) v3_ r4 ∧ Below w.heap.size w w':=by
 have hu30:=Tryz.underlying30
 have hu59:=Tryz.underlying59
 have HB:=am (Below.refl w.heap.size w)
 have H:((impl_IsPuzzle.f k a0_0 a0_1 a0_2).bind fun t103=>(if t103 = true then ((impl_reachOf.f a0_0).bind fun bt104=>(if bt104.2.2.2.2 = true then ((impl_reach_cells.f k bt104.1 bt104.2.1 bt104.2.2.1 bt104.2.2.2.1 a0_1).bind fun t118=>((slices_Index_int_int.f k t118 a0_2).bind fun t121=>(if t121 ≥ 0 then (if 0 ≤ t121 then (if t121 < (bt104.2.1.length:Int) then (some (bt104.1,bt104.2.1,bt104.2.2.1,bt104.2.2.2.1,t121,decide ((rd bt104.2.1 t121) ≤ 40))) else (none)) else (none)) else (some (bt104.1,bt104.2.1,bt104.2.2.1,bt104.2.2.2.1,t121,false))))) else (some (([]:List ByteArray),([]:List Int),([]:List (List Int)),([]:List ByteArray),0,false)))) else (some (([]:List ByteArray),([]:List Int),([]:List (List Int)),([]:List ByteArray),0,false)))) = some (r1,r2,r3,r4,r5,r6):=h
 clear h
 obtain ⟨t103,A2,H⟩:=bn H
 by_cases c3:t103 = true
 rotate_left
 ·replace c3:=Bool.eq_false_iff.mpr c3
  subst c3
  rw [if_neg Bool.false_ne_true] at H
  simp only [Option.some.injEq,Prod.mk.injEq] at H
  obtain ⟨rfl,rfl,rfl,rfl,rfl,rfl⟩:=H
  go_enter Tryz.func55,Tryz.ntmps55
  go_wp2_with (first | (refine bx 1 #[.string a0_0,.string a0_1,.int .i64 a0_2] 30 ?_;intro gb101 hg w75 hbox hb;have BK101:=am (hbox);have GW101:=am ((by rw [hg];exact (below_size aq2):w.heap.size ≤ gb101));have GE101:=GW101;replace HB:=am (below_step aq2 hb);clear hb hbox hg) | (refine bx 2 #[.slice none 0 0,.slice none 0 0,.slice none 0 0,.slice none 0 0] 59 ?_;intro gb102 hg w76 hbox hb;have BK102:=am (hbox);have GW102:=am ((by rw [hg];exact (below_size aq0):w.heap.size ≤ gb102));have GE102:=GW102;replace HB:=am (below_step aq0 hb);have NB101_102:=am ((by rw [hg];exact Nat.ne_of_lt (blk_lt (g:=gb101) (o:=.cells #[.string a0_0,.string a0_1,.int .i64 a0_2] 30 (0,0)) aq1):gb101 ≠ gb102));have NB102_101:=am ((by rw [hg];exact Nat.ne_of_gt (blk_lt (g:=gb101) (o:=.cells #[.string a0_0,.string a0_1,.int .i64 a0_2] 30 (0,0)) aq1):gb102 ≠ gb101));replace BK101:=am (bb BK101 hb);clear hb hbox hg;have hnb77:=NB101_102.out;have hnc77:=NB102_101.out;obtain ⟨hcz78_0,hcz78_1,hcz78_2,hfz78_0,hfz78_1,hfz78_2⟩:=blk3_ BK101.out) | ((with_reducible refine gate_callee (f:=94) rfl ?_);refine goesL_ (some 9) rfl rfl Tryz.func94 k_r rfl #[.agg #[.string a0_0,.string a0_1,.int .i64 a0_2]] rfl aq4 ?_;(with_reducible refine (impl_IsPuzzle.calls k a0_0 a0_1 a0_2 false _ A2.out).mono ?_);rintro e w79 ⟨rfl,hb⟩;refine ⟨_,rfl,?_⟩;replace BK101:=am (bb BK101 hb);replace BK102:=am (bb BK102 hb);replace HB:=am (below_step aq3 hb);(try clear hb);obtain ⟨hcz80_0,hcz80_1,hcz80_2,hcz80_3,hfz80_0,hfz80_1,hfz80_2,hfz80_3⟩:=blk4_ BK102.out))
  refine bodyPost_ret (results_ctt rfl _ _ gb102 59 #[.slice none 0 0,.slice none 0 0,.slice none 0 0,.slice none 0 0] (0,0) _ rfl (by (with_reducible repeat (first | refine blk_drewN ?_ _ | refine blk_drew ?_ | refine blk_alloc ?_ _));refine blk_put (cs:=#[.slice none 0 0,.slice none 0 0,.slice none 0 0,.slice none 0 0]) ?_ 3 _ rfl;(with_reducible repeat (first | refine blk_drewN ?_ _ | refine blk_drew ?_ | refine blk_alloc ?_ _));refine blk_put (cs:=#[.slice none 0 0,.slice none 0 0,.slice none 0 0,.slice none 0 0]) ?_ 2 _ rfl;(with_reducible repeat (first | refine blk_drewN ?_ _ | refine blk_drew ?_ | refine blk_alloc ?_ _));refine blk_put (cs:=#[.slice none 0 0,.slice none 0 0,.slice none 0 0,.slice none 0 0]) ?_ 1 _ rfl;(with_reducible repeat (first | refine blk_drewN ?_ _ | refine blk_drew ?_ | refine blk_alloc ?_ _));refine blk_put (cs:=#[.slice none 0 0,.slice none 0 0,.slice none 0 0,.slice none 0 0]) ?_ 0 _ rfl;(with_reducible repeat (first | refine blk_drewN ?_ _ | refine blk_drew ?_ | refine blk_alloc ?_ _));exact BK102.out) Tryz.underlying59 rfl k_r) rfl ?_
  exact ⟨_,_,_,_,aq8,aq22,aq22,aq74,aq22,aq3⟩
 subst c3
 rw [if_pos rfl] at H
 replace H:=Option.bind_eq_some_iff.mp H
 obtain ⟨⟨t104,t107,t110,t113,t116⟩,A40,H⟩:=H
 replace H:(if t116 = true then ((impl_reach_cells.f k t104 t107 t110 t113 a0_1).bind fun t118=>((slices_Index_int_int.f k t118 a0_2).bind fun t121=>(if t121 ≥ 0 then (if 0 ≤ t121 then (if t121 < (t107.length:Int) then (some (t104,t107,t110,t113,t121,decide ((rd t107 t121) ≤ 40))) else (none)) else (none)) else (some (t104,t107,t110,t113,t121,false))))) else (some (([]:List ByteArray),([]:List Int),([]:List (List Int)),([]:List ByteArray),0,false))) = some (r1,r2,r3,r4,r5,r6):=H
 have A4:=am A40
 clear A40
 by_cases c5:t116 = true
 rotate_left
 ·replace c5:=Bool.eq_false_iff.mpr c5
  subst c5
  rw [if_neg Bool.false_ne_true] at H
  simp only [Option.some.injEq,Prod.mk.injEq] at H
  obtain ⟨rfl,rfl,rfl,rfl,rfl,rfl⟩:=H
  go_enter Tryz.func55,Tryz.ntmps55
  go_wp2_with (first | (refine bx 1 #[.string a0_0,.string a0_1,.int .i64 a0_2] 30 ?_;intro gb101 hg w59 hbox hb;have BK101:=am (hbox);have GW101:=am ((by rw [hg];exact (below_size aq2):w.heap.size ≤ gb101));have GE101:=GW101;replace HB:=am (below_step aq2 hb);clear hb hbox hg) | (refine bx 2 #[.slice none 0 0,.slice none 0 0,.slice none 0 0,.slice none 0 0] 59 ?_;intro gb102 hg w60 hbox hb;have BK102:=am (hbox);have GW102:=am ((by rw [hg];exact (below_size aq0):w.heap.size ≤ gb102));have GE102:=GW102;replace HB:=am (below_step aq0 hb);have NB101_102:=am ((by rw [hg];exact Nat.ne_of_lt (blk_lt (g:=gb101) (o:=.cells #[.string a0_0,.string a0_1,.int .i64 a0_2] 30 (0,0)) aq1):gb101 ≠ gb102));have NB102_101:=am ((by rw [hg];exact Nat.ne_of_gt (blk_lt (g:=gb101) (o:=.cells #[.string a0_0,.string a0_1,.int .i64 a0_2] 30 (0,0)) aq1):gb102 ≠ gb101));replace BK101:=am (bb BK101 hb);clear hb hbox hg;have hnb61:=NB101_102.out;have hnc61:=NB102_101.out;obtain ⟨hcz62_0,hcz62_1,hcz62_2,hfz62_0,hfz62_1,hfz62_2⟩:=blk3_ BK101.out) | ((with_reducible refine gate_callee (f:=94) rfl ?_);refine goesL_ (some 9) rfl rfl Tryz.func94 k_r rfl #[.agg #[.string a0_0,.string a0_1,.int .i64 a0_2]] rfl aq4 ?_;(with_reducible refine (impl_IsPuzzle.calls k a0_0 a0_1 a0_2 true _ A2.out).mono ?_);rintro e w63 ⟨rfl,hb⟩;refine ⟨_,rfl,?_⟩;replace BK101:=am (bb BK101 hb);replace BK102:=am (bb BK102 hb);replace HB:=am (below_step aq3 hb);(try clear hb);obtain ⟨hcz64_0,hcz64_1,hcz64_2,hfz64_0,hfz64_1,hfz64_2⟩:=blk3_ BK101.out) | ((with_reducible refine gate_callee (f:=74) rfl ?_);refine goesL_ (some 15) rfl rfl Tryz.func74 k_r rfl #[.string a0_0] rfl aq4 ?_;(with_reducible refine (impl_reachOf.calls a0_0 t104 t107 t110 t113 false _ A4.out).mono ?_);rintro e w65 ⟨v105,v108,v111,v114,rfl,ho0,ho1,ho2,ho3,hb⟩;refine ⟨_,rfl,?_⟩;have HO106:=am (Kd.R_lower ho0 (below_size aq3));have HO109:=am (Kd.R_lower ho1 (below_size aq3));have HO112:=am (Kd.S_lower ho2 (below_size aq3));have HO115:=am (Kd.R_lower ho3 (below_size aq3));replace BK101:=am (bb BK101 hb);replace BK102:=am (bb BK102 hb);replace HB:=am (below_step aq3 hb);(try clear hb);(try clear ho0);(try clear ho1);(try clear ho2);(try clear ho3)) | (refine bx 5 #[.slice none 0 0,.slice none 0 0,.slice none 0 0,.slice none 0 0] 59 ?_;intro gb117 hg w66 hbox hb;replace HO106:=am (Kd.R_below aq21 hb);replace HO109:=am (Kd.R_below aq47 hb);replace HO112:=am (Kd.S_below aq45 hb);replace HO115:=am (Kd.R_below aq46 hb);have BK117:=am (hbox);have GW117:=am ((by rw [hg];exact (below_size aq3):w.heap.size ≤ gb117));have GE117:=GW117;replace HB:=am (below_step aq3 hb);have NB101_117:=am ((by rw [hg];exact Nat.ne_of_lt (blk_lt (g:=gb101) (o:=.cells #[.string a0_0,.string a0_1,.int .i64 a0_2] 30 (0,0)) aq1):gb101 ≠ gb117));have NB117_101:=am ((by rw [hg];exact Nat.ne_of_gt (blk_lt (g:=gb101) (o:=.cells #[.string a0_0,.string a0_1,.int .i64 a0_2] 30 (0,0)) aq1):gb117 ≠ gb101));replace BK101:=am (bb BK101 hb);have NB102_117:=am ((by rw [hg];exact Nat.ne_of_lt (blk_lt (g:=gb102) (o:=.cells #[.slice none 0 0,.slice none 0 0,.slice none 0 0,.slice none 0 0] 59 (0,0)) aq9):gb102 ≠ gb117));have NB117_102:=am ((by rw [hg];exact Nat.ne_of_gt (blk_lt (g:=gb102) (o:=.cells #[.slice none 0 0,.slice none 0 0,.slice none 0 0,.slice none 0 0] 59 (0,0)) aq9):gb117 ≠ gb102));replace BK102:=am (bb BK102 hb);clear hb hbox hg;obtain ⟨Ao67,co67,eo67⟩:=Kd.R_slice HO106.out;subst eo67;have hnb68:=NB117_101.out;have hnc68:=NB101_117.out;have hnb69:=NB117_102.out;have hnc69:=NB102_117.out;obtain ⟨hcz70_0,hcz70_1,hcz70_2,hcz70_3,hfz70_0,hfz70_1,hfz70_2,hfz70_3⟩:=blk4_ BK117.out;obtain ⟨Ao71,co71,eo71⟩:=Kd.R_slice HO109.out;subst eo71;obtain ⟨Ao72,co72,eo72⟩:=Kd.S_slice HO112.out;subst eo72;obtain ⟨Ao73,co73,eo73⟩:=Kd.R_slice HO115.out;subst eo73;obtain ⟨hcz74_0,hcz74_1,hcz74_2,hcz74_3,hfz74_0,hfz74_1,hfz74_2,hfz74_3⟩:=blk4_ BK102.out))
  refine bodyPost_ret (results_ctt rfl _ _ gb102 59 #[.slice none 0 0,.slice none 0 0,.slice none 0 0,.slice none 0 0] (0,0) _ rfl (by (with_reducible repeat (first | refine blk_drewN ?_ _ | refine blk_drew ?_ | refine blk_alloc ?_ _));refine blk_put (cs:=#[.slice none 0 0,.slice none 0 0,.slice none 0 0,.slice none 0 0]) ?_ 3 _ rfl;(with_reducible repeat (first | refine blk_drewN ?_ _ | refine blk_drew ?_ | refine blk_alloc ?_ _));refine blk_put (cs:=#[.slice none 0 0,.slice none 0 0,.slice none 0 0,.slice none 0 0]) ?_ 2 _ rfl;(with_reducible repeat (first | refine blk_drewN ?_ _ | refine blk_drew ?_ | refine blk_alloc ?_ _));refine blk_put (cs:=#[.slice none 0 0,.slice none 0 0,.slice none 0 0,.slice none 0 0]) ?_ 1 _ rfl;(with_reducible repeat (first | refine blk_drewN ?_ _ | refine blk_drew ?_ | refine blk_alloc ?_ _));refine blk_put (cs:=#[.slice none 0 0,.slice none 0 0,.slice none 0 0,.slice none 0 0]) ?_ 0 _ rfl;(with_reducible repeat (first | refine blk_drewN ?_ _ | refine blk_drew ?_ | refine blk_alloc ?_ _));refine blk_far ?_ NB102_117.out _;(with_reducible repeat (first | refine blk_drewN ?_ _ | refine blk_drew ?_ | refine blk_alloc ?_ _));refine blk_far ?_ NB102_117.out _;(with_reducible repeat (first | refine blk_drewN ?_ _ | refine blk_drew ?_ | refine blk_alloc ?_ _));refine blk_far ?_ NB102_117.out _;(with_reducible repeat (first | refine blk_drewN ?_ _ | refine blk_drew ?_ | refine blk_alloc ?_ _));refine blk_far ?_ NB102_117.out _;(with_reducible repeat (first | refine blk_drewN ?_ _ | refine blk_drew ?_ | refine blk_alloc ?_ _));exact BK102.out) Tryz.underlying59 rfl k_r) rfl ?_
  exact ⟨_,_,_,_,aq8,aq22,aq22,aq74,aq22,aq19⟩
 subst c5
 rw [if_pos rfl] at H
 obtain ⟨t118,A6,H⟩:=bn H
 obtain ⟨t121,A7,H⟩:=bn H
 by_cases c8:t121 ≥ 0
 rotate_left
 ·rw [if_neg c8] at H
  have c8b0:=decide_eq_false c8
  clear c8
  simp only [Option.some.injEq,Prod.mk.injEq] at H
  obtain ⟨rfl,rfl,rfl,rfl,rfl,rfl⟩:=H
  go_enter Tryz.func55,Tryz.ntmps55
  try go_wp2_with (first | (refine bx 1 #[.string a0_0,.string a0_1,.int .i64 a0_2] 30 ?_;intro gb101 hg w35 hbox hb;have BK101:=am (hbox);have GW101:=am ((by rw [hg];exact (below_size aq2):w.heap.size ≤ gb101));have GE101:=GW101;replace HB:=am (below_step aq2 hb);clear hb hbox hg) | (refine bx 2 #[.slice none 0 0,.slice none 0 0,.slice none 0 0,.slice none 0 0] 59 ?_;intro gb102 hg w36 hbox hb;have BK102:=am (hbox);have GW102:=am ((by rw [hg];exact (below_size aq0):w.heap.size ≤ gb102));have GE102:=GW102;replace HB:=am (below_step aq0 hb);have NB101_102:=am ((by rw [hg];exact Nat.ne_of_lt (blk_lt (g:=gb101) (o:=.cells #[.string a0_0,.string a0_1,.int .i64 a0_2] 30 (0,0)) aq1):gb101 ≠ gb102));have NB102_101:=am ((by rw [hg];exact Nat.ne_of_gt (blk_lt (g:=gb101) (o:=.cells #[.string a0_0,.string a0_1,.int .i64 a0_2] 30 (0,0)) aq1):gb102 ≠ gb101));replace BK101:=am (bb BK101 hb);clear hb hbox hg;have hnb37:=NB101_102.out;have hnc37:=NB102_101.out;obtain ⟨hcz38_0,hcz38_1,hcz38_2,hfz38_0,hfz38_1,hfz38_2⟩:=blk3_ BK101.out) | ((with_reducible refine gate_callee (f:=94) rfl ?_);refine goesL_ (some 9) rfl rfl Tryz.func94 k_r rfl #[.agg #[.string a0_0,.string a0_1,.int .i64 a0_2]] rfl aq4 ?_;(with_reducible refine (impl_IsPuzzle.calls k a0_0 a0_1 a0_2 true _ A2.out).mono ?_);rintro e w39 ⟨rfl,hb⟩;refine ⟨_,rfl,?_⟩;replace BK101:=am (bb BK101 hb);replace BK102:=am (bb BK102 hb);replace HB:=am (below_step aq3 hb);(try clear hb);obtain ⟨hcz40_0,hcz40_1,hcz40_2,hfz40_0,hfz40_1,hfz40_2⟩:=blk3_ BK101.out) | ((with_reducible refine gate_callee (f:=74) rfl ?_);refine goesL_ (some 15) rfl rfl Tryz.func74 k_r rfl #[.string a0_0] rfl aq4 ?_;(with_reducible refine (impl_reachOf.calls a0_0 t104 t107 t110 t113 true _ A4.out).mono ?_);rintro e w41 ⟨v105,v108,v111,v114,rfl,ho0,ho1,ho2,ho3,hb⟩;refine ⟨_,rfl,?_⟩;have HO106:=am (Kd.R_lower ho0 (below_size aq3));have HO109:=am (Kd.R_lower ho1 (below_size aq3));have HO112:=am (Kd.S_lower ho2 (below_size aq3));have HO115:=am (Kd.R_lower ho3 (below_size aq3));replace BK101:=am (bb BK101 hb);replace BK102:=am (bb BK102 hb);replace HB:=am (below_step aq3 hb);(try clear hb);(try clear ho0);(try clear ho1);(try clear ho2);(try clear ho3)) | (refine bx 5 #[.slice none 0 0,.slice none 0 0,.slice none 0 0,.slice none 0 0] 59 ?_;intro gb117 hg w42 hbox hb;replace HO106:=am (Kd.R_below aq21 hb);replace HO109:=am (Kd.R_below aq47 hb);replace HO112:=am (Kd.S_below aq45 hb);replace HO115:=am (Kd.R_below aq46 hb);have BK117:=am (hbox);have GW117:=am ((by rw [hg];exact (below_size aq3):w.heap.size ≤ gb117));have GE117:=GW117;replace HB:=am (below_step aq3 hb);have NB101_117:=am ((by rw [hg];exact Nat.ne_of_lt (blk_lt (g:=gb101) (o:=.cells #[.string a0_0,.string a0_1,.int .i64 a0_2] 30 (0,0)) aq1):gb101 ≠ gb117));have NB117_101:=am ((by rw [hg];exact Nat.ne_of_gt (blk_lt (g:=gb101) (o:=.cells #[.string a0_0,.string a0_1,.int .i64 a0_2] 30 (0,0)) aq1):gb117 ≠ gb101));replace BK101:=am (bb BK101 hb);have NB102_117:=am ((by rw [hg];exact Nat.ne_of_lt (blk_lt (g:=gb102) (o:=.cells #[.slice none 0 0,.slice none 0 0,.slice none 0 0,.slice none 0 0] 59 (0,0)) aq9):gb102 ≠ gb117));have NB117_102:=am ((by rw [hg];exact Nat.ne_of_gt (blk_lt (g:=gb102) (o:=.cells #[.slice none 0 0,.slice none 0 0,.slice none 0 0,.slice none 0 0] 59 (0,0)) aq9):gb117 ≠ gb102));replace BK102:=am (bb BK102 hb);clear hb hbox hg;obtain ⟨Ao43,co43,eo43⟩:=Kd.R_slice HO106.out;subst eo43;have hnb44:=NB117_101.out;have hnc44:=NB101_117.out;have hnb45:=NB117_102.out;have hnc45:=NB102_117.out;obtain ⟨hcz46_0,hcz46_1,hcz46_2,hcz46_3,hfz46_0,hfz46_1,hfz46_2,hfz46_3⟩:=blk4_ BK117.out;obtain ⟨Ao47,co47,eo47⟩:=Kd.R_slice HO109.out;subst eo47;obtain ⟨Ao48,co48,eo48⟩:=Kd.S_slice HO112.out;subst eo48;obtain ⟨Ao49,co49,eo49⟩:=Kd.R_slice HO115.out;subst eo49))
  have n0_:Aside0 (Kd.R Kd.string 9 ((((w42.setCell ⟨gb117,0,none⟩ (.slice Ao43 t104.length co43)).setCell ⟨gb117,1,none⟩ (.slice Ao47 t107.length co47)).setCell ⟨gb117,2,none⟩ (.slice Ao48 t110.length co48)).setCell ⟨gb117,3,none⟩ (.slice Ao49 t113.length co49)) w.heap.size (fun k_=>some k_ ≠ (.slice Ao49 t113.length co49:Value).ownBlock) (.slice Ao43 t104.length co43) t104):=⟨by (with_reducible repeat (first | apply Kd.R_alloc | apply Kd.R_drewN | apply Kd.R_drew));exact Kd.R_mono (Kd.R_far (p:=⟨gb117,3,none⟩) (Kd.R_far (p:=⟨gb117,2,none⟩) (Kd.R_far (p:=⟨gb117,1,none⟩) (Kd.R_far (p:=⟨gb117,0,none⟩) (Kd.R_types HO106.out BK117.out d_c) (fun _ hk=>hk.2) (.slice Ao43 t104.length co43)) (fun _ hk=>hk.2) (.slice Ao47 t107.length co47)) (fun _ hk=>hk.2) (.slice Ao48 t110.length co48)) (fun _ hk=>hk.2) (.slice Ao49 t113.length co49)) (fun _ hk=>hk.1)⟩
  have n1_:Aside0 (Kd.R (Kd.int .i64) 3 ((((w42.setCell ⟨gb117,0,none⟩ (.slice Ao43 t104.length co43)).setCell ⟨gb117,1,none⟩ (.slice Ao47 t107.length co47)).setCell ⟨gb117,2,none⟩ (.slice Ao48 t110.length co48)).setCell ⟨gb117,3,none⟩ (.slice Ao49 t113.length co49)) w.heap.size (fun _=>True) (.slice Ao47 t107.length co47) t107):=⟨by (with_reducible repeat (first | apply Kd.R_alloc | apply Kd.R_drewN | apply Kd.R_drew));exact Kd.R_mono (Kd.R_far (p:=⟨gb117,3,none⟩) (Kd.R_far (p:=⟨gb117,2,none⟩) (Kd.R_far (p:=⟨gb117,1,none⟩) (Kd.R_far (p:=⟨gb117,0,none⟩) (Kd.R_types HO109.out BK117.out d_c) (fun _ hk=>hk.2) (.slice Ao43 t104.length co43)) (fun _ hk=>hk.2) (.slice Ao47 t107.length co47)) (fun _ hk=>hk.2) (.slice Ao48 t110.length co48)) (fun _ hk=>hk.2) (.slice Ao49 t113.length co49)) (fun _ hk=>trivial)⟩
  have n2_:Aside0 (Kd.S (Kd.slice 3 (Kd.int .i64)) 40 ((((w42.setCell ⟨gb117,0,none⟩ (.slice Ao43 t104.length co43)).setCell ⟨gb117,1,none⟩ (.slice Ao47 t107.length co47)).setCell ⟨gb117,2,none⟩ (.slice Ao48 t110.length co48)).setCell ⟨gb117,3,none⟩ (.slice Ao49 t113.length co49)) w.heap.size (fun k_=>some k_ ≠ (.slice Ao47 t107.length co47:Value).ownBlock) (.slice Ao48 t110.length co48) t110):=⟨by (with_reducible repeat (first | apply Kd.S_alloc | apply Kd.S_drewN | apply Kd.S_drew));exact Kd.S_mono (Kd.S_far (p:=⟨gb117,3,none⟩) (Kd.S_far (p:=⟨gb117,2,none⟩) (Kd.S_far (p:=⟨gb117,1,none⟩) (Kd.S_far (p:=⟨gb117,0,none⟩) (Kd.S_types HO112.out BK117.out d_c) (fun _ hk=>hk.2) (.slice Ao43 t104.length co43)) (fun _ hk=>hk.2) (.slice Ao47 t107.length co47)) (fun _ hk=>hk.2) (.slice Ao48 t110.length co48)) (fun _ hk=>hk.2) (.slice Ao49 t113.length co49)) (fun _ hk=>hk.1)⟩
  have n3_:Aside0 (Kd.R Kd.string 9 ((((w42.setCell ⟨gb117,0,none⟩ (.slice Ao43 t104.length co43)).setCell ⟨gb117,1,none⟩ (.slice Ao47 t107.length co47)).setCell ⟨gb117,2,none⟩ (.slice Ao48 t110.length co48)).setCell ⟨gb117,3,none⟩ (.slice Ao49 t113.length co49)) w.heap.size (fun k_=>some k_ ≠ (.slice Ao43 t104.length co43:Value).ownBlock) (.slice Ao49 t113.length co49) t113):=⟨by (with_reducible repeat (first | apply Kd.R_alloc | apply Kd.R_drewN | apply Kd.R_drew));exact Kd.R_mono (Kd.R_far (p:=⟨gb117,3,none⟩) (Kd.R_far (p:=⟨gb117,2,none⟩) (Kd.R_far (p:=⟨gb117,1,none⟩) (Kd.R_far (p:=⟨gb117,0,none⟩) (Kd.R_types HO115.out BK117.out d_c) (fun _ hk=>hk.2) (.slice Ao43 t104.length co43)) (fun _ hk=>hk.2) (.slice Ao47 t107.length co47)) (fun _ hk=>hk.2) (.slice Ao48 t110.length co48)) (fun _ hk=>hk.2) (.slice Ao49 t113.length co49)) (fun _ hk=>hk.1)⟩
  have n4_:Aside0 (((((w42.setCell ⟨gb117,0,none⟩ (.slice Ao43 t104.length co43)).setCell ⟨gb117,1,none⟩ (.slice Ao47 t107.length co47)).setCell ⟨gb117,2,none⟩ (.slice Ao48 t110.length co48)).setCell ⟨gb117,3,none⟩ (.slice Ao49 t113.length co49)).heap[gb101]? = some (.cells #[.string a0_0,.string a0_1,.int .i64 a0_2] 30 (0,0))):=⟨aq43⟩
  have n5_:Aside0 (((((w42.setCell ⟨gb117,0,none⟩ (.slice Ao43 t104.length co43)).setCell ⟨gb117,1,none⟩ (.slice Ao47 t107.length co47)).setCell ⟨gb117,2,none⟩ (.slice Ao48 t110.length co48)).setCell ⟨gb117,3,none⟩ (.slice Ao49 t113.length co49)).heap[gb102]? = some (.cells #[.slice none 0 0,.slice none 0 0,.slice none 0 0,.slice none 0 0] 59 (0,0))):=⟨aq42⟩
  have n6_:Aside0 (((((w42.setCell ⟨gb117,0,none⟩ (.slice Ao43 t104.length co43)).setCell ⟨gb117,1,none⟩ (.slice Ao47 t107.length co47)).setCell ⟨gb117,2,none⟩ (.slice Ao48 t110.length co48)).setCell ⟨gb117,3,none⟩ (.slice Ao49 t113.length co49)).heap[gb117]? = some (.cells #[.slice Ao43 t104.length co43,.slice Ao47 t107.length co47,.slice Ao48 t110.length co48,.slice Ao49 t113.length co49] 59 (0,0))):=⟨by (with_reducible repeat (first | refine blk_drewN ?_ _ | refine blk_drew ?_ | refine blk_alloc ?_ _));refine blk_put (cs:=#[.slice Ao43 t104.length co43,.slice Ao47 t107.length co47,.slice Ao48 t110.length co48,.slice none 0 0]) ?_ 3 _ rfl;(with_reducible repeat (first | refine blk_drewN ?_ _ | refine blk_drew ?_ | refine blk_alloc ?_ _));refine blk_put (cs:=#[.slice Ao43 t104.length co43,.slice Ao47 t107.length co47,.slice none 0 0,.slice none 0 0]) ?_ 2 _ rfl;(with_reducible repeat (first | refine blk_drewN ?_ _ | refine blk_drew ?_ | refine blk_alloc ?_ _));refine blk_put (cs:=#[.slice Ao43 t104.length co43,.slice none 0 0,.slice none 0 0,.slice none 0 0]) ?_ 1 _ rfl;(with_reducible repeat (first | refine blk_drewN ?_ _ | refine blk_drew ?_ | refine blk_alloc ?_ _));refine blk_put (cs:=#[.slice none 0 0,.slice none 0 0,.slice none 0 0,.slice none 0 0]) ?_ 0 _ rfl;(with_reducible repeat (first | refine blk_drewN ?_ _ | refine blk_drew ?_ | refine blk_alloc ?_ _));exact BK117.out⟩
  have n7_:Aside0 (Below w.heap.size w ((((w42.setCell ⟨gb117,0,none⟩ (.slice Ao43 t104.length co43)).setCell ⟨gb117,1,none⟩ (.slice Ao47 t107.length co47)).setCell ⟨gb117,2,none⟩ (.slice Ao48 t110.length co48)).setCell ⟨gb117,3,none⟩ (.slice Ao49 t113.length co49))):=⟨aq19⟩
  (try clear HO106)
  (try clear HO109)
  (try clear HO112)
  (try clear HO115)
  (try clear BK101)
  (try clear BK102)
  (try clear BK117)
  (try clear HB)
  generalize ((((w42.setCell ⟨gb117,0,none⟩ (.slice Ao43 t104.length co43)).setCell ⟨gb117,1,none⟩ (.slice Ao47 t107.length co47)).setCell ⟨gb117,2,none⟩ (.slice Ao48 t110.length co48)).setCell ⟨gb117,3,none⟩ (.slice Ao49 t113.length co49)) = w50 at n0_ n1_ n2_ n3_ n4_ n5_ n6_ n7_ ⊢
  have HO106:=n0_
  have HO109:=n1_
  have HO112:=n2_
  have HO115:=n3_
  have BK101:=n4_
  have BK102:=n5_
  have BK117:=n6_
  have HB:=n7_
  clear n0_ n1_ n2_ n3_ n4_ n5_ n6_ n7_
  replace HO106:=am (Kd.R_drew HO106.out)
  replace HO109:=am (Kd.R_drew HO109.out)
  replace HO112:=am (Kd.S_drew HO112.out)
  replace HO115:=am (Kd.R_drew HO115.out)
  replace BK101:=am (blk_drew BK101.out)
  replace BK102:=am (blk_drew BK102.out)
  replace BK117:=am (blk_drew BK117.out)
  replace HB:=am (below_drew1 HB.out)
  refine start_ (n:=8) (S:=fun w'=>w'.cell? ⟨gb117,0,none⟩ = some (.slice Ao43 t104.length co43) ∧ w'.cell? ⟨gb117,1,none⟩ = some (.slice Ao47 t107.length co47) ∧ w'.cell? ⟨gb117,2,none⟩ = some (.slice Ao48 t110.length co48) ∧ w'.cell? ⟨gb117,3,none⟩ = some (.slice Ao49 t113.length co49) ∧ w'.cell? ⟨gb101,0,none⟩ = some (.string a0_0) ∧ w'.cell? ⟨gb101,1,none⟩ = some (.string a0_1) ∧ w'.cell? ⟨gb101,2,none⟩ = some (.int .i64 a0_2)) (ds:=[]) (bm 8 0) k_r rfl rfl ⟨bk BK117 0,bk BK117 1,bk BK117 2,bk BK117 3,bk BK101 0,bk BK101 1,bk BK101 2⟩ (fun hHeld=>?_);refine with_tabW impl_solution.tab6 impl_solution.bits6 (fun HT_ HW_=>?_)
  generalize w50.drew = w51 at HO106 HO109 HO112 HO115 BK101 BK102 BK117 HB hHeld ⊢
  refine py (i:=1) (N:=some 22) (bm 8 2) ?_
  refine py (i:=4) (N:=some 25) (bm 8 18) ?_
  refine tk7 (i:=0) (N:=some 21) (bm 8 19) hHeld ?_
  refine tk7 (i:=2) (N:=some 23) (bm 8 23) hHeld ?_
  refine tk7 (i:=5) (N:=some 26) (bm 8 55) hHeld ?_
  refine one_ (i:=3) (N:=some 24) (bm 8 63) rfl rfl (one_of HT_.out k_r) d_c (fun K hK=>?_)
  refine goes_ Tryz.func50 k_r rfl #[.agg #[.slice Ao43 t104.length co43,.slice Ao47 t107.length co47,.slice Ao48 t110.length co48,.slice Ao49 t113.length co49],.string a0_1] (by rfl) rfl rfl aq4 ?_
  with_reducible refine (impl_reach_cells.calls k _ _ t104 _ _ t107 _ _ t110 _ _ t113 a0_1 t118 _ ?side1 ?side2 ?side3 ?side4 ?side5 ?side6 ?side7 ?side8 A6.out).mono ?_
  (case side1=>exact aq35)
  (case side2=>exact aq110)
  (case side3=>exact aq97)
  (case side4=>exact (Kd.R_reads' HO109.out).2.1)
  (case side5=>exact aq94)
  (case side6=>exact (Kd.S_reads' HO112.out).2.1)
  (case side7=>exact aq96)
  (case side8=>exact (Kd.R_reads' HO115.out).2.1)
  rintro e w52 ⟨v119,rfl,ho0,hb⟩
  refine ⟨_,rfl,?_⟩
  replace HO106:=am (Kd.R_below aq21 hb)
  replace HO112:=am (Kd.S_elder' aq45 (Kd.R_base ho0) hb)
  replace HO115:=am (Kd.R_below aq46 hb)
  have HO120:=am (Kd.R_lower (Kd.R_new' ho0 (Kd.R_lt aq47)) (below_size aq19))
  replace HO109:=am (Kd.R_elder' aq47 (Kd.R_base ho0) hb)
  replace BK101:=am (bb BK101 hb)
  replace BK102:=am (bb BK102 hb)
  replace BK117:=am (bb BK117 hb)
  replace HB:=am (below_step aq19 hb)
  (try clear hb)
  (try clear ho0)
  obtain ⟨Ao53,co53,eo53⟩:=Kd.R_slice HO120.out
  (first | subst eo53 | (injection eo53 with f1_ f2_ f3_;have f4_:=f1_.symm;have f5_:=f3_.symm;clear f1_ f2_ f3_;subst f4_;subst f5_))
  refine hK.out _ _ ⟨bk BK117 0,bk BK117 1,bk BK117 2,bk BK117 3,bk BK101 0,bk BK101 1,bk BK101 2⟩ (fun hHeld=>?_)
  clear hK K
  refine nm (some 24) ?_
  refine one_ (i:=6) (N:=some 27) (bm 8 127) rfl rfl (one_of HT_.out k_r) d_c (fun K hK=>?_)
  refine goes_ Tryz.func52 k_r rfl #[.slice Ao53 t118.length co53,.int .i64 a0_2] (by rfl) rfl rfl aq4 ?_
  with_reducible refine (slices_Index_int_int.calls k _ _ t118 a0_2 t121 _ ?side1 ?side2 A7.out).mono ?_
  (case side1=>exact aq95)
  (case side2=>exact (Kd.R_reads' HO120.out).2.1)
  rintro e w' ⟨rfl,⟨nd,rfl⟩⟩
  refine ⟨_,rfl,?_⟩
  refine hK.out _ _ ⟨bk BK117 0,bk BK117 1,bk BK117 2,bk BK117 3,bk BK101 0,bk BK101 1,bk BK101 2⟩ (fun hHeld=>?_)
  clear hK K
  refine nm (some 27) ?_
  refine py (i:=7) (N:=some 7) (bm 8 255) ?_
  refine done_ (done_of HT_.out k_r) ?_
  try go_wp2
  (try (rw [drewN_self w52];generalize hq_:World.drewN w52 _ = w52;have n0_:Aside0 (Kd.R Kd.string 9 w52 w.heap.size (fun k_=>some k_ ≠ (.slice Ao49 t113.length co49:Value).ownBlock) (.slice Ao43 t104.length co43) t104):=⟨by rw [← hq_];exact aq21⟩;have n1_:Aside0 (Kd.R (Kd.int .i64) 3 w52 w.heap.size (fun k_=>some k_ ≠ (.slice Ao53 t118.length co53:Value).ownBlock) (.slice Ao47 t107.length co47) t107):=⟨aq99⟩;have n2_:Aside0 (Kd.S (Kd.slice 3 (Kd.int .i64)) 40 w52 w.heap.size (fun k_=>some k_ ≠ (.slice Ao47 t107.length co47:Value).ownBlock ∧ some k_ ≠ (.slice Ao53 t118.length co53:Value).ownBlock) (.slice Ao48 t110.length co48) t110):=⟨by rw [← hq_];exact aq45⟩;have n3_:Aside0 (Kd.R Kd.string 9 w52 w.heap.size (fun k_=>some k_ ≠ (.slice Ao43 t104.length co43:Value).ownBlock) (.slice Ao49 t113.length co49) t113):=⟨by rw [← hq_];exact aq46⟩;have n4_:Aside0 (Kd.R (Kd.int .i64) 3 w52 w.heap.size (fun k_=>some k_ ≠ (.slice Ao47 t107.length co47:Value).ownBlock) (.slice Ao53 t118.length co53) t118):=⟨aq98⟩;have n5_:Aside0 (w52.heap[gb101]? = some (.cells #[.string a0_0,.string a0_1,.int .i64 a0_2] 30 (0,0))):=⟨by rw [← hq_];exact aq1⟩;have n6_:Aside0 (w52.heap[gb102]? = some (.cells #[.slice none 0 0,.slice none 0 0,.slice none 0 0,.slice none 0 0] 59 (0,0))):=⟨by rw [← hq_];exact aq9⟩;have n7_:Aside0 (w52.heap[gb117]? = some (.cells #[.slice Ao43 t104.length co43,.slice Ao47 t107.length co47,.slice Ao48 t110.length co48,.slice Ao49 t113.length co49] 59 (0,0))):=⟨by rw [← hq_];exact aq59⟩;have n8_:Aside0 (Below w.heap.size w w52):=⟨by rw [← hq_];exact aq19⟩;clear HO106 HO109 HO112 HO115 HO120 BK101 BK102 BK117 HB hq_;have HO106:=n0_;have HO109:=n1_;have HO112:=n2_;have HO115:=n3_;have HO120:=n4_;have BK101:=n5_;have BK102:=n6_;have BK117:=n7_;have HB:=n8_;clear n0_ n1_ n2_ n3_ n4_ n5_ n6_ n7_ n8_))
  replace HO106:=am (Kd.R_drew HO106.out)
  replace HO109:=am (Kd.R_drew HO109.out)
  replace HO112:=am (Kd.S_drew HO112.out)
  replace HO115:=am (Kd.R_drew HO115.out)
  replace HO120:=am (Kd.R_drew HO120.out)
  replace BK101:=am (blk_drew BK101.out)
  replace BK102:=am (blk_drew BK102.out)
  replace BK117:=am (blk_drew BK117.out)
  replace HB:=am (below_drew1 HB.out)
  refine start_ (n:=15) (S:=fun w'=>w'.cell? ⟨gb117,0,none⟩ = some (.slice Ao43 t104.length co43) ∧ w'.cell? ⟨gb117,1,none⟩ = some (.slice Ao47 t107.length co47) ∧ w'.cell? ⟨gb117,2,none⟩ = some (.slice Ao48 t110.length co48) ∧ w'.cell? ⟨gb117,3,none⟩ = some (.slice Ao49 t113.length co49)) (ds:=[]) (bm 15 0) k_r rfl rfl ⟨bk BK117 0,bk BK117 1,bk BK117 2,bk BK117 3⟩ (fun hHeld=>?_);refine with_tabW impl_solution.tab7 impl_solution.bits7 (fun HT_ HW_=>?_)
  generalize w52.drew = w54 at HO106 HO109 HO112 HO115 HO120 BK101 BK102 BK117 HB hHeld ⊢
  refine py (i:=1) (N:=some 29) (bm 15 2) ?_
  refine py (i:=2) (N:=some 30) (bm 15 6) ?_
  refine py (i:=3) (N:=some 31) (bm 15 14) ?_
  refine py (i:=4) (N:=some 32) (bm 15 30) ?_
  refine pu (i:=5) (N:=some 33) (bm 15 62) ?_
  refine pu (i:=6) (N:=some 34) (bm 15 126) ?_
  refine pu (i:=7) (N:=some 35) (bm 15 254) ?_
  refine pu (i:=8) (N:=some 36) (bm 15 510) ?_
  refine pu (i:=9) (N:=some 37) (bm 15 1022) ?_
  refine pu (i:=10) (N:=some 38) (bm 15 2046) ?_
  refine py (i:=11) (N:=some 39) (bm 15 4094) ?_
  refine tk4 (i:=0) (N:=some 28) (bm 15 4095) hHeld ?_
  refine one_ (i:=12) (N:=none) (bm 15 8191) rfl rfl (one_of HT_.out k_r) d_c (fun K hK=>?_)
  have hs55:w54.cell? ⟨gb102,0,none⟩ = some (.slice none 0 0):=(blk_cell BK102.out 0).trans rfl
  have hfs55:=blk_frozen BK102.out 0
  have hns55_0:=NB101_102.out
  have hns55_2:=NB117_102.out
  have hms55_0:=NB102_101.out
  have hms55_2:=NB102_117.out
  have hs56:w54.cell? ⟨gb102,1,none⟩ = some (.slice none 0 0):=(blk_cell BK102.out 1).trans rfl
  have hfs56:=blk_frozen BK102.out 1
  have hns56_0:=NB101_102.out
  have hns56_2:=NB117_102.out
  have hms56_0:=NB102_101.out
  have hms56_2:=NB102_117.out
  have hs57:w54.cell? ⟨gb102,2,none⟩ = some (.slice none 0 0):=(blk_cell BK102.out 2).trans rfl
  have hfs57:=blk_frozen BK102.out 2
  have hns57_0:=NB101_102.out
  have hns57_2:=NB117_102.out
  have hms57_0:=NB102_101.out
  have hms57_2:=NB102_117.out
  have hs58:w54.cell? ⟨gb102,3,none⟩ = some (.slice none 0 0):=(blk_cell BK102.out 3).trans rfl
  have hfs58:=blk_frozen BK102.out 3
  have hns58_0:=NB101_102.out
  have hns58_2:=NB117_102.out
  have hms58_0:=NB102_101.out
  have hms58_2:=NB102_117.out
  refine skip_ (w1:=?_) (by rfl) rfl ?_ ?_
  rotate_left
  ·go_simp
   rfl
  refine hK.out _ _ ⟨((cell_far (p:=⟨gb102,_,none⟩) NB117_102.out _).trans (((cell_far (p:=⟨gb102,_,none⟩) NB117_102.out _).trans (((cell_far (p:=⟨gb102,_,none⟩) NB117_102.out _).trans (((cell_far (p:=⟨gb102,_,none⟩) NB117_102.out _).trans (hHeld.1)))))))),((cell_far (p:=⟨gb102,_,none⟩) NB117_102.out _).trans (((cell_far (p:=⟨gb102,_,none⟩) NB117_102.out _).trans (((cell_far (p:=⟨gb102,_,none⟩) NB117_102.out _).trans (((cell_far (p:=⟨gb102,_,none⟩) NB117_102.out _).trans (hHeld.2.1)))))))),((cell_far (p:=⟨gb102,_,none⟩) NB117_102.out _).trans (((cell_far (p:=⟨gb102,_,none⟩) NB117_102.out _).trans (((cell_far (p:=⟨gb102,_,none⟩) NB117_102.out _).trans (((cell_far (p:=⟨gb102,_,none⟩) NB117_102.out _).trans (hHeld.2.2.1)))))))),((cell_far (p:=⟨gb102,_,none⟩) NB117_102.out _).trans (((cell_far (p:=⟨gb102,_,none⟩) NB117_102.out _).trans (((cell_far (p:=⟨gb102,_,none⟩) NB117_102.out _).trans (((cell_far (p:=⟨gb102,_,none⟩) NB117_102.out _).trans (hHeld.2.2.2))))))))⟩ (fun hHeld=>?_)
  clear hK K
  refine py (i:=13) (N:=some 3) (bm 15 16383) ?_
  refine py (i:=14) (N:=some 4) (bm 15 32767) ?_
  refine done_ (done_of HT_.out k_r) ?_
  try go_wp2
  refine bodyPost_ret (results_ctt rfl _ _ gb102 59 #[.slice Ao43 t104.length co43,.slice Ao47 t107.length co47,.slice Ao48 t110.length co48,.slice Ao49 t113.length co49] (0,0) _ rfl (by (with_reducible repeat (first | refine blk_drewN ?_ _ | refine blk_drew ?_ | refine blk_alloc ?_ _));refine blk_put (cs:=#[.slice Ao43 t104.length co43,.slice Ao47 t107.length co47,.slice Ao48 t110.length co48,.slice none 0 0]) ?_ 3 _ rfl;(with_reducible repeat (first | refine blk_drewN ?_ _ | refine blk_drew ?_ | refine blk_alloc ?_ _));refine blk_put (cs:=#[.slice Ao43 t104.length co43,.slice Ao47 t107.length co47,.slice none 0 0,.slice none 0 0]) ?_ 2 _ rfl;(with_reducible repeat (first | refine blk_drewN ?_ _ | refine blk_drew ?_ | refine blk_alloc ?_ _));refine blk_put (cs:=#[.slice Ao43 t104.length co43,.slice none 0 0,.slice none 0 0,.slice none 0 0]) ?_ 1 _ rfl;(with_reducible repeat (first | refine blk_drewN ?_ _ | refine blk_drew ?_ | refine blk_alloc ?_ _));refine blk_put (cs:=#[.slice none 0 0,.slice none 0 0,.slice none 0 0,.slice none 0 0]) ?_ 0 _ rfl;(with_reducible repeat (first | refine blk_drewN ?_ _ | refine blk_drew ?_ | refine blk_alloc ?_ _));exact BK102.out) Tryz.underlying59 rfl k_r) rfl ?_
  exact ⟨_,_,_,_,aq8,by (with_reducible repeat (first | apply Kd.R_alloc | apply Kd.R_drewN | apply Kd.R_drew));exact Kd.R_mono (Kd.R_far (p:=⟨gb102,3,none⟩) (Kd.R_far (p:=⟨gb102,2,none⟩) (Kd.R_far (p:=⟨gb102,1,none⟩) (Kd.R_far (p:=⟨gb102,0,none⟩) (Kd.R_types HO106.out BK102.out d_c) (fun _ hk=>hk.2) (.slice Ao43 t104.length co43)) (fun _ hk=>hk.2) (.slice Ao47 t107.length co47)) (fun _ hk=>hk.2) (.slice Ao48 t110.length co48)) (fun _ hk=>hk.2) (.slice Ao49 t113.length co49)) (fun _ hk=>hk.1),by (with_reducible repeat (first | apply Kd.R_alloc | apply Kd.R_drewN | apply Kd.R_drew));exact Kd.R_mono (Kd.R_far (p:=⟨gb102,3,none⟩) (Kd.R_far (p:=⟨gb102,2,none⟩) (Kd.R_far (p:=⟨gb102,1,none⟩) (Kd.R_far (p:=⟨gb102,0,none⟩) (Kd.R_types HO109.out BK102.out d_c) (fun _ hk=>hk.2) (.slice Ao43 t104.length co43)) (fun _ hk=>hk.2) (.slice Ao47 t107.length co47)) (fun _ hk=>hk.2) (.slice Ao48 t110.length co48)) (fun _ hk=>hk.2) (.slice Ao49 t113.length co49)) (fun _ hk=>trivial),by (with_reducible repeat (first | apply Kd.S_alloc | apply Kd.S_drewN | apply Kd.S_drew));exact Kd.S_mono (Kd.S_far (p:=⟨gb102,3,none⟩) (Kd.S_far (p:=⟨gb102,2,none⟩) (Kd.S_far (p:=⟨gb102,1,none⟩) (Kd.S_far (p:=⟨gb102,0,none⟩) (Kd.S_types HO112.out BK102.out d_c) (fun _ hk=>hk.2) (.slice Ao43 t104.length co43)) (fun _ hk=>hk.2) (.slice Ao47 t107.length co47)) (fun _ hk=>hk.2) (.slice Ao48 t110.length co48)) (fun _ hk=>hk.2) (.slice Ao49 t113.length co49)) (fun _ hk=>hk.1.1),by (with_reducible repeat (first | apply Kd.R_alloc | apply Kd.R_drewN | apply Kd.R_drew));exact Kd.R_mono (Kd.R_far (p:=⟨gb102,3,none⟩) (Kd.R_far (p:=⟨gb102,2,none⟩) (Kd.R_far (p:=⟨gb102,1,none⟩) (Kd.R_far (p:=⟨gb102,0,none⟩) (Kd.R_types HO115.out BK102.out d_c) (fun _ hk=>hk.2) (.slice Ao43 t104.length co43)) (fun _ hk=>hk.2) (.slice Ao47 t107.length co47)) (fun _ hk=>hk.2) (.slice Ao48 t110.length co48)) (fun _ hk=>hk.2) (.slice Ao49 t113.length co49)) (fun _ hk=>hk.1),aq19⟩
 rw [if_pos c8] at H
 have c8b0:=decide_eq_true c8
 clear c8
 replace H:=gd H
 obtain ⟨c9,H⟩:=H
 have c9b0:=decide_eq_true c9
 clear c9
 replace H:=gd H
 obtain ⟨c10,H⟩:=H
 have c10b0:=decide_eq_true c10
 clear c10
 simp only [Option.some.injEq,Prod.mk.injEq] at H
 obtain ⟨rfl,rfl,rfl,rfl,rfl,rfl⟩:=H
 go_enter Tryz.func55,Tryz.ntmps55
 try go_wp2_with (first | (refine bx 1 #[.string a0_0,.string a0_1,.int .i64 a0_2] 30 ?_;intro gb101 hg w11 hbox hb;have BK101:=am (hbox);have GW101:=am ((by rw [hg];exact (below_size aq2):w.heap.size ≤ gb101));have GE101:=GW101;replace HB:=am (below_step aq2 hb);clear hb hbox hg) | (refine bx 2 #[.slice none 0 0,.slice none 0 0,.slice none 0 0,.slice none 0 0] 59 ?_;intro gb102 hg w12 hbox hb;have BK102:=am (hbox);have GW102:=am ((by rw [hg];exact (below_size aq0):w.heap.size ≤ gb102));have GE102:=GW102;replace HB:=am (below_step aq0 hb);have NB101_102:=am ((by rw [hg];exact Nat.ne_of_lt (blk_lt (g:=gb101) (o:=.cells #[.string a0_0,.string a0_1,.int .i64 a0_2] 30 (0,0)) aq1):gb101 ≠ gb102));have NB102_101:=am ((by rw [hg];exact Nat.ne_of_gt (blk_lt (g:=gb101) (o:=.cells #[.string a0_0,.string a0_1,.int .i64 a0_2] 30 (0,0)) aq1):gb102 ≠ gb101));replace BK101:=am (bb BK101 hb);clear hb hbox hg;have hnb13:=NB101_102.out;have hnc13:=NB102_101.out;obtain ⟨hcz14_0,hcz14_1,hcz14_2,hfz14_0,hfz14_1,hfz14_2⟩:=blk3_ BK101.out) | ((with_reducible refine gate_callee (f:=94) rfl ?_);refine goesL_ (some 9) rfl rfl Tryz.func94 k_r rfl #[.agg #[.string a0_0,.string a0_1,.int .i64 a0_2]] rfl aq4 ?_;(with_reducible refine (impl_IsPuzzle.calls k a0_0 a0_1 a0_2 true _ A2.out).mono ?_);rintro e w15 ⟨rfl,hb⟩;refine ⟨_,rfl,?_⟩;replace BK101:=am (bb BK101 hb);replace BK102:=am (bb BK102 hb);replace HB:=am (below_step aq3 hb);(try clear hb);obtain ⟨hcz16_0,hcz16_1,hcz16_2,hfz16_0,hfz16_1,hfz16_2⟩:=blk3_ BK101.out) | ((with_reducible refine gate_callee (f:=74) rfl ?_);refine goesL_ (some 15) rfl rfl Tryz.func74 k_r rfl #[.string a0_0] rfl aq4 ?_;(with_reducible refine (impl_reachOf.calls a0_0 t104 t107 t110 t113 true _ A4.out).mono ?_);rintro e w17 ⟨v105,v108,v111,v114,rfl,ho0,ho1,ho2,ho3,hb⟩;refine ⟨_,rfl,?_⟩;have HO106:=am (Kd.R_lower ho0 (below_size aq3));have HO109:=am (Kd.R_lower ho1 (below_size aq3));have HO112:=am (Kd.S_lower ho2 (below_size aq3));have HO115:=am (Kd.R_lower ho3 (below_size aq3));replace BK101:=am (bb BK101 hb);replace BK102:=am (bb BK102 hb);replace HB:=am (below_step aq3 hb);(try clear hb);(try clear ho0);(try clear ho1);(try clear ho2);(try clear ho3)) | (refine bx 5 #[.slice none 0 0,.slice none 0 0,.slice none 0 0,.slice none 0 0] 59 ?_;intro gb117 hg w18 hbox hb;replace HO106:=am (Kd.R_below aq21 hb);replace HO109:=am (Kd.R_below aq47 hb);replace HO112:=am (Kd.S_below aq45 hb);replace HO115:=am (Kd.R_below aq46 hb);have BK117:=am (hbox);have GW117:=am ((by rw [hg];exact (below_size aq3):w.heap.size ≤ gb117));have GE117:=GW117;replace HB:=am (below_step aq3 hb);have NB101_117:=am ((by rw [hg];exact Nat.ne_of_lt (blk_lt (g:=gb101) (o:=.cells #[.string a0_0,.string a0_1,.int .i64 a0_2] 30 (0,0)) aq1):gb101 ≠ gb117));have NB117_101:=am ((by rw [hg];exact Nat.ne_of_gt (blk_lt (g:=gb101) (o:=.cells #[.string a0_0,.string a0_1,.int .i64 a0_2] 30 (0,0)) aq1):gb117 ≠ gb101));replace BK101:=am (bb BK101 hb);have NB102_117:=am ((by rw [hg];exact Nat.ne_of_lt (blk_lt (g:=gb102) (o:=.cells #[.slice none 0 0,.slice none 0 0,.slice none 0 0,.slice none 0 0] 59 (0,0)) aq9):gb102 ≠ gb117));have NB117_102:=am ((by rw [hg];exact Nat.ne_of_gt (blk_lt (g:=gb102) (o:=.cells #[.slice none 0 0,.slice none 0 0,.slice none 0 0,.slice none 0 0] 59 (0,0)) aq9):gb117 ≠ gb102));replace BK102:=am (bb BK102 hb);clear hb hbox hg;obtain ⟨Ao19,co19,eo19⟩:=Kd.R_slice HO106.out;subst eo19;have hnb20:=NB117_101.out;have hnc20:=NB101_117.out;have hnb21:=NB117_102.out;have hnc21:=NB102_117.out;obtain ⟨hcz22_0,hcz22_1,hcz22_2,hcz22_3,hfz22_0,hfz22_1,hfz22_2,hfz22_3⟩:=blk4_ BK117.out;obtain ⟨Ao23,co23,eo23⟩:=Kd.R_slice HO109.out;subst eo23;obtain ⟨Ao24,co24,eo24⟩:=Kd.S_slice HO112.out;subst eo24;obtain ⟨Ao25,co25,eo25⟩:=Kd.R_slice HO115.out;subst eo25))
 have n0_:Aside0 (Kd.R Kd.string 9 ((((w18.setCell ⟨gb117,0,none⟩ (.slice Ao19 t104.length co19)).setCell ⟨gb117,1,none⟩ (.slice Ao23 t107.length co23)).setCell ⟨gb117,2,none⟩ (.slice Ao24 t110.length co24)).setCell ⟨gb117,3,none⟩ (.slice Ao25 t113.length co25)) w.heap.size (fun k_=>some k_ ≠ (.slice Ao25 t113.length co25:Value).ownBlock) (.slice Ao19 t104.length co19) t104):=⟨by (with_reducible repeat (first | apply Kd.R_alloc | apply Kd.R_drewN | apply Kd.R_drew));exact Kd.R_mono (Kd.R_far (p:=⟨gb117,3,none⟩) (Kd.R_far (p:=⟨gb117,2,none⟩) (Kd.R_far (p:=⟨gb117,1,none⟩) (Kd.R_far (p:=⟨gb117,0,none⟩) (Kd.R_types HO106.out BK117.out d_c) (fun _ hk=>hk.2) (.slice Ao19 t104.length co19)) (fun _ hk=>hk.2) (.slice Ao23 t107.length co23)) (fun _ hk=>hk.2) (.slice Ao24 t110.length co24)) (fun _ hk=>hk.2) (.slice Ao25 t113.length co25)) (fun _ hk=>hk.1)⟩
 have n1_:Aside0 (Kd.R (Kd.int .i64) 3 ((((w18.setCell ⟨gb117,0,none⟩ (.slice Ao19 t104.length co19)).setCell ⟨gb117,1,none⟩ (.slice Ao23 t107.length co23)).setCell ⟨gb117,2,none⟩ (.slice Ao24 t110.length co24)).setCell ⟨gb117,3,none⟩ (.slice Ao25 t113.length co25)) w.heap.size (fun _=>True) (.slice Ao23 t107.length co23) t107):=⟨by (with_reducible repeat (first | apply Kd.R_alloc | apply Kd.R_drewN | apply Kd.R_drew));exact Kd.R_mono (Kd.R_far (p:=⟨gb117,3,none⟩) (Kd.R_far (p:=⟨gb117,2,none⟩) (Kd.R_far (p:=⟨gb117,1,none⟩) (Kd.R_far (p:=⟨gb117,0,none⟩) (Kd.R_types HO109.out BK117.out d_c) (fun _ hk=>hk.2) (.slice Ao19 t104.length co19)) (fun _ hk=>hk.2) (.slice Ao23 t107.length co23)) (fun _ hk=>hk.2) (.slice Ao24 t110.length co24)) (fun _ hk=>hk.2) (.slice Ao25 t113.length co25)) (fun _ hk=>trivial)⟩
 have n2_:Aside0 (Kd.S (Kd.slice 3 (Kd.int .i64)) 40 ((((w18.setCell ⟨gb117,0,none⟩ (.slice Ao19 t104.length co19)).setCell ⟨gb117,1,none⟩ (.slice Ao23 t107.length co23)).setCell ⟨gb117,2,none⟩ (.slice Ao24 t110.length co24)).setCell ⟨gb117,3,none⟩ (.slice Ao25 t113.length co25)) w.heap.size (fun k_=>some k_ ≠ (.slice Ao23 t107.length co23:Value).ownBlock) (.slice Ao24 t110.length co24) t110):=⟨by (with_reducible repeat (first | apply Kd.S_alloc | apply Kd.S_drewN | apply Kd.S_drew));exact Kd.S_mono (Kd.S_far (p:=⟨gb117,3,none⟩) (Kd.S_far (p:=⟨gb117,2,none⟩) (Kd.S_far (p:=⟨gb117,1,none⟩) (Kd.S_far (p:=⟨gb117,0,none⟩) (Kd.S_types HO112.out BK117.out d_c) (fun _ hk=>hk.2) (.slice Ao19 t104.length co19)) (fun _ hk=>hk.2) (.slice Ao23 t107.length co23)) (fun _ hk=>hk.2) (.slice Ao24 t110.length co24)) (fun _ hk=>hk.2) (.slice Ao25 t113.length co25)) (fun _ hk=>hk.1)⟩
 have n3_:Aside0 (Kd.R Kd.string 9 ((((w18.setCell ⟨gb117,0,none⟩ (.slice Ao19 t104.length co19)).setCell ⟨gb117,1,none⟩ (.slice Ao23 t107.length co23)).setCell ⟨gb117,2,none⟩ (.slice Ao24 t110.length co24)).setCell ⟨gb117,3,none⟩ (.slice Ao25 t113.length co25)) w.heap.size (fun k_=>some k_ ≠ (.slice Ao19 t104.length co19:Value).ownBlock) (.slice Ao25 t113.length co25) t113):=⟨by (with_reducible repeat (first | apply Kd.R_alloc | apply Kd.R_drewN | apply Kd.R_drew));exact Kd.R_mono (Kd.R_far (p:=⟨gb117,3,none⟩) (Kd.R_far (p:=⟨gb117,2,none⟩) (Kd.R_far (p:=⟨gb117,1,none⟩) (Kd.R_far (p:=⟨gb117,0,none⟩) (Kd.R_types HO115.out BK117.out d_c) (fun _ hk=>hk.2) (.slice Ao19 t104.length co19)) (fun _ hk=>hk.2) (.slice Ao23 t107.length co23)) (fun _ hk=>hk.2) (.slice Ao24 t110.length co24)) (fun _ hk=>hk.2) (.slice Ao25 t113.length co25)) (fun _ hk=>hk.1)⟩
 have n4_:Aside0 (((((w18.setCell ⟨gb117,0,none⟩ (.slice Ao19 t104.length co19)).setCell ⟨gb117,1,none⟩ (.slice Ao23 t107.length co23)).setCell ⟨gb117,2,none⟩ (.slice Ao24 t110.length co24)).setCell ⟨gb117,3,none⟩ (.slice Ao25 t113.length co25)).heap[gb101]? = some (.cells #[.string a0_0,.string a0_1,.int .i64 a0_2] 30 (0,0))):=⟨aq43⟩
 have n5_:Aside0 (((((w18.setCell ⟨gb117,0,none⟩ (.slice Ao19 t104.length co19)).setCell ⟨gb117,1,none⟩ (.slice Ao23 t107.length co23)).setCell ⟨gb117,2,none⟩ (.slice Ao24 t110.length co24)).setCell ⟨gb117,3,none⟩ (.slice Ao25 t113.length co25)).heap[gb102]? = some (.cells #[.slice none 0 0,.slice none 0 0,.slice none 0 0,.slice none 0 0] 59 (0,0))):=⟨aq42⟩
 have n6_:Aside0 (((((w18.setCell ⟨gb117,0,none⟩ (.slice Ao19 t104.length co19)).setCell ⟨gb117,1,none⟩ (.slice Ao23 t107.length co23)).setCell ⟨gb117,2,none⟩ (.slice Ao24 t110.length co24)).setCell ⟨gb117,3,none⟩ (.slice Ao25 t113.length co25)).heap[gb117]? = some (.cells #[.slice Ao19 t104.length co19,.slice Ao23 t107.length co23,.slice Ao24 t110.length co24,.slice Ao25 t113.length co25] 59 (0,0))):=⟨by (with_reducible repeat (first | refine blk_drewN ?_ _ | refine blk_drew ?_ | refine blk_alloc ?_ _));refine blk_put (cs:=#[.slice Ao19 t104.length co19,.slice Ao23 t107.length co23,.slice Ao24 t110.length co24,.slice none 0 0]) ?_ 3 _ rfl;(with_reducible repeat (first | refine blk_drewN ?_ _ | refine blk_drew ?_ | refine blk_alloc ?_ _));refine blk_put (cs:=#[.slice Ao19 t104.length co19,.slice Ao23 t107.length co23,.slice none 0 0,.slice none 0 0]) ?_ 2 _ rfl;(with_reducible repeat (first | refine blk_drewN ?_ _ | refine blk_drew ?_ | refine blk_alloc ?_ _));refine blk_put (cs:=#[.slice Ao19 t104.length co19,.slice none 0 0,.slice none 0 0,.slice none 0 0]) ?_ 1 _ rfl;(with_reducible repeat (first | refine blk_drewN ?_ _ | refine blk_drew ?_ | refine blk_alloc ?_ _));refine blk_put (cs:=#[.slice none 0 0,.slice none 0 0,.slice none 0 0,.slice none 0 0]) ?_ 0 _ rfl;(with_reducible repeat (first | refine blk_drewN ?_ _ | refine blk_drew ?_ | refine blk_alloc ?_ _));exact BK117.out⟩
 have n7_:Aside0 (Below w.heap.size w ((((w18.setCell ⟨gb117,0,none⟩ (.slice Ao19 t104.length co19)).setCell ⟨gb117,1,none⟩ (.slice Ao23 t107.length co23)).setCell ⟨gb117,2,none⟩ (.slice Ao24 t110.length co24)).setCell ⟨gb117,3,none⟩ (.slice Ao25 t113.length co25))):=⟨aq19⟩
 (try clear HO106)
 (try clear HO109)
 (try clear HO112)
 (try clear HO115)
 (try clear BK101)
 (try clear BK102)
 (try clear BK117)
 (try clear HB)
 generalize ((((w18.setCell ⟨gb117,0,none⟩ (.slice Ao19 t104.length co19)).setCell ⟨gb117,1,none⟩ (.slice Ao23 t107.length co23)).setCell ⟨gb117,2,none⟩ (.slice Ao24 t110.length co24)).setCell ⟨gb117,3,none⟩ (.slice Ao25 t113.length co25)) = w26 at n0_ n1_ n2_ n3_ n4_ n5_ n6_ n7_ ⊢
 have HO106:=n0_
 have HO109:=n1_
 have HO112:=n2_
 have HO115:=n3_
 have BK101:=n4_
 have BK102:=n5_
 have BK117:=n6_
 have HB:=n7_
 clear n0_ n1_ n2_ n3_ n4_ n5_ n6_ n7_
 replace HO106:=am (Kd.R_drew HO106.out)
 replace HO109:=am (Kd.R_drew HO109.out)
 replace HO112:=am (Kd.S_drew HO112.out)
 replace HO115:=am (Kd.R_drew HO115.out)
 replace BK101:=am (blk_drew BK101.out)
 replace BK102:=am (blk_drew BK102.out)
 replace BK117:=am (blk_drew BK117.out)
 replace HB:=am (below_drew1 HB.out)
 refine start_ (n:=8) (S:=fun w'=>w'.cell? ⟨gb117,0,none⟩ = some (.slice Ao19 t104.length co19) ∧ w'.cell? ⟨gb117,1,none⟩ = some (.slice Ao23 t107.length co23) ∧ w'.cell? ⟨gb117,2,none⟩ = some (.slice Ao24 t110.length co24) ∧ w'.cell? ⟨gb117,3,none⟩ = some (.slice Ao25 t113.length co25) ∧ w'.cell? ⟨gb101,0,none⟩ = some (.string a0_0) ∧ w'.cell? ⟨gb101,1,none⟩ = some (.string a0_1) ∧ w'.cell? ⟨gb101,2,none⟩ = some (.int .i64 a0_2)) (ds:=[]) (bm 8 0) k_r rfl rfl ⟨bk BK117 0,bk BK117 1,bk BK117 2,bk BK117 3,bk BK101 0,bk BK101 1,bk BK101 2⟩ (fun hHeld=>?_);refine with_tabW impl_solution.tab6 impl_solution.bits6 (fun HT_ HW_=>?_)
 generalize w26.drew = w27 at HO106 HO109 HO112 HO115 BK101 BK102 BK117 HB hHeld ⊢
 refine py (i:=1) (N:=some 22) (bm 8 2) ?_
 refine py (i:=4) (N:=some 25) (bm 8 18) ?_
 refine tk7 (i:=0) (N:=some 21) (bm 8 19) hHeld ?_
 refine tk7 (i:=2) (N:=some 23) (bm 8 23) hHeld ?_
 refine tk7 (i:=5) (N:=some 26) (bm 8 55) hHeld ?_
 refine one_ (i:=3) (N:=some 24) (bm 8 63) rfl rfl (one_of HT_.out k_r) d_c (fun K hK=>?_)
 refine goes_ Tryz.func50 k_r rfl #[.agg #[.slice Ao19 t104.length co19,.slice Ao23 t107.length co23,.slice Ao24 t110.length co24,.slice Ao25 t113.length co25],.string a0_1] (by rfl) rfl rfl aq4 ?_
 with_reducible refine (impl_reach_cells.calls k _ _ t104 _ _ t107 _ _ t110 _ _ t113 a0_1 t118 _ ?side1 ?side2 ?side3 ?side4 ?side5 ?side6 ?side7 ?side8 A6.out).mono ?_
 (case side1=>exact aq35)
 (case side2=>exact aq110)
 (case side3=>exact aq97)
 (case side4=>exact (Kd.R_reads' HO109.out).2.1)
 (case side5=>exact aq94)
 (case side6=>exact (Kd.S_reads' HO112.out).2.1)
 (case side7=>exact aq96)
 (case side8=>exact (Kd.R_reads' HO115.out).2.1)
 rintro e w28 ⟨v119,rfl,ho0,hb⟩
 refine ⟨_,rfl,?_⟩
 replace HO106:=am (Kd.R_below aq21 hb)
 replace HO112:=am (Kd.S_elder' aq45 (Kd.R_base ho0) hb)
 replace HO115:=am (Kd.R_below aq46 hb)
 have HO120:=am (Kd.R_lower (Kd.R_new' ho0 (Kd.R_lt aq47)) (below_size aq19))
 replace HO109:=am (Kd.R_elder' aq47 (Kd.R_base ho0) hb)
 replace BK101:=am (bb BK101 hb)
 replace BK102:=am (bb BK102 hb)
 replace BK117:=am (bb BK117 hb)
 replace HB:=am (below_step aq19 hb)
 (try clear hb)
 (try clear ho0)
 obtain ⟨Ao29,co29,eo29⟩:=Kd.R_slice HO120.out
 (first | subst eo29 | (injection eo29 with f1_ f2_ f3_;have f4_:=f1_.symm;have f5_:=f3_.symm;clear f1_ f2_ f3_;subst f4_;subst f5_))
 refine hK.out _ _ ⟨bk BK117 0,bk BK117 1,bk BK117 2,bk BK117 3,bk BK101 0,bk BK101 1,bk BK101 2⟩ (fun hHeld=>?_)
 clear hK K
 refine nm (some 24) ?_
 refine one_ (i:=6) (N:=some 27) (bm 8 127) rfl rfl (one_of HT_.out k_r) d_c (fun K hK=>?_)
 refine goes_ Tryz.func52 k_r rfl #[.slice Ao29 t118.length co29,.int .i64 a0_2] (by rfl) rfl rfl aq4 ?_
 with_reducible refine (slices_Index_int_int.calls k _ _ t118 a0_2 t121 _ ?side1 ?side2 A7.out).mono ?_
 (case side1=>exact aq95)
 (case side2=>exact (Kd.R_reads' HO120.out).2.1)
 rintro e w' ⟨rfl,⟨nd,rfl⟩⟩
 refine ⟨_,rfl,?_⟩
 refine hK.out _ _ ⟨bk BK117 0,bk BK117 1,bk BK117 2,bk BK117 3,bk BK101 0,bk BK101 1,bk BK101 2⟩ (fun hHeld=>?_)
 clear hK K
 refine nm (some 27) ?_
 refine py (i:=7) (N:=some 7) (bm 8 255) ?_
 refine done_ (done_of HT_.out k_r) ?_
 try go_wp2
 (try (rw [drewN_self w28];generalize hq_:World.drewN w28 _ = w28;have n0_:Aside0 (Kd.R Kd.string 9 w28 w.heap.size (fun k_=>some k_ ≠ (.slice Ao25 t113.length co25:Value).ownBlock) (.slice Ao19 t104.length co19) t104):=⟨by rw [← hq_];exact aq21⟩;have n1_:Aside0 (Kd.R (Kd.int .i64) 3 w28 w.heap.size (fun k_=>some k_ ≠ (.slice Ao29 t118.length co29:Value).ownBlock) (.slice Ao23 t107.length co23) t107):=⟨aq99⟩;have n2_:Aside0 (Kd.S (Kd.slice 3 (Kd.int .i64)) 40 w28 w.heap.size (fun k_=>some k_ ≠ (.slice Ao23 t107.length co23:Value).ownBlock ∧ some k_ ≠ (.slice Ao29 t118.length co29:Value).ownBlock) (.slice Ao24 t110.length co24) t110):=⟨by rw [← hq_];exact aq45⟩;have n3_:Aside0 (Kd.R Kd.string 9 w28 w.heap.size (fun k_=>some k_ ≠ (.slice Ao19 t104.length co19:Value).ownBlock) (.slice Ao25 t113.length co25) t113):=⟨by rw [← hq_];exact aq46⟩;have n4_:Aside0 (Kd.R (Kd.int .i64) 3 w28 w.heap.size (fun k_=>some k_ ≠ (.slice Ao23 t107.length co23:Value).ownBlock) (.slice Ao29 t118.length co29) t118):=⟨aq98⟩;have n5_:Aside0 (w28.heap[gb101]? = some (.cells #[.string a0_0,.string a0_1,.int .i64 a0_2] 30 (0,0))):=⟨by rw [← hq_];exact aq1⟩;have n6_:Aside0 (w28.heap[gb102]? = some (.cells #[.slice none 0 0,.slice none 0 0,.slice none 0 0,.slice none 0 0] 59 (0,0))):=⟨by rw [← hq_];exact aq9⟩;have n7_:Aside0 (w28.heap[gb117]? = some (.cells #[.slice Ao19 t104.length co19,.slice Ao23 t107.length co23,.slice Ao24 t110.length co24,.slice Ao25 t113.length co25] 59 (0,0))):=⟨by rw [← hq_];exact aq59⟩;have n8_:Aside0 (Below w.heap.size w w28):=⟨by rw [← hq_];exact aq19⟩;clear HO106 HO109 HO112 HO115 HO120 BK101 BK102 BK117 HB hq_;have HO106:=n0_;have HO109:=n1_;have HO112:=n2_;have HO115:=n3_;have HO120:=n4_;have BK101:=n5_;have BK102:=n6_;have BK117:=n7_;have HB:=n8_;clear n0_ n1_ n2_ n3_ n4_ n5_ n6_ n7_ n8_))
 replace HO106:=am (Kd.R_drew HO106.out)
 replace HO109:=am (Kd.R_drew HO109.out)
 replace HO112:=am (Kd.S_drew HO112.out)
 replace HO115:=am (Kd.R_drew HO115.out)
 replace HO120:=am (Kd.R_drew HO120.out)
 replace BK101:=am (blk_drew BK101.out)
 replace BK102:=am (blk_drew BK102.out)
 replace BK117:=am (blk_drew BK117.out)
 replace HB:=am (below_drew1 HB.out)
 have p122:0 ≤ (t121:Int):=of_decide_eq_true aq5
 have q122:t121 < (t107.length:Int):=of_decide_eq_true aq5
 obtain ⟨ad122,e122,hx122_0⟩:=Kd.at_int (Kd.R_reads' HO109.out).2.2 t121 p122 q122
 cases e122
 replace p122:=eq_true p122
 replace q122:=eq_true q122
 refine start_ (n:=15) (S:=fun w'=>w'.cell? ⟨gb117,0,none⟩ = some (.slice Ao19 t104.length co19) ∧ w'.cell? ⟨gb117,1,none⟩ = some (.slice (some ad122) t107.length co23) ∧ w'.cell? ⟨gb117,2,none⟩ = some (.slice Ao24 t110.length co24) ∧ w'.cell? ⟨gb117,3,none⟩ = some (.slice Ao25 t113.length co25) ∧ w'.cell? (ad122.add (t121).toNat) = some (.int .i64 (rd t107 t121))) (ds:=[]) (bm 15 0) k_r rfl rfl ⟨bk BK117 0,bk BK117 1,bk BK117 2,bk BK117 3,hx122_0⟩ (fun hHeld=>?_);refine with_tabW impl_solution.tab7 impl_solution.bits7 (fun HT_ HW_=>?_)
 generalize w28.drew = w30 at HO106 HO109 HO112 HO115 HO120 BK101 BK102 BK117 HB hx122_0 hHeld ⊢
 refine py (i:=1) (N:=some 29) (bm 15 2) ?_
 refine py (i:=2) (N:=some 30) (bm 15 6) ?_
 refine py (i:=3) (N:=some 31) (bm 15 14) ?_
 refine py (i:=4) (N:=some 32) (bm 15 30) ?_
 refine py (i:=5) (N:=some 33) (bm 15 62) ?_
 refine py (i:=7) (N:=some 35) (bm 15 190) ?_
 refine tk5 (i:=0) (N:=some 28) (bm 15 191) hHeld ?_
 refine tk5 (i:=6) (N:=some 34) (bm 15 255) hHeld ?_
 refine py (i:=8) (N:=some 36) (bm 15 511) ?_
 refine tk5 (i:=9) (N:=some 37) (bm 15 1023) hHeld ?_
 refine py (i:=10) (N:=some 38) (bm 15 2047) ?_
 refine py (i:=11) (N:=some 39) (bm 15 4095) ?_
 refine one_ (i:=12) (N:=none) (bm 15 8191) rfl rfl (one_of HT_.out k_r) d_c (fun K hK=>?_)
 have hs31:w30.cell? ⟨gb102,0,none⟩ = some (.slice none 0 0):=(blk_cell BK102.out 0).trans rfl
 have hfs31:=blk_frozen BK102.out 0
 have hns31_0:=NB101_102.out
 have hns31_2:=NB117_102.out
 have hms31_0:=NB102_101.out
 have hms31_2:=NB102_117.out
 have hs32:w30.cell? ⟨gb102,1,none⟩ = some (.slice none 0 0):=(blk_cell BK102.out 1).trans rfl
 have hfs32:=blk_frozen BK102.out 1
 have hns32_0:=NB101_102.out
 have hns32_2:=NB117_102.out
 have hms32_0:=NB102_101.out
 have hms32_2:=NB102_117.out
 have hs33:w30.cell? ⟨gb102,2,none⟩ = some (.slice none 0 0):=(blk_cell BK102.out 2).trans rfl
 have hfs33:=blk_frozen BK102.out 2
 have hns33_0:=NB101_102.out
 have hns33_2:=NB117_102.out
 have hms33_0:=NB102_101.out
 have hms33_2:=NB102_117.out
 have hs34:w30.cell? ⟨gb102,3,none⟩ = some (.slice none 0 0):=(blk_cell BK102.out 3).trans rfl
 have hfs34:=blk_frozen BK102.out 3
 have hns34_0:=NB101_102.out
 have hns34_2:=NB117_102.out
 have hms34_0:=NB102_101.out
 have hms34_2:=NB102_117.out
 refine skip_ (w1:=?_) (by rfl) rfl ?_ ?_
 rotate_left
 ·go_simp
  rfl
 refine hK.out _ _ ⟨((cell_far (p:=⟨gb102,_,none⟩) NB117_102.out _).trans (((cell_far (p:=⟨gb102,_,none⟩) NB117_102.out _).trans (((cell_far (p:=⟨gb102,_,none⟩) NB117_102.out _).trans (((cell_far (p:=⟨gb102,_,none⟩) NB117_102.out _).trans (hHeld.1)))))))),((cell_far (p:=⟨gb102,_,none⟩) NB117_102.out _).trans (((cell_far (p:=⟨gb102,_,none⟩) NB117_102.out _).trans (((cell_far (p:=⟨gb102,_,none⟩) NB117_102.out _).trans (((cell_far (p:=⟨gb102,_,none⟩) NB117_102.out _).trans (hHeld.2.1)))))))),((cell_far (p:=⟨gb102,_,none⟩) NB117_102.out _).trans (((cell_far (p:=⟨gb102,_,none⟩) NB117_102.out _).trans (((cell_far (p:=⟨gb102,_,none⟩) NB117_102.out _).trans (((cell_far (p:=⟨gb102,_,none⟩) NB117_102.out _).trans (hHeld.2.2.1)))))))),((cell_far (p:=⟨gb102,_,none⟩) NB117_102.out _).trans (((cell_far (p:=⟨gb102,_,none⟩) NB117_102.out _).trans (((cell_far (p:=⟨gb102,_,none⟩) NB117_102.out _).trans (((cell_far (p:=⟨gb102,_,none⟩) NB117_102.out _).trans (hHeld.2.2.2.1)))))))),((cell_far (p:=⟨gb102,_,none⟩) aq34 _).trans (((cell_far (p:=⟨gb102,_,none⟩) aq34 _).trans (((cell_far (p:=⟨gb102,_,none⟩) aq34 _).trans (((cell_far (p:=⟨gb102,_,none⟩) aq34 _).trans (hHeld.2.2.2.2))))))))⟩ (fun hHeld=>?_)
 clear hK K
 refine py (i:=13) (N:=some 3) (bm 15 16383) ?_
 refine py (i:=14) (N:=some 4) (bm 15 32767) ?_
 refine done_ (done_of HT_.out k_r) ?_
 try go_wp2
 refine bodyPost_ret (results_ctt rfl _ _ gb102 59 #[.slice Ao19 t104.length co19,.slice (some ad122) t107.length co23,.slice Ao24 t110.length co24,.slice Ao25 t113.length co25] (0,0) _ rfl (by (with_reducible repeat (first | refine blk_drewN ?_ _ | refine blk_drew ?_ | refine blk_alloc ?_ _));refine blk_put (cs:=#[.slice Ao19 t104.length co19,.slice (some ad122) t107.length co23,.slice Ao24 t110.length co24,.slice none 0 0]) ?_ 3 _ rfl;(with_reducible repeat (first | refine blk_drewN ?_ _ | refine blk_drew ?_ | refine blk_alloc ?_ _));refine blk_put (cs:=#[.slice Ao19 t104.length co19,.slice (some ad122) t107.length co23,.slice none 0 0,.slice none 0 0]) ?_ 2 _ rfl;(with_reducible repeat (first | refine blk_drewN ?_ _ | refine blk_drew ?_ | refine blk_alloc ?_ _));refine blk_put (cs:=#[.slice Ao19 t104.length co19,.slice none 0 0,.slice none 0 0,.slice none 0 0]) ?_ 1 _ rfl;(with_reducible repeat (first | refine blk_drewN ?_ _ | refine blk_drew ?_ | refine blk_alloc ?_ _));refine blk_put (cs:=#[.slice none 0 0,.slice none 0 0,.slice none 0 0,.slice none 0 0]) ?_ 0 _ rfl;(with_reducible repeat (first | refine blk_drewN ?_ _ | refine blk_drew ?_ | refine blk_alloc ?_ _));exact BK102.out) Tryz.underlying59 rfl k_r) rfl ?_
 exact ⟨_,_,_,_,aq8,by (with_reducible repeat (first | apply Kd.R_alloc | apply Kd.R_drewN | apply Kd.R_drew));exact Kd.R_mono (Kd.R_far (p:=⟨gb102,3,none⟩) (Kd.R_far (p:=⟨gb102,2,none⟩) (Kd.R_far (p:=⟨gb102,1,none⟩) (Kd.R_far (p:=⟨gb102,0,none⟩) (Kd.R_types HO106.out BK102.out d_c) (fun _ hk=>hk.2) (.slice Ao19 t104.length co19)) (fun _ hk=>hk.2) (.slice (some ad122) t107.length co23)) (fun _ hk=>hk.2) (.slice Ao24 t110.length co24)) (fun _ hk=>hk.2) (.slice Ao25 t113.length co25)) (fun _ hk=>hk.1),by (with_reducible repeat (first | apply Kd.R_alloc | apply Kd.R_drewN | apply Kd.R_drew));exact Kd.R_mono (Kd.R_far (p:=⟨gb102,3,none⟩) (Kd.R_far (p:=⟨gb102,2,none⟩) (Kd.R_far (p:=⟨gb102,1,none⟩) (Kd.R_far (p:=⟨gb102,0,none⟩) (Kd.R_types HO109.out BK102.out d_c) (fun _ hk=>hk.2) (.slice Ao19 t104.length co19)) (fun _ hk=>hk.2) (.slice (some ad122) t107.length co23)) (fun _ hk=>hk.2) (.slice Ao24 t110.length co24)) (fun _ hk=>hk.2) (.slice Ao25 t113.length co25)) (fun _ hk=>trivial),by (with_reducible repeat (first | apply Kd.S_alloc | apply Kd.S_drewN | apply Kd.S_drew));exact Kd.S_mono (Kd.S_far (p:=⟨gb102,3,none⟩) (Kd.S_far (p:=⟨gb102,2,none⟩) (Kd.S_far (p:=⟨gb102,1,none⟩) (Kd.S_far (p:=⟨gb102,0,none⟩) (Kd.S_types HO112.out BK102.out d_c) (fun _ hk=>hk.2) (.slice Ao19 t104.length co19)) (fun _ hk=>hk.2) (.slice (some ad122) t107.length co23)) (fun _ hk=>hk.2) (.slice Ao24 t110.length co24)) (fun _ hk=>hk.2) (.slice Ao25 t113.length co25)) (fun _ hk=>hk.1.1),by (with_reducible repeat (first | apply Kd.R_alloc | apply Kd.R_drewN | apply Kd.R_drew));exact Kd.R_mono (Kd.R_far (p:=⟨gb102,3,none⟩) (Kd.R_far (p:=⟨gb102,2,none⟩) (Kd.R_far (p:=⟨gb102,1,none⟩) (Kd.R_far (p:=⟨gb102,0,none⟩) (Kd.R_types HO115.out BK102.out d_c) (fun _ hk=>hk.2) (.slice Ao19 t104.length co19)) (fun _ hk=>hk.2) (.slice (some ad122) t107.length co23)) (fun _ hk=>hk.2) (.slice Ao24 t110.length co24)) (fun _ hk=>hk.2) (.slice Ao25 t113.length co25)) (fun _ hk=>hk.1),aq19⟩
end Go.Proofs.YtldhkbiomingbaaGreatDoor.F

namespace Go.Proofs.YtldhkbiomingbaaGreatDoor.F
open Go.Proofs.YtldhkbiomingbaaGreatDoor
open Go.RowKit Go.YW.PrintWords Go.YW.PrintMore
theorem placeI_read {w h:Nat} {c:List Int} (v:Vg (w,h,c)):impl_read.f (textB (w,h,c)) = some ((w:Int),(h:Int),c):=impl_read_eq _ (grid_textB v)
theorem cells_l0 {w h:Nat} {s:RS} {n:ByteArray} (hn:n.size = 1) (hv:∀ c ∈ s.T,Vg (w,h,c)) (hl:s.T.length ≤ 300):∀ (d i:Nat),i + d = s.T.length →
  Ev (fun k=>impl_reach_cells.l0 k n ((cellsI s (bt n 0)).take i) (rT w h s) ((rT w h s).length:Int) i) (cellsI s (bt n 0))
 | 0,i,hi=>by
  refine Ev.step (f:=fun _=>some (cellsI s (bt n 0))) (fun k=>?_) (Ev.now _)
  rw [impl_reach_cells.l0,if_neg (by rw [rT_len];omega),List.take_of_length_le (by rw [cellsI_len];omega)]
 | d + 1,i,hi=>by
  have hlt:i < s.T.length:=by omega
  have ih:=cells_l0 hn hv hl d (i + 1) o_m
  have hvi:=hv _ (getD_mem (d:=([]:List Int)) hlt)
  have hrd:rdOf ByteArray.empty (rT w h s) (i:Int) = textB (w,h,s.T.getD i []):=by
   unfold rdOf rT
   rw [Int.toNat_natCast,List.getD_eq_getElem?_getD,List.getElem?_map,List.getElem?_eq_getElem hlt,getD_lt hlt];rfl
  have hll:=(tray_small hvi).2
  simp only at hll
  have hix:=index_l0 (cs:=s.T.getD i []) o_m (bt n 0) _ 0 (Nat.zero_add _) (fun j hj=>by omega)
  have htk:(cellsI s (bt n 0)).take i ++ [placeI (bt n 0) (s.T.getD i [])] = (cellsI s (bt n 0)).take (i + 1):=by
   rw [List.take_succ_eq_append_getElem (by rw [cellsI_len];exact hlt),← cellsI_get s (bt n 0) hlt,getD_lt (by rw [cellsI_len];exact hlt)]
  refine Ev.step (f:=fun k=>(slices_Index_byte_byte.f k (s.T.getD i []) (bt n 0)).bind fun t111=>(if ((cellsI s (bt n 0)).take i).length < 17592186044416 then (impl_reach_cells.l0 k n ((cellsI s (bt n 0)).take i ++ [t111]) (rT w h s) ((rT w h s).length:Int) (wrap64 ((i:Int) + 1))) else none)) (fun k=>?_) ?_
  ·rw [impl_reach_cells.l0,if_pos (by rw [rT_len];omega),if_pos o_m,if_pos (by rw [rT_len];omega),hrd,placeI_read hvi,Option.bind_some,if_pos o_m]
  ·refine Ev.bind hix (Ev.congr (fun k=>?_) ih)
   rw [if_pos (by rw [List.length_take];omega)]
   show impl_reach_cells.l0 k n (_ ++ [placeI (bt n 0) (s.T.getD i [])]) _ _ _ = _
   rw [htk,show (i:Int) + 1 = ((i + 1:Nat):Int) by omega,w64t o_m]
theorem cells_ev {w h:Nat} {s:RS} {n:ByteArray} (hn:n.size = 1) (hv:∀ c ∈ s.T,Vg (w,h,c)) (hl:s.T.length ≤ 300) (l1:List Int) (l2:List (List Int)) (l3:List ByteArray) :
  Ev (fun k=>impl_reach_cells.f k (rT w h s) l1 l2 l3 n) (cellsI s (bt n 0)):=cells_l0 hn hv hl s.T.length 0 (Nat.zero_add _)
theorem indexI_l0 {l:List Int} (hl:l.length ≤ 1000) (c:Int):∀ (d i:Nat),i + d = l.length → (∀ j,j < i → l.getD j 0 ≠ c) →
  Ev (fun k=>slices_Index_int_int.l0 k l c (l.length:Int) i) (if l.findIdx (fun x=>decide (x = c)) < l.length then (l.findIdx (fun x=>decide (x = c)):Int) else -1)
 | 0,i,hi,hn=>by
  obtain rfl:i = l.length:=by omega
  have:l.findIdx (fun x=>decide (x = c)) = l.length:=List.findIdx_eq_length.2 (fun x hx=>by
   obtain ⟨j,hj,rfl⟩:=List.mem_iff_getElem.1 hx
   have:=hn j hj
   rw [getD_lt hj] at this
   simpa using this)
  rw [this,if_neg (Nat.lt_irrefl _)]
  refine Ev.step (f:=fun _=>some (-1)) (fun k=>?_) (Ev.now _)
  rw [slices_Index_int_int.l0,if_neg o_m]
 | d + 1,i,hi,hn=>by
  have hlt:i < l.length:=by omega
  have hrd:rd l (i:Int) = l.getD i 0:=by unfold rd;rw [Int.toNat_natCast]
  by_cases he:c = l.getD i 0
  rotate_left
  ·have ih:=indexI_l0 hl c d (i + 1) o_m (fun j hj=>by
    by_cases e:j = i
    ·subst e;exact fun h=>he h.symm
    ·exact hn j o_m)
   refine Ev.step (fun k=>?_) ih
   rw [slices_Index_int_int.l0,if_pos o_m,if_pos o_m,if_pos o_m,hrd,if_neg he,show (i:Int) + 1 = ((i + 1:Nat):Int) by omega,w64t o_m]
  have hf:l.findIdx (fun x=>decide (x = c)) = i:=by
   rw [List.findIdx_eq hlt]
   refine ⟨by rw [he,getD_lt hlt];simp,fun j hj=>?_⟩
   have:=hn j hj
   rw [getD_lt o_m] at this
   simpa using this
  rw [hf,if_pos hlt]
  refine Ev.step (f:=fun _=>some (i:Int)) (fun k=>?_) (Ev.now _)
  rw [slices_Index_int_int.l0,if_pos o_m,if_pos o_m,if_pos o_m,hrd,if_pos he]
end Go.Proofs.YtldhkbiomingbaaGreatDoor.F

namespace Go.Proofs.YtldhkbiomingbaaGreatDoor.F
open Go.Proofs.YtldhkbiomingbaaGreatDoor
open Go.RowKit Go.YW.PrintWords Go.YW.PrintLast Go.YW.PrintMore
attribute [local go_sem] max2_int min2_int max_two min_two max_three min_three max_four min_four


end Go.Proofs.YtldhkbiomingbaaGreatDoor.F

namespace Go.Proofs.YtldhkbiomingbaaGreatDoor.F
open Go.Proofs.YtldhkbiomingbaaGreatDoor
open Go.RowKit Go.YW.PrintWords Go.YW.PrintMore
theorem puzB_name {t n:ByteArray} {goal:Int} (h:puzB t n goal = true):n.size = 1:=by
 unfold puzB at h
 split at h
 ·cases h
 ·split at h
  ·rename_i hc
   have:=hc.1
   unfold oneName at this
   rw [Bool.and_eq_true] at this
   exact of_decide_eq_true this.1
  ·cases h
theorem reachOf_some {t:ByteArray} {w h:Nat} {s:RS} (ht:t.size < 4294967281) (hs:srch t = some (w,h,s)):impl_reachOf.f t = some (rT w h s,castsI s.F,s.N.map castsI,rW s,true):=by
 unfold impl_reachOf.f
 rw [if_pos ht,hs]
theorem reachOf_none {t:ByteArray} (ht:t.size < 4294967281) (hs:srch t = none):impl_reachOf.f t = some ([],[],[],[],false):=by
 unfold impl_reachOf.f
 rw [if_pos ht,hs]
end Go.Proofs.YtldhkbiomingbaaGreatDoor.F

namespace Go.Proofs.YtldhkbiomingbaaGreatDoor.F
open Go.Proofs.YtldhkbiomingbaaGreatDoor
open Go.RowKit Go.YW.PrintWords Go.YW.PrintLast Go.YW.PrintMore
attribute [local go_sem] max2_int min2_int max_two min_two max_three min_three max_four min_four
mutual
def impl_reach_ways.l0:Nat → List Int → List (List Int) → Int → Int → List ByteArray → List Int → List (List Int) → List ByteArray → Option (List Int)
 | 0,_,_,_,_,_,_,_,_=>none
 | k + 1,x3,x15,x16,x17,x102000,x102001,x102002,x102003=>if x17 < x16 then (if 0 ≤ x17 then (if x17 < (x15.length:Int) then (impl_reach_ways.l1 k x3 x17 x15 x16 x17 (rd_L3 x15 x17) ((rd_L3 x15 x17).length:Int) 0 x102000 x102001 x102002 x102003) else (none)) else (none)) else (some x3)
def impl_reach_ways.l1:Nat → List Int → Int → List (List Int) → Int → Int → List Int → Int → Int → List ByteArray → List Int → List (List Int) → List ByteArray → Option (List Int)
 | 0,_,_,_,_,_,_,_,_,_,_,_,_=>none
 | k + 1,x3,x4,x15,x16,x17,x22,x23,x24,x102000,x102001,x102002,x102003=>if x24 < x23 then (if 0 ≤ x24 then (if x24 < (x22.length:Int) then (if 0 ≤ (rd x22 x24) then (if (rd x22 x24) < (x102001.length:Int) then (if 0 ≤ x4 then (if x4 < (x102001.length:Int) then (if (rd x102001 (rd x22 x24)) = (wrap64 ((rd x102001 x4) + 1)) then (if (rd x22 x24) < (x3.length:Int) then (if x4 < (x3.length:Int) then (impl_reach_ways.l1 k (x3.set ((rd x22 x24):Int).toNat (wrap64 ((rd x3 (rd x22 x24)) + (rd x3 x4)))) x4 x15 x16 x17 x22 x23 (wrap64 (x24 + 1)) x102000 x102001 x102002 x102003) else (none)) else (none)) else (impl_reach_ways.l1 k x3 x4 x15 x16 x17 x22 x23 (wrap64 (x24 + 1)) x102000 x102001 x102002 x102003)) else (none)) else (none)) else (none)) else (none)) else (none)) else (none)) else (impl_reach_ways.l0 k x3 x15 x16 (wrap64 (x17 + 1)) x102000 x102001 x102002 x102003)
end
def impl_reach_ways.f (k:Nat) (l0_0:List ByteArray) (l0_1:List Int) (l0_2:List (List Int)) (l0_3:List ByteArray):Option (List Int):=if 0 ≤ (l0_0.length:Int) then (if ((l0_0.length:Int):Int).toNat ≤ 35184372088832 then ((some (List.replicate ((l0_0.length:Int):Int).toNat 0:List Int)).bind fun y102=>(if 0 < (y102.length:Int) then (impl_reach_ways.l0 k (y102.set (0:Int).toNat 1) l0_2 (l0_2.length:Int) 0 l0_0 l0_1 l0_2 l0_3) else (none))) else (none)) else (none)
theorem impl_reach_ways.mono_l:∀ k,(∀ y0 y1 y2 y3 y4 y5 y6 y7,LeO (impl_reach_ways.l0 k y0 y1 y2 y3 y4 y5 y6 y7) (impl_reach_ways.l0 (k + 1) y0 y1 y2 y3 y4 y5 y6 y7)) ∧ (∀ y0 y1 y2 y3 y4 y5 y6 y7 y8 y9 y10 y11,LeO (impl_reach_ways.l1 k y0 y1 y2 y3 y4 y5 y6 y7 y8 y9 y10 y11) (impl_reach_ways.l1 (k + 1) y0 y1 y2 y3 y4 y5 y6 y7 y8 y9 y10 y11))
 | 0=>⟨fun _ _ _ _ _ _ _ _ r h=>by simp [impl_reach_ways.l0] at h,fun _ _ _ _ _ _ _ _ _ _ _ _ r h=>by simp [impl_reach_ways.l1] at h⟩
 | k + 1=>by
  obtain ⟨ih0,ih1⟩:=impl_reach_ways.mono_l k
  refine ⟨?_,?_⟩
  ·intro y0 y1 y2 y3 y4 y5 y6 y7
   unfold impl_reach_ways.l0
   exact mo
  ·intro y0 y1 y2 y3 y4 y5 y6 y7 y8 y9 y10 y11
   unfold impl_reach_ways.l1
   exact mo
theorem impl_reach_ways.mono:∀ a0 a1 a2 a3 k,LeO (impl_reach_ways.f k a0 a1 a2 a3) (impl_reach_ways.f (k + 1) a0 a1 a2 a3):=by
 intro a0 a1 a2 a3 k
 obtain ⟨ih0,ih1⟩:=impl_reach_ways.mono_l k
 unfold impl_reach_ways.f
 exact mo
def impl_reach_ways.T9:Bool × List (List Nat × List Nat):=(true,[([],[]),([0],[0]),([],[]),([1,2],[1,2]),([3],[3]),([],[]),([5],[5]),([],[]),([6,7],[6,7]),([8],[8]),([9],[9]),([4,10],[4,10])])
def impl_reach_ways.B9:List Nat:=[0,1,0,7,15,0,32,0,224,480,992,2047]
theorem impl_reach_ways.tab9:rtab .any (opsOf Tryz.f57 9) = impl_reach_ways.T9:=by kernel_rfl
theorem impl_reach_ways.bits9:waitsOk impl_reach_ways.T9.2 impl_reach_ways.B9 = true:=by kernel_rfl
def impl_reach_ways.T10:Bool × List (List Nat × List Nat):=(true,[([],[]),([],[]),([0,1],[0,1]),([2],[2]),([],[]),([],[]),([4,5],[4,5]),([6],[6]),([3,7],[3,7]),([0,1,0,1,2,3,4,5,6,7,8],[0,1]),([9,8,0,1,2,3,4,5,6,7,8],[8,9])])
def impl_reach_ways.B10:List Nat:=[0,0,3,7,0,0,48,112,255,511,1023]
theorem impl_reach_ways.tab10:rtab .any (opsOf Tryz.f57 10) = impl_reach_ways.T10:=by kernel_rfl
theorem impl_reach_ways.bits10:waitsOk impl_reach_ways.T10.2 impl_reach_ways.B10 = true:=by kernel_rfl
theorem impl_reach_ways.calls (k:Nat) (A0_0:Option Addr) (c0_0:Nat) (l0_0:List ByteArray) (A0_1:Option Addr) (c0_1:Nat) (l0_1:List Int) (A0_2:Option Addr) (c0_2:Nat) (l0_2:List (List Int)) (A0_3:Option Addr) (c0_3:Nat) (l0_3:List ByteArray) (r:List Int) (w:World) (hr0_0:Kd.C Kd.string w A0_0 l0_0.length l0_0) (hc0_0:l0_0.length ≤ c0_0) (hr0_1:Kd.C (Kd.int .i64) w A0_1 l0_1.length l0_1) (hc0_1:l0_1.length ≤ c0_1) (hr0_2:Kd.C (Kd.slice 3 (Kd.int .i64)) w A0_2 l0_2.length l0_2) (hc0_2:l0_2.length ≤ c0_2) (hr0_3:Kd.C Kd.string w A0_3 l0_3.length l0_3) (hc0_3:l0_3.length ≤ c0_3) (h:impl_reach_ways.f k l0_0 l0_1 l0_2 l0_3 = some r) :
  Calls Tryz.prog 57 #[.agg #[.slice A0_0 l0_0.length c0_0,.slice A0_1 l0_1.length c0_1,.slice A0_2 l0_2.length c0_2,.slice A0_3 l0_3.length c0_3]] w fun e w'=>∃ v0_:Value,e = .returned (v0_) ∧ Kd.R (Kd.int .i64) 3 w' w.heap.size (fun _=>True) v0_ r ∧ Below w.heap.size w w':=by
 have hu59:=Tryz.underlying59
 have HR0_0:=am hr0_0
 have HC0_0:=am hc0_0
 clear hr0_0 hc0_0
 have HR0_1:=am hr0_1
 have HC0_1:=am hc0_1
 clear hr0_1 hc0_1
 have HR0_2:=am hr0_2
 have HC0_2:=am hc0_2
 clear hr0_2 hc0_2
 have HR0_3:=am hr0_3
 have HC0_3:=am hc0_3
 clear hr0_3 hc0_3
 have HB:=am (Below.refl w.heap.size w)
 have H:(if 0 ≤ (l0_0.length:Int) then (if ((l0_0.length:Int):Int).toNat ≤ 35184372088832 then ((some (List.replicate ((l0_0.length:Int):Int).toNat 0:List Int)).bind fun y102=>(if 0 < (y102.length:Int) then (impl_reach_ways.l0 k (y102.set (0:Int).toNat 1) l0_2 (l0_2.length:Int) 0 l0_0 l0_1 l0_2 l0_3) else (none))) else (none)) else (none)) = some r:=h
 clear h
 replace H:=gd H
 obtain ⟨c2,H⟩:=H
 have c2b0:=eq_true c2
 have c2b1:=decide_eq_true c2
 clear c2
 replace H:=gd H
 obtain ⟨c3,H⟩:=H
 have c3b0:=eq_true c3
 have c3b1:=decide_eq_true c3
 clear c3
 obtain ⟨y102,hy_⟩:∃ y_:List Int,y_ = (List.replicate ((l0_0.length:Int):Int).toNat 0):=⟨_,rfl⟩
 replace H:(if 0 < (y102.length:Int) then (impl_reach_ways.l0 k (y102.set (0:Int).toNat 1) l0_2 (l0_2.length:Int) 0 l0_0 l0_1 l0_2 l0_3) else (none)) = some r:=aq6
 have Ny102:=am hy_
 clear hy_
 replace H:=gd H
 obtain ⟨c4,H⟩:=H
 have c4b0:=decide_eq_true c4
 (try simp only [hl3_1] at c4b0);(try simp only [hl3_2] at c4b0)
 have c4b1:decide (0 < y102.length) = true:=decide_eq_true o_m
 (try simp only [hl3_1] at c4b1);(try simp only [hl3_2] at c4b1)
 clear c4
 obtain ⟨y105,hy_⟩:∃ y_:List Int,y_ = (y102.set (0:Int).toNat 1):=⟨_,rfl⟩
 replace H:(impl_reach_ways.l0 k y105 l0_2 (l0_2.length:Int) 0 l0_0 l0_1 l0_2 l0_3) = some r:=aq6
 have Ny105:=am hy_
 clear hy_
 have H':=am H
 clear H
 go_enter Tryz.func57,Tryz.ntmps57
 go_wp2_with (first | (refine bx 1 #[.slice A0_0 l0_0.length c0_0,.slice A0_1 l0_1.length c0_1,.slice A0_2 l0_2.length c0_2,.slice A0_3 l0_3.length c0_3] 59 ?_;intro gb101 hg w6 hbox hb;have BK101:=am (hbox);have GW101:=am ((by rw [hg];exact (below_size aq2):w.heap.size ≤ gb101));have GE101:=GW101;replace HB:=am (below_step aq2 hb);clear hb hbox hg;obtain ⟨hcz7_0,hcz7_1,hcz7_2,hcz7_3,hfz7_0,hfz7_1,hfz7_2,hfz7_3⟩:=blk4_ BK101.out) | ((with_reducible refine gate_dst (N:=11) rfl ?_);refine Kd.R_make (Kd.int .i64) _ 3 rfl (N:=11) rfl 40 _ _ rfl (l0_0.length:Int) rfl rfl Tryz.underlying40 (.int .i64 0) 8 info3 rfl d_c o_m 0 (ok:=fun _=>True) (okp:=fun _=>True) rfl (fun _ hk=>hk) trivial (of_decide_eq_true aq5) (Nat.le_trans (Nat.mul_le_mul_right _ (of_decide_eq_true aq5:(l0_0.length:Int).toNat ≤ 35184372088832)) o_m) (Below.refl _ _) (Nat.le_refl _) ?_;intro v103 w8 ho9 hb hg_ hnew_;clear hg_ hnew_;(first | rw [← Ny102.out] at ho9 | (simp only [Int.reduceToNat] at ho9;rw [← Ny102.out] at ho9));have HO104:=am (Kd.R_lower ho9 (below_size aq0));replace BK101:=am (bb BK101 hb);replace HB:=am (below_step aq0 hb);clear hb ho9;have p5:0 ≤ (0:Int):=o_m;have q5:(0:Int) < ((y102.length:Int):Int):=of_decide_eq_true aq5;have qi5:(0 < y102.length) = True:=eq_true o_m;obtain ⟨go5,co5,eo5,gb5,gl5,cl5,HG5⟩:=Kd.R_form HO104.out o_m;(first | cases eo5 | (injection eo5 with ea_ en_ ec_;(first | subst ea_ | (injection ea_ with ea_;subst ea_));subst ec_;clear en_));have GB5:=am gb5;have GG5:=am HG5;clear gb5 gl5 HG5;obtain ⟨hx5_0,hf5_0⟩:=Kd.R_celln 0 HO104.out (0:Int) p5 q5;(try rw [show ((0:Int)).toNat = 0 from rfl] at hx5_0);(try simp only [Nat.reduceMul,Nat.zero_mul,Nat.zero_add,Nat.reduceAdd] at hx5_0);(try rw [show ((0:Int)).toNat = 0 from rfl] at hf5_0);(try simp only [Nat.reduceMul,Nat.zero_mul,Nat.zero_add,Nat.reduceAdd] at hf5_0);replace p5:=eq_true p5;replace q5:=eq_true q5;obtain ⟨hy10_,hz10_⟩:=Kd.R_celln 0 HO104.out (0:Int) o_m (of_decide_eq_true aq5);(try simp only [Int.reduceToNat,Int.toNat_zero,Int.toNat_ofNat,Nat.reduceMul,Nat.zero_mul,Nat.zero_add] at hy10_ hz10_);(try rw [show ((0:Int)).toNat = 0 from rfl] at hy10_);(try rw [show ((0:Int)).toNat = 0 from rfl] at hz10_);have HP10:=Kd.R_putg HO104.out (0:Int) 1) | ((with_reducible refine gate_store (t:=3) (p:=13) rfl ?_);refine store_event (t:=3) (p:=13) (v:=?vo_w11) (w1:=(w8.setCell ⟨go5,(0:Int).toNat,none⟩ (.int .i64 1))) ?hg ?ho ?hn ?hr ?_;(case ho=>rfl);(case hg=>rfl);(case hn=>rfl);(case hr=>exact aq13);intro w11 hw;have hg:w8.grownBy w11 (some go5):=(by rw [hw];exact HP10.2);have hp_:Kd.R (Kd.int .i64) 3 w11 w.heap.size (fun _=>True) (.slice (some ⟨go5,0,none⟩) y102.length co5) y105:=(by rw [hw,Ny105.out];exact HP10.1);clear HP10;replace BK101:=am (bg BK101 hg (Kd.R_ne HO104.out BK101.out d_c));replace HO104:=am (hp_);replace HB:=am ((by rw [hw];exact below_set (HB.out) GB5.out:Below w.heap.size w w11));clear hg hw hp_;obtain ⟨hcz12_0,hcz12_1,hcz12_2,hcz12_3,hfz12_0,hfz12_1,hfz12_2,hfz12_3⟩:=blk4_ BK101.out))
 go_loopg [17] k (fun kq v17 w'=>∃ (x3_1:List Int) (x17_1:Int),v17 = .int .i64 x17_1 ∧ Aside0 (impl_reach_ways.l0 kq x3_1 l0_2 (l0_2.length:Int) x17_1 l0_0 l0_1 l0_2 l0_3 = some r) ∧ Aside0 (kq ≤ k) ∧ Aside0 (Kd.R (Kd.int .i64) 3 w' w.heap.size (fun _=>True) (.slice (some ⟨go5,0,none⟩) y102.length co5) x3_1) ∧ Aside0 (w'.heap[gb101]? = some (.cells #[(.slice A0_0 l0_0.length c0_0),(.slice A0_1 l0_1.length c0_1),(.slice A0_2 l0_2.length c0_2),(.slice A0_3 l0_3.length c0_3)] 59 (0,0))) ∧ Aside0 (Below w.heap.size w w'))
 case atStart=>exact ⟨(y105),(0),aq7,H',⟨Nat.le_refl _⟩,⟨aq27⟩,⟨aq1⟩,⟨aq0⟩⟩
 case round =>
  clear H'
  try clear c2
  try clear c2b0
  try clear c2b1
  try clear p2
  try clear c3
  try clear c3b0
  try clear c3b1
  try clear c4
  try clear c4b0
  try clear c4b1
  try clear c5
  try clear p5
  try clear q5
  try clear hx5
  try clear qi5
  try clear hf5
  try clear hcz12_0
  try clear hcz12_1
  try clear hcz12_2
  try clear hcz12_3
  try clear hcz7_0
  try clear hcz7_1
  try clear hcz7_2
  try clear hcz7_3
  try clear hfz12_0
  try clear hfz12_1
  try clear hfz12_2
  try clear hfz12_3
  try clear hfz7_0
  try clear hfz7_1
  try clear hfz7_2
  try clear hfz7_3
  try clear hx5_0
  try clear p5
  try clear q5
  obtain ⟨x3_1,x17_1,rfl,HA,HK1,HO_3,BK101,HB⟩:=hrel
  have hl3_1:=(Kd.R_reads' HO_3.out).1
  rw [hl3_1] at HO_3
  (try simp only [hl3_1])
  (try simp only [hl3_1] at BK101)
  cases gk with
  | zero=>exact absurd HA.out (by simp [impl_reach_ways.l0])
  | succ k1 =>
   have H:=HA.out
   clear HA
   simp only [impl_reach_ways.l0] at H
   by_cases c13:x17_1 < (l0_2.length:Int)
   rotate_left
   ·rw [if_neg c13] at H
    have c13b0:=decide_eq_false c13
    clear c13
    obtain rfl:=Option.some.inj H
    go_wp2
    go_ret
    exact ⟨_,aq8,aq70,aq0⟩
   rw [if_pos c13] at H
   have c13b0:=decide_eq_true c13
   clear c13
   replace H:=gd H
   obtain ⟨c14,H⟩:=H
   have c14b0:=decide_eq_true c14
   clear c14
   replace H:=gd H
   obtain ⟨c15,H⟩:=H
   have c15b0:=decide_eq_true c15
   clear c15
   have H':=am H
   clear H
   have p106:0 ≤ (x17_1:Int):=of_decide_eq_true aq5
   have q106:x17_1 < (l0_2.length:Int):=of_decide_eq_true aq5
   obtain ⟨ad106,A106_0,c106_0,e106,hx106_0,hl106_0,hi106_0⟩:=at_L3 HR0_2.out x17_1 p106 q106
   cases e106
   try replace hx106_0:=(HB.out.cell (World.block_lt_of_cell? w _ hx106_0)).trans hx106_0
   have HR106_0:=am hi106_0
   have HC106_0:=am hl106_0
   clear hi106_0 hl106_0
   replace p106:=eq_true p106
   replace q106:=eq_true q106
   go_wp2
   go_loopg [24] k1 (fun kq v24 w'=>∃ (x3_2:List Int) (x24_2:Int),v24 = .int .i64 x24_2 ∧ Aside0 (impl_reach_ways.l1 kq x3_2 x17_1 l0_2 (l0_2.length:Int) x17_1 (rd_L3 l0_2 x17_1) ((rd_L3 l0_2 x17_1).length:Int) x24_2 l0_0 l0_1 l0_2 l0_3 = some r) ∧ Aside0 (kq ≤ k1) ∧ Aside0 (Kd.R (Kd.int .i64) 3 w' w.heap.size (fun _=>True) (.slice (some ⟨go5,0,none⟩) x3_1.length co5) x3_2) ∧ Aside0 (w'.heap[gb101]? = some (.cells #[(.slice A0_0 l0_0.length c0_0),(.slice A0_1 l0_1.length c0_1),(.slice (some ad106) l0_2.length c0_2),(.slice A0_3 l0_3.length c0_3)] 59 (0,0))) ∧ Aside0 (Below w.heap.size w w'))
   case atStart=>exact ⟨(x3_1),(0),aq7,H',⟨Nat.le_refl _⟩,⟨by (try simp only [hl3_1]);(with_reducible repeat (first | apply Kd.R_alloc | apply Kd.R_drewN | apply Kd.R_drew));exact HO_3.out⟩,⟨by (try simp only [hl3_1]);(with_reducible repeat (first | refine blk_drewN ?_ _ | refine blk_drew ?_ | refine blk_alloc ?_ _));exact BK101.out⟩,⟨aq0⟩⟩
   case round =>
    clear H'
    try clear c1
    try clear p1
    try clear q1
    try clear hx1
    try clear c2
    try clear c2b0
    try clear c2b1
    try clear p2
    try clear c3
    try clear c3b0
    try clear c3b1
    try clear c4
    try clear c4b0
    try clear c4b1
    try clear c5
    try clear p5
    try clear q5
    try clear hx5
    try clear qi5
    try clear hf5
    try clear c10
    try clear p10
    try clear q10
    try clear hx10
    try clear c13
    try clear c13b0
    try clear c14
    try clear c14b0
    try clear c15
    try clear c15b0
    try clear hcz12_0
    try clear hcz12_1
    try clear hcz12_2
    try clear hcz12_3
    try clear hcz7_0
    try clear hcz7_1
    try clear hcz7_2
    try clear hcz7_3
    try clear hfz12_0
    try clear hfz12_1
    try clear hfz12_2
    try clear hfz12_3
    try clear hfz7_0
    try clear hfz7_1
    try clear hfz7_2
    try clear hfz7_3
    try clear hx106_0
    try clear hx5_0
    try clear p106
    try clear p2
    try clear p5
    try clear q106
    try clear q5
    obtain ⟨x3_2,x24_2,rfl,HA,HK2,HO_3,BK101,HB⟩:=hrel
    have hl3_2:=(Kd.R_reads' HO_3.out).1
    rw [hl3_2] at HO_3
    (try simp only [hl3_2])
    (try simp only [hl3_2] at BK101)
    cases gk with
    | zero=>exact absurd HA.out (by simp [impl_reach_ways.l1])
    | succ k2 =>
     have H:=HA.out
     clear HA
     simp only [impl_reach_ways.l1] at H
     by_cases c16:x24_2 < ((rd_L3 l0_2 x17_1).length:Int)
     rotate_left
     ·rw [if_neg c16] at H
      have c16b0:=decide_eq_false c16
      clear c16
      have H':=am H
      clear H
      go_wp2
      (try simp only [← hl3_1,← hl3_2])
      go_roundg k2
      case measure=>have:=HK1.out;have:=HK2.out;omega
      case rel=>exact ⟨(x3_2),(wrap64 (x17_1 + 1)),aq7,H',⟨aq72⟩,⟨aq106⟩,⟨aq93⟩,⟨aq0⟩⟩
     rw [if_pos c16] at H
     have c16b0:=decide_eq_true c16
     clear c16
     replace H:=gd H
     obtain ⟨c17,H⟩:=H
     have c17b0:=decide_eq_true c17
     clear c17
     replace H:=gd H
     obtain ⟨c18,H⟩:=H
     have c18b0:=decide_eq_true c18
     clear c18
     replace H:=gd H
     obtain ⟨c19,H⟩:=H
     have c19b0:=decide_eq_true c19
     clear c19
     replace H:=gd H
     obtain ⟨c20,H⟩:=H
     have c20b0:=decide_eq_true c20
     clear c20
     replace H:=gd H
     obtain ⟨c21,H⟩:=H
     have c21b0:=decide_eq_true c21
     clear c21
     replace H:=gd H
     obtain ⟨c22,H⟩:=H
     have c22b0:=decide_eq_true c22
     clear c22
     by_cases c23:(rd l0_1 (rd (rd_L3 l0_2 x17_1) x24_2)) = (wrap64 ((rd l0_1 x17_1) + 1))
     rotate_left
     ·rw [if_neg c23] at H
      have c23b0:=beq_eq_false_iff_ne.mpr c23
      have c23b1:=bne_iff_ne.mpr c23
      have H':=am H
      clear H
      have p107:0 ≤ (x24_2:Int):=of_decide_eq_true aq5
      have q107:x24_2 < ((rd_L3 l0_2 x17_1).length:Int):=of_decide_eq_true aq5
      obtain ⟨ad107,e107,hx107_0⟩:=Kd.at_int HR106_0.out x24_2 p107 q107
      cases e107
      try replace hx107_0:=(HB.out.cell (World.block_lt_of_cell? w _ hx107_0)).trans hx107_0
      replace p107:=eq_true p107
      replace q107:=eq_true q107
      try go_wp2
      replace HO_3:=am (Kd.R_drew HO_3.out)
      replace BK101:=am (blk_drew BK101.out)
      replace HB:=am (below_drew1 HB.out)
      have p108:0 ≤ ((rd (rd_L3 l0_2 x17_1) x24_2):Int):=of_decide_eq_true aq5
      have q108:(rd (rd_L3 l0_2 x17_1) x24_2) < (l0_1.length:Int):=of_decide_eq_true aq5
      obtain ⟨ad108,e108,hx108_0⟩:=Kd.at_int HR0_1.out (rd (rd_L3 l0_2 x17_1) x24_2) p108 q108
      have hw108_0:=hx108_0
      cases e108
      try replace hx108_0:=(HB.out.cell (World.block_lt_of_cell? w _ hx108_0)).trans hx108_0
      replace p108:=eq_true p108
      replace q108:=eq_true q108
      have p109:0 ≤ (x17_1:Int):=of_decide_eq_true aq5
      have q109:x17_1 < (l0_1.length:Int):=of_decide_eq_true aq5
      obtain ⟨ad109,e109,hx109_0⟩:=Kd.at_int HR0_1.out x17_1 p109 q109
      have hw109_0:=hx109_0
      obtain rfl:ad108 = ad109:=(by injection e109)
      try replace hx109_0:=(HB.out.cell (World.block_lt_of_cell? w _ hx109_0)).trans hx109_0
      replace p109:=eq_true p109
      replace q109:=eq_true q109
      refine start_ (n:=12) (S:=fun w'=>w'.cell? ⟨gb101,0,none⟩ = some (.slice A0_0 l0_0.length c0_0) ∧ w'.cell? ⟨gb101,1,none⟩ = some (.slice (some ad108) l0_1.length c0_1) ∧ w'.cell? ⟨gb101,2,none⟩ = some (.slice (some ad106) l0_2.length c0_2) ∧ w'.cell? ⟨gb101,3,none⟩ = some (.slice A0_3 l0_3.length c0_3) ∧ w'.cell? (ad108.add ((rd (rd_L3 l0_2 x17_1) x24_2)).toNat) = some (.int .i64 (rd l0_1 (rd (rd_L3 l0_2 x17_1) x24_2))) ∧ w'.cell? (ad108.add (x17_1).toNat) = some (.int .i64 (rd l0_1 x17_1))) (ds:=[]) (bm 12 0) k_r rfl rfl ⟨bk BK101 0,bk BK101 1,bk BK101 2,bk BK101 3,((HB.out.cell (World.block_lt_of_cell? w _ hw108_0)).trans hw108_0),((HB.out.cell (World.block_lt_of_cell? w _ hw109_0)).trans hw109_0)⟩ (fun hHeld=>?_);refine with_tabW impl_reach_ways.tab9 impl_reach_ways.bits9 (fun HT_ HW_=>?_)
      generalize wr.drew = w30 at HO_3 BK101 HB hx108_0 hx109_0 hHeld ⊢
      refine py (i:=0) (N:=some 28) (bm 12 1) ?_
      refine py (i:=2) (N:=some 30) (bm 12 5) ?_
      refine py (i:=5) (N:=some 33) (bm 12 37) ?_
      refine py (i:=7) (N:=some 35) (bm 12 165) ?_
      refine tk6 (i:=1) (N:=some 29) (bm 12 167) hHeld ?_
      refine py (i:=3) (N:=some 31) (bm 12 175) ?_
      refine tk6 (i:=4) (N:=some 32) (bm 12 191) hHeld ?_
      refine tk6 (i:=6) (N:=some 34) (bm 12 255) hHeld ?_
      refine py (i:=8) (N:=some 36) (bm 12 511) ?_
      refine tk6 (i:=9) (N:=some 37) (bm 12 1023) hHeld ?_
      refine py (i:=10) (N:=some 38) (bm 12 2047) ?_
      refine py (i:=11) (N:=some 39) (bm 12 4095) ?_
      refine done_ (done_of HT_.out k_r) ?_
      try go_wp2
      (try simp only [← hl3_2])
      go_roundg k2
      case measure=>have:=HK1.out;have:=HK2.out;omega
      case rel=>exact ⟨(x3_2),(wrap64 (x24_2 + 1)),aq7,H',⟨aq72⟩,⟨aq106⟩,⟨aq93⟩,⟨aq0⟩⟩
     rw [if_pos c23] at H
     have c23b0:=beq_iff_eq.mpr c23
     have c23b1:=bne_eq_false_iff_eq.mpr c23
     clear c23
     replace H:=gd H
     obtain ⟨c24,H⟩:=H
     have c24b0:=decide_eq_true c24
     clear c24
     replace H:=gd H
     obtain ⟨c25,H⟩:=H
     have c25b0:=decide_eq_true c25
     clear c25
     obtain ⟨y112,hy_⟩:∃ y_:List Int,y_ = (x3_2.set ((rd (rd_L3 l0_2 x17_1) x24_2):Int).toNat (wrap64 ((rd x3_2 (rd (rd_L3 l0_2 x17_1) x24_2)) + (rd x3_2 x17_1)))):=⟨_,rfl⟩
     replace H:(impl_reach_ways.l1 k2 y112 x17_1 l0_2 (l0_2.length:Int) x17_1 (rd_L3 l0_2 x17_1) ((rd_L3 l0_2 x17_1).length:Int) (wrap64 (x24_2 + 1)) l0_0 l0_1 l0_2 l0_3) = some r:=aq6
     have Ny112:=am hy_
     clear hy_
     have H':=am H
     clear H
     have p107:0 ≤ (x24_2:Int):=of_decide_eq_true aq5
     have q107:x24_2 < ((rd_L3 l0_2 x17_1).length:Int):=of_decide_eq_true aq5
     obtain ⟨ad107,e107,hx107_0⟩:=Kd.at_int HR106_0.out x24_2 p107 q107
     cases e107
     try replace hx107_0:=(HB.out.cell (World.block_lt_of_cell? w _ hx107_0)).trans hx107_0
     replace p107:=eq_true p107
     replace q107:=eq_true q107
     try go_wp2
     replace HO_3:=am (Kd.R_drew HO_3.out)
     replace BK101:=am (blk_drew BK101.out)
     replace HB:=am (below_drew1 HB.out)
     have p108:0 ≤ ((rd (rd_L3 l0_2 x17_1) x24_2):Int):=of_decide_eq_true aq5
     have q108:(rd (rd_L3 l0_2 x17_1) x24_2) < (l0_1.length:Int):=of_decide_eq_true aq5
     obtain ⟨ad108,e108,hx108_0⟩:=Kd.at_int HR0_1.out (rd (rd_L3 l0_2 x17_1) x24_2) p108 q108
     have hw108_0:=hx108_0
     cases e108
     try replace hx108_0:=(HB.out.cell (World.block_lt_of_cell? w _ hx108_0)).trans hx108_0
     replace p108:=eq_true p108
     replace q108:=eq_true q108
     have p109:0 ≤ (x17_1:Int):=of_decide_eq_true aq5
     have q109:x17_1 < (l0_1.length:Int):=of_decide_eq_true aq5
     obtain ⟨ad109,e109,hx109_0⟩:=Kd.at_int HR0_1.out x17_1 p109 q109
     have hw109_0:=hx109_0
     obtain rfl:ad108 = ad109:=(by injection e109)
     try replace hx109_0:=(HB.out.cell (World.block_lt_of_cell? w _ hx109_0)).trans hx109_0
     replace p109:=eq_true p109
     replace q109:=eq_true q109
     refine start_ (n:=12) (S:=fun w'=>w'.cell? ⟨gb101,0,none⟩ = some (.slice A0_0 l0_0.length c0_0) ∧ w'.cell? ⟨gb101,1,none⟩ = some (.slice (some ad108) l0_1.length c0_1) ∧ w'.cell? ⟨gb101,2,none⟩ = some (.slice (some ad106) l0_2.length c0_2) ∧ w'.cell? ⟨gb101,3,none⟩ = some (.slice A0_3 l0_3.length c0_3) ∧ w'.cell? (ad108.add ((rd (rd_L3 l0_2 x17_1) x24_2)).toNat) = some (.int .i64 (rd l0_1 (rd (rd_L3 l0_2 x17_1) x24_2))) ∧ w'.cell? (ad108.add (x17_1).toNat) = some (.int .i64 (rd l0_1 x17_1))) (ds:=[]) (bm 12 0) k_r rfl rfl ⟨bk BK101 0,bk BK101 1,bk BK101 2,bk BK101 3,((HB.out.cell (World.block_lt_of_cell? w _ hw108_0)).trans hw108_0),((HB.out.cell (World.block_lt_of_cell? w _ hw109_0)).trans hw109_0)⟩ (fun hHeld=>?_);refine with_tabW impl_reach_ways.tab9 impl_reach_ways.bits9 (fun HT_ HW_=>?_)
     generalize wr.drew = w27 at HO_3 BK101 HB hx108_0 hx109_0 hHeld ⊢
     refine py (i:=0) (N:=some 28) (bm 12 1) ?_
     refine py (i:=2) (N:=some 30) (bm 12 5) ?_
     refine py (i:=5) (N:=some 33) (bm 12 37) ?_
     refine py (i:=7) (N:=some 35) (bm 12 165) ?_
     refine tk6 (i:=1) (N:=some 29) (bm 12 167) hHeld ?_
     refine py (i:=3) (N:=some 31) (bm 12 175) ?_
     refine tk6 (i:=4) (N:=some 32) (bm 12 191) hHeld ?_
     refine tk6 (i:=6) (N:=some 34) (bm 12 255) hHeld ?_
     refine py (i:=8) (N:=some 36) (bm 12 511) ?_
     refine tk6 (i:=9) (N:=some 37) (bm 12 1023) hHeld ?_
     refine py (i:=10) (N:=some 38) (bm 12 2047) ?_
     refine py (i:=11) (N:=some 39) (bm 12 4095) ?_
     refine done_ (done_of HT_.out k_r) ?_
     try go_wp2
     replace HO_3:=am (Kd.R_drew HO_3.out)
     replace BK101:=am (blk_drew BK101.out)
     replace HB:=am (below_drew1 HB.out)
     have p110:0 ≤ ((rd (rd_L3 l0_2 x17_1) x24_2):Int):=of_decide_eq_true aq5
     have q110:(rd (rd_L3 l0_2 x17_1) x24_2) < (x3_2.length:Int):=of_decide_eq_true aq5
     obtain ⟨ad110,e110,hx110_0⟩:=Kd.at_int (Kd.R_reads' HO_3.out).2.2 (rd (rd_L3 l0_2 x17_1) x24_2) p110 q110
     obtain rfl:(⟨go5,0,none⟩:Addr) = ad110:=(by injection e110)
     (first | simp only [add_plain] at hx110_0 | simp only [add_at] at hx110_0 | simp only [Addr.add,Nat.zero_add] at hx110_0 | skip)
     replace p110:=eq_true p110
     replace q110:=eq_true q110
     have p111:0 ≤ (x17_1:Int):=of_decide_eq_true aq5
     have q111:x17_1 < (x3_2.length:Int):=of_decide_eq_true aq5
     obtain ⟨ad111,e111,hx111_0⟩:=Kd.at_int (Kd.R_reads' HO_3.out).2.2 x17_1 p111 q111
     obtain rfl:(⟨go5,0,none⟩:Addr) = ad111:=(by injection e111)
     (first | simp only [add_plain] at hx111_0 | simp only [add_at] at hx111_0 | simp only [Addr.add,Nat.zero_add] at hx111_0 | skip)
     replace p111:=eq_true p111
     replace q111:=eq_true q111
     have p26:0 ≤ ((rd (rd_L3 l0_2 x17_1) x24_2):Int):=of_decide_eq_true aq5
     have q26:((rd (rd_L3 l0_2 x17_1) x24_2):Int) < ((x3_2.length:Int):Int):=of_decide_eq_true aq5
     obtain ⟨hx26_0,hf26_0⟩:=Kd.R_celln 0 HO_3.out ((rd (rd_L3 l0_2 x17_1) x24_2):Int) p26 q26
     replace p26:=eq_true p26
     replace q26:=eq_true q26
     have HP29:=Kd.R_putn HO_3.out ((rd (rd_L3 l0_2 x17_1) x24_2):Int) (wrap64 ((rd x3_2 (rd (rd_L3 l0_2 x17_1) x24_2)) + (rd x3_2 x17_1)))
     rw [← Ny112.out] at HP29
     have HQ29:=am HP29
     clear HP29
     refine start_ (n:=11) (S:=fun w'=>w'.cell? ⟨go5,((rd (rd_L3 l0_2 x17_1) x24_2)).toNat,none⟩ = some (.int .i64 (rd x3_2 (rd (rd_L3 l0_2 x17_1) x24_2))) ∧ w'.cell? ⟨go5,(x17_1).toNat,none⟩ = some (.int .i64 (rd x3_2 x17_1))) (ds:=[10]) (bm 11 0) k_r rfl rfl ⟨hx110_0,hx111_0⟩ (fun hHeld=>?_);refine with_tabW impl_reach_ways.tab10 impl_reach_ways.bits10 (fun HT_ HW_=>?_)
     generalize w27.drew = w28 at HO_3 BK101 HB HQ29 hf26_0 hx110_0 hx111_0 hx26_0 hHeld ⊢
     refine py (i:=0) (N:=some 40) (bm 11 1) ?_
     refine py (i:=1) (N:=some 41) (bm 11 3) ?_
     refine py (i:=2) (N:=some 42) (bm 11 7) ?_
     refine py (i:=4) (N:=some 44) (bm 11 23) ?_
     refine py (i:=5) (N:=some 45) (bm 11 55) ?_
     refine py (i:=6) (N:=some 46) (bm 11 119) ?_
     refine tk2 (i:=3) (N:=some 43) (bm 11 127) hHeld ?_
     refine tk2 (i:=7) (N:=some 47) (bm 11 255) hHeld ?_
     refine py (i:=8) (N:=some 48) (bm 11 511) ?_
     refine py (i:=9) (N:=some 49) (bm 11 1023) ?_
     refine last_ (i:=10) (N:=none) (bm 11 2047) rfl rfl (one_of HT_.out k_r) d_c (fun K hK=>?_)
     refine skip_ (w1:=?_) (by rfl) rfl ?_ ?_
     rotate_left
     ·go_simp
      rfl
     refine hK.out _ _ ?_
     clear hK K
     refine done_ (done_of HT_.out k_r) ?_
     try go_wp2
     (try simp only [← hl3_2])
     go_roundg k2
     case measure=>have:=HK1.out;have:=HK2.out;omega
     case rel=>exact ⟨(y112),(wrap64 (x24_2 + 1)),aq7,H',⟨aq72⟩,⟨by (try simp only [hl3_1]);(try simp only [hl3_2]);(with_reducible repeat (first | apply Kd.R_alloc | apply Kd.R_drewN | apply Kd.R_drew));exact HQ29.out⟩,⟨by (try simp only [hl3_1]);(try simp only [hl3_2]);(with_reducible repeat (first | refine blk_drewN ?_ _ | refine blk_drew ?_ | refine blk_alloc ?_ _));refine blk_far ?_ (by have h_:=Kd.R_ne HO_3.out BK101.out d_c;intro e_;exact h_ (by rw [e_];rfl)) _;(with_reducible repeat (first | refine blk_drewN ?_ _ | refine blk_drew ?_ | refine blk_alloc ?_ _));exact BK101.out⟩,⟨by repeat (first | (with_reducible first | exact HB.out | apply below_alloc | apply pw_below_drewN | apply below_drew1 | refine below_set ?_ GB5.out | refine below_set ?_ GE101.out) | exact HB.out)⟩⟩
end Go.Proofs.YtldhkbiomingbaaGreatDoor.F

namespace Go.Proofs.YtldhkbiomingbaaGreatDoor.F
open Go.Proofs.YtldhkbiomingbaaGreatDoor
open Go.RowKit Go.YW.PrintWords Go.YW.PrintMore
theorem rd_casts {l:List Nat} {i:Nat} (h:i < l.length):rd (castsI l) (i:Int) = ((l.getD i 0:Nat):Int):=by
 unfold rd
 rw [Int.toNat_natCast,List.getD_eq_getElem?_getD,castsI_getD _ _ h,getD_lt h];rfl
theorem ways_l1 {F:List Nat} {X:List (List Int)} {x16:Int} {TT:List ByteArray} {NN:List (List Int)} {WW:List ByteArray} {i:Nat} {r:List Int} (hF:∀ a ∈ F,a ≤ 300) (hFl:F.length ≤ 300) (hi:i < F.length) (l:List Nat) (hl:∀ a ∈ l,a < F.length) (hll:l.length ≤ 4) :
  ∀ (d j:Nat) (Q:List Int),j + d = l.length → Q.length = F.length → Ev (fun k=>impl_reach_ways.l0 k ((l.drop j).foldl (addW F i) Q) X x16 (wrap64 ((i:Int) + 1)) TT (castsI F) NN WW) r →
  Ev (fun k=>impl_reach_ways.l1 k Q i X x16 i (castsI l) ((castsI l).length:Int) j TT (castsI F) NN WW) r
 | 0,j,Q,hj,hQ,h=>by
  rw [List.drop_of_length_le o_m] at h
  refine Ev.step (fun k=>?_) h
  rw [impl_reach_ways.l1,if_neg (by rw [castsI_length];omega)];rfl
 | d + 1,j,Q,hj,hQ,h=>by
  have hlt:j < l.length:=by omega
  obtain ⟨a,ha⟩:∃ a,l.getD j 0 = a:=⟨_,rfl⟩
  have haF:a < F.length:=by rw [← ha];exact hl _ (getD_mem hlt)
  have hdr:l.drop j = a :: l.drop (j + 1):=by rw [← ha,getD_lt hlt,← List.drop_eq_getElem_cons hlt]
  rw [hdr,List.foldl_cons] at h
  have ih:=ways_l1 hF hFl hi l hl hll d (j + 1) (addW F i Q a) o_m (by rw [addW_len];exact hQ) h
  have hrd:rd (castsI l) (j:Int) = ((a:Nat):Int):=by rw [rd_casts hlt,ha]
  have hra:=rd_casts haF
  have hri:=rd_casts hi
  have hb1:F.getD i 0 ≤ 300:=hF _ (getD_mem hi)
  have hw1:wrap64 (((F.getD i 0:Nat):Int) + 1) = ((F.getD i 0 + 1:Nat):Int):=w64t (n:=F.getD i 0 + 1) o_m
  have hw2:wrap64 ((j:Int) + 1) = ((j + 1:Nat):Int):=w64t (n:=j + 1) o_m
  refine Ev.step (fun k=>?_) ih
  rw [impl_reach_ways.l1]
  have hj1:(j:Int) < ((castsI l).length:Int):=by rw [castsI_length];omega
  have ha1:((a:Nat):Int) < ((castsI F).length:Int):=by rw [castsI_length];omega
  have hi1:(i:Int) < ((castsI F).length:Int):=by rw [castsI_length];omega
  have ha2:((a:Nat):Int) < (Q.length:Int):=by omega
  have hi2:((i:Nat):Int) < (Q.length:Int):=by omega
  have hra':rd Q ((a:Nat):Int) = Q.getD a 0:=by unfold rd;rw [Int.toNat_natCast]
  have hri':rd Q ((i:Nat):Int) = Q.getD i 0:=by unfold rd;rw [Int.toNat_natCast]
  rw [if_pos hj1,if_pos (Int.natCast_nonneg j),if_pos hj1]
  simp only [hrd,hra,hri,hra',hri',if_pos (Int.natCast_nonneg a),if_pos (Int.natCast_nonneg i),if_pos ha1,if_pos hi1,if_pos ha2,if_pos hi2,Int.toNat_natCast]
  by_cases e:F.getD a 0 = F.getD i 0 + 1
  rotate_left
  ·have e1:¬ ((F.getD a 0:Nat):Int) = wrap64 (((F.getD i 0:Nat):Int) + 1):=fun q=>e (Int.ofNat_inj.1 (q.trans hw1))
   have e2:addW F i Q a = Q:=by unfold addW;rw [if_neg e]
   rw [if_neg e1,e2,hw2]
  have e1:((F.getD a 0:Nat):Int) = wrap64 (((F.getD i 0:Nat):Int) + 1):=(congrArg (fun x:Nat=>(x:Int)) e).trans hw1.symm
  have e2:addW F i Q a = Q.set a (wrap64 (Q.getD a 0 + Q.getD i 0)):=by unfold addW;rw [if_pos e]
  rw [if_pos e1,e2,hw2]
theorem ways_l0 {F:List Nat} {N0:List (List Nat)} {TT:List ByteArray} {NN:List (List Int)} {WW:List ByteArray} (hF:∀ a ∈ F,a ≤ 300) (hFl:F.length ≤ 300) (hN:N0.length ≤ F.length) (hl:∀ l ∈ N0,l.length = 4 ∧ ∀ a ∈ l,a < F.length) :
  ∀ (d i:Nat) (Q:List Int),i + d = N0.length → Q.length = F.length → Ev (fun k=>impl_reach_ways.l0 k Q (N0.map castsI) ((N0.map castsI).length:Int) i TT (castsI F) NN WW) (waysN F i (N0.drop i) Q)
 | 0,i,Q,hi,hQ=>by
  rw [List.drop_of_length_le o_m]
  refine Ev.step (f:=fun _=>some Q) (fun k=>?_) (Ev.now _)
  rw [impl_reach_ways.l0,if_neg (by rw [List.length_map];omega)]
 | d + 1,i,Q,hi,hQ=>by
  have hlt:i < N0.length:=by omega
  have hmem:=getD_mem (d:=([]:List Nat)) hlt
  obtain ⟨h4,hla⟩:=hl _ hmem
  have hdr:N0.drop i = N0.getD i [] :: N0.drop (i + 1):=by rw [getD_lt hlt,← List.drop_eq_getElem_cons hlt]
  have hfl:∀ (l:List Nat) (Q:List Int),(l.foldl (addW F i) Q).length = Q.length:=fun l=>by
   induction l with
   | nil=>intro Q;rfl
   | cons a r ih=>intro Q;rw [List.foldl_cons,ih,addW_len]
  have ih:=ways_l0 (TT:=TT) (NN:=NN) (WW:=WW) hF hFl hN hl d (i + 1) ((N0.getD i []).foldl (addW F i) Q) o_m (by rw [hfl];exact hQ)
  rw [hdr]
  show Ev _ (waysN F (i + 1) (N0.drop (i + 1)) ((N0.getD i []).foldl (addW F i) Q))
  have hw:wrap64 ((i:Int) + 1) = ((i + 1:Nat):Int):=w64t (n:=i + 1) o_m
  have h1:=ways_l1 (X:=N0.map castsI) (x16:=((N0.map castsI).length:Int)) (TT:=TT) (NN:=NN) (WW:=WW) hF hFl (i:=i) o_m (N0.getD i []) hla o_m _ 0 Q (Nat.zero_add _) hQ (by rw [List.drop_zero,hw];exact ih)
  refine Ev.step (fun k=>?_) h1
  have hrd:rd_L3 (N0.map castsI) (i:Int) = castsI (N0.getD i []):=by
   unfold rd_L3
   rw [Int.toNat_natCast,List.getD_eq_getElem?_getD,List.getElem?_map,List.getElem?_eq_getElem hlt,getD_lt hlt];rfl
  rw [impl_reach_ways.l0,if_pos (by rw [List.length_map];omega),if_pos o_m,if_pos (by rw [List.length_map];omega),hrd];rfl
theorem ways_ev {w h:Nat} {cs:List Int} {s:RS} (o:RS.Ok2 w h cs s.T.length s) (hfar:∀ a ∈ s.F,a ≤ 300) (W:List ByteArray):Ev (fun k=>impl_reach_ways.f k (rT w h s) (castsI s.F) (s.N.map castsI) W) (waysL s):=by
 have hp:=o.ok.pos
 have hm:=o.ok.most
 unfold impl_reach_ways.f
 rw [rT_len]
 refine Ev.congr (fun k=>by rw [if_pos o_m,if_pos o_m,Option.bind_some,Int.toNat_natCast,if_pos (by rw [List.length_replicate];omega)]) ?_
 have:=ways_l0 (F:=s.F) (N0:=s.N) (TT:=rT w h s) (NN:=s.N.map castsI) (WW:=W) hfar (by rw [o.ok.lF];exact hm) (by rw [o.lN,o.ok.lF];exact Nat.le_refl _) (fun l hl=>by rw [o.ok.lF];exact o.next l hl) s.N.length 0 ((List.replicate s.T.length 0).set 0 1) (Nat.zero_add _) (by rw [List.length_set,List.length_replicate,o.ok.lF])
 rw [List.drop_zero] at this
 have e:(List.replicate s.T.length (0:Int)).set 0 1 = 1 :: zerosI (s.T.length - 1):=by
  obtain ⟨m,hm⟩:∃ m,s.T.length = m + 1:=⟨s.T.length - 1,by omega⟩
  rw [hm];rfl
 rw [e] at this
 unfold waysL
 exact Ev.congr (fun k=>by rw [show (0:Int).toNat = 0 from rfl,e];rfl) this
theorem casts_far {s:RS} {i:Nat} (hF:i < s.F.length):rd (castsI s.F) (i:Int) = ((s.F.getD i 0:Nat):Int):=by
 unfold rd
 rw [Int.toNat_natCast,List.getD_eq_getElem?_getD,castsI_getD _ _ hF,getD_lt hF];rfl
theorem impl_solution_some {t n:ByteArray} {goal:Int} {w h i:Nat} {s:RS} (ht:t.size < 4294967281) (e:puS t n goal = some (w,h,s,i)) :
  Ev (fun k=>impl_solution.f k t n goal) (rT w h s,castsI s.F,s.N.map castsI,rW s,(i:Int),decide (s.F.getD i 0 ≤ 40)):=by
 have hP:=impl_IsPuzzle_ev t n goal ht
 obtain ⟨hp,hs,hgi,hi⟩:=puS_some e
 have hn:=puzB_name hp
 rw [hp] at hP
 obtain ⟨cs,_,_,_,_,o⟩:=srch_some hs
 have o:=o.ok
 have hm:=o.most
 have hc:=cells_ev (w:=w) (h:=h) (s:=s) hn o.tray hm (castsI s.F) (s.N.map castsI) (rW s)
 have hi2:Ev (fun k=>slices_Index_int_int.f k (cellsI s (bt n 0)) goal) ((i:Nat):Int):=by
  have h:=indexI_l0 (l:=cellsI s (bt n 0)) (by rw [cellsI_len];omega) goal _ 0 (Nat.zero_add _) (fun j hj=>by omega)
  have hg:(cellsI s (bt n 0)).findIdx (fun x=>decide (x = goal)) = i:=hgi
  rw [hg,if_pos (show i < (cellsI s (bt n 0)).length by rw [cellsI_len];exact hi)] at h
  exact h
 have hF:i < s.F.length:=by rw [o.lF];exact hi
 have hfar:=casts_far hF
 unfold impl_solution.f
 refine Ev.bind hP (Ev.congr (fun k=>by rw [if_pos rfl,reachOf_some ht hs,Option.bind_some];exact if_pos rfl) (Ev.bind hc (Ev.bind hi2 (Ev.congr (fun k=>?_) (Ev.now _)))))
 refine (if_pos (show ((i:Nat):Int) ≥ 0 by omega)).trans ((if_pos (show 0 ≤ ((i:Nat):Int) by omega)).trans ((if_pos (show ((i:Nat):Int) < ((castsI s.F).length:Int) by rw [castsI_length,o.lF];omega)).trans ?_))
 show some (rT w h s,castsI s.F,s.N.map castsI,rW s,(i:Int),decide (rd (castsI s.F) (i:Int) ≤ 40)) = _
 rw [hfar,decide_eq_decide.2 (show ((s.F.getD i 0:Nat):Int) ≤ 40 ↔ s.F.getD i 0 ≤ 40 by omega)]
theorem impl_solution_none {t n:ByteArray} {goal:Int} (ht:t.size < 4294967281) (e:puS t n goal = none):∃ r1 r2 r3 r4 r5,
  Ev (fun k=>impl_solution.f k t n goal) (r1,r2,r3,r4,r5,false):=by
 have hP:=impl_IsPuzzle_ev t n goal ht
 unfold impl_solution.f
 by_cases hp:puzB t n goal = true
 rotate_left
 ·rw [Bool.not_eq_true] at hp
  rw [hp] at hP
  exact ⟨[],[],[],[],0,Ev.bind hP (Ev.congr (fun k=>if_neg Bool.false_ne_true) (Ev.now _))⟩
 have hn:=puzB_name hp
 rw [hp] at hP
 unfold puS at e
 rw [if_pos hp] at e
 cases hs:srch t with
 | none =>
  refine ⟨[],[],[],[],0,Ev.bind hP (Ev.congr (fun k=>?_) (Ev.now _))⟩
  rw [if_pos rfl,reachOf_none ht hs,Option.bind_some]
  exact if_neg Bool.false_ne_true
 | some q =>
  obtain ⟨w,h,s⟩:=q
  rw [hs,Option.bind_some] at e
  simp only at e
  obtain ⟨cs,_,_,_,_,o⟩:=srch_some hs
  have o:=o.ok
  have hm:=o.most
  have hl:¬ goalAt s (bt n 0) goal < s.T.length:=fun q=>by rw [if_pos q] at e;cases e
  have hc:=cells_ev (w:=w) (h:=h) (s:=s) hn o.tray hm (castsI s.F) (s.N.map castsI) (rW s)
  have hi2:Ev (fun k=>slices_Index_int_int.f k (cellsI s (bt n 0)) goal) (-1):=by
   have h:=indexI_l0 (l:=cellsI s (bt n 0)) (by rw [cellsI_len];omega) goal _ 0 (Nat.zero_add _) (fun j hj=>by omega)
   rw [if_neg (show ¬ (cellsI s (bt n 0)).findIdx (fun x=>decide (x = goal)) < (cellsI s (bt n 0)).length by rw [cellsI_len];exact hl)] at h
   exact h
  exact ⟨rT w h s,castsI s.F,s.N.map castsI,rW s,-1,Ev.bind hP (Ev.congr (fun k=>by rw [if_pos rfl,reachOf_some ht hs,Option.bind_some];exact if_pos rfl) (Ev.bind hc (Ev.bind hi2 (Ev.congr (fun k=>if_neg (show ¬ ((-1:Int) ≥ 0) by omega)) (Ev.now _)))))⟩
end Go.Proofs.YtldhkbiomingbaaGreatDoor.F

namespace Go.Proofs.YtldhkbiomingbaaGreatDoor.F
open Go.Proofs.YtldhkbiomingbaaGreatDoor
open Go.RowKit Go.YW.PrintWords Go.YW.PrintLast Go.YW.PrintMore Go.Lib
attribute [local go_sem] max2_int min2_int
theorem place_call {W:World} {Ag:Option Addr} {cg:Nat} {cs:List Int} (hl:cs.length ≤ 1000) (hc:cs.length ≤ cg) (hC:(Kd.int .u8).C W Ag cs.length cs) (w h n:Int) :
  Calls Tryz.prog 56 #[.agg #[.int .i64 w,.int .i64 h,.slice Ag cs.length cg],.int .u8 n] W fun e w'=>e = .returned (.int .i64 (placeI n cs)) ∧ Below W.heap.size W w':=by
 obtain ⟨K,hK⟩:=tiPlace_ev hl w h n
 exact spec_tiPlace.calls K w h Ag cg cs n _ W hC hc (hK K (Nat.le_refl _))
def StateC (W:World) (b o i:Nat) (w h:Nat) (s:RS):Prop:=∃ p Ag cg Ax cx,W.cell? ⟨b,o + i,none⟩ = some (.pointer (some ⟨p,0,none⟩)) ∧
 W.cell? ⟨p,0,none⟩ = some (.int .i64 w) ∧ W.cell? ⟨p,1,none⟩ = some (.int .i64 h) ∧ W.cell? ⟨p,2,none⟩ = some (.slice Ag (s.T.getD i []).length cg) ∧ W.cell? ⟨p,3,none⟩ = some (.string (textB (w,h,s.T.getD i []))) ∧ W.cell? ⟨p,4,none⟩ = some (.int .i64 ((s.F.getD i 0:Nat):Int)) ∧
 W.cell? ⟨p,5,none⟩ = some (.int .i64 ((waysL s).getD i 0)) ∧ W.cell? ⟨p,8,none⟩ = some (.slice Ax (s.N.getD i []).length cx) ∧
 (s.T.getD i []).length ≤ cg ∧ (Kd.int .u8).C W Ag (s.T.getD i []).length (s.T.getD i []) ∧ (Kd.int .i64).C W Ax (s.N.getD i []).length (castsI (s.N.getD i [])) ∧ (s.T.getD i []).length ≤ 1000
theorem nodesOf_get {w h:Nat} {s:RS} {i:Nat} (hi:i < (nodesOf w h s).length):(nodesOf w h s)[i] = nodeF (txG w h) w h s (waysL s) [] i:=nodesL_get hi
theorem state_of {W:World} {b o i w h:Nat} {cs:List Int} {s:RS} (o2:RS.Ok2 w h cs s.T.length s) (hi:i < (nodesOf w h s).length) (hn:NodeC W b o i ((nodesOf w h s)[i]'hi)):StateC W b o i w h s:=by
 rw [nodesOf_get] at hn
 have hil:i < s.T.length:=by rw [nodesOf_len] at hi;exact hi
 obtain ⟨p,Ag,cg,Ax,cx,zp,z0,z1,z2,z3,z4,z5,z6,z7,z8,h1,h2,h3,h4⟩:=hn
 have hnx:(nodeF (txG w h) w h s (waysL s) [] i).next = castsI (s.N.getD i []):=by
  show castsI (if i < s.N.length then s.N.getD i [] else if i = s.N.length then [] else []) = _
  rw [if_pos (by rw [o2.lN];exact hil)]
 rw [hnx,castsI_length] at z8 h4
 have v:=o2.ok.tray _ (getD_mem (d:=([]:List Int)) hil)
 have hs:=(tray_small v).2
 exact ⟨p,Ag,cg,Ax,cx,zp,z0,z1,z2,z3,z4,z5,z8,h1,h2,h4,Nat.le_trans hs d_c⟩
theorem states_open {w1:World} {base:Nat} {v:Value} {w h:Nat} {cs:List Int} {s:RS} (o2:RS.Ok2 w h cs s.T.length s) (hR:Kd.R (ptrK 77 nodeK) 73 w1 base (fun _=>True) v (nodesOf w h s)) :
  ∃ b o c,v = .slice (some ⟨b,o,none⟩) s.T.length c ∧ s.T.length ≤ c ∧ ∀ W',Below w1.heap.size w1 W' → ∀ i,i < s.T.length → StateC W' b o i w h s:=by
 obtain ⟨b,o,c,e,hc,_,hat⟩:=nodes_open hR (nodesOf_ne o2.ok)
 rw [nodesOf_len] at e hc
 exact ⟨b,o,c,e,hc,fun W' hB i hi=>state_of o2 (by rw [nodesOf_len];exact hi) (hat W' hB i (by rw [nodesOf_len];exact hi))⟩
def PuAns (t n:ByteArray) (goal:Int) (v:Value) (w':World) (base:Nat):Prop :=
 (puS t n goal = none ∧ v = .slice none 0 0) ∨ ∃ w h s i,puS t n goal = some (w,h,s,i) ∧ Kd.R (ptrK 77 nodeK) 73 w' base (fun _=>True) v (nodesOf w h s)
theorem name_byte {n:ByteArray} (h:oneName n = true):n.size = 1:=by
 unfold oneName at h
 rw [Bool.and_eq_true] at h
 exact of_decide_eq_true h.1
theorem puz_name {t n:ByteArray} {goal:Int} (h:puzB t n goal = true):oneName n = true:=by
 unfold puzB at h
 split at h
 ·cases h
 ·split at h
  ·rename_i hh;exact hh.1
  ·cases h
theorem puStates_calls (t nm:ByteArray) (goal r1:Int) (r2:Bool) (hr:puFar t nm goal = (r1,r2)) (w:World) :
  Calls Tryz.prog 53 #[.agg #[.string t,.string nm,.int .i64 goal]] w fun e w'=>∃ v,e = .returned (.tuple #[v,.int .i64 r1,.bool r2]) ∧ PuAns t nm goal v w' w.heap.size ∧ Below w.heap.size w w':=by
 obtain ⟨K,hK⟩:=spec_puGood_ev t nm goal
 have HGD:=am (hK K (Nat.le_refl _))
 have HB:=am (Below.refl w.heap.size w)
 have HR:=am hr
 clear hK hr
 cases hp:puzB t nm goal with
 | false =>
  rw [hp] at HGD
  have HN:=am (show puS t nm goal = none by unfold puS;rw [hp];rfl)
  obtain ⟨rfl,rfl⟩:0 = r1 ∧ false = r2:=by have h:=HR.out;unfold puFar at h;rw [HN.out] at h;injection h with h1 h2;exact ⟨h1,h2⟩
  go_enter Tryz.func53,Tryz.ntmps53
  go_wp2_with (first
   | (refine bx 1 #[.string t,.string nm,.int .i64 goal] 30 ?_;intro b1 hg1 w1 hbox1 hb1;have z0:w1.cell? ⟨b1,0,none⟩ = some (.string t):=(blk_cell hbox1 0).trans rfl;have z1:w1.cell? ⟨b1,1,none⟩ = some (.string nm):=(blk_cell hbox1 1).trans rfl;have z2:w1.cell? ⟨b1,2,none⟩ = some (.int .i64 goal):=(blk_cell hbox1 2).trans rfl;have HB1:=am (below_step HB.out hb1);clear hg1 hbox1 hb1)
   | (go_at_call 92;refine (spec_puGood.calls K t nm goal _ _ HGD.out).mono ?_;rintro e w2 ⟨rfl,hb2⟩;have HB2:=am (below_step HB1.out hb2);clear hb2 z0 z1 z2))
  go_ret3
  exact ⟨_,rfl,.inl ⟨HN.out,rfl⟩,HB2.out⟩
 | true =>
  rw [hp] at HGD
  have HP:=am hp
  have HSZ:=am (name_byte (puz_name hp))
  clear hp
  cases hs:srch t with
  | none =>
   have HN:=am (show puS t nm goal = none by unfold puS;rw [if_pos HP.out,hs];rfl)
   have HS:=am (show (srch t).isSome = false by rw [hs];rfl)
   obtain ⟨rfl,rfl⟩:0 = r1 ∧ false = r2:=by have h:=HR.out;unfold puFar at h;rw [HN.out] at h;injection h with h1 h2;exact ⟨h1,h2⟩
   clear hs
   go_enter Tryz.func53,Tryz.ntmps53
   go_wp2_with (first
    | (refine bx 1 #[.string t,.string nm,.int .i64 goal] 30 ?_;intro b1 hg1 w1 hbox1 hb1;have z0:w1.cell? ⟨b1,0,none⟩ = some (.string t):=(blk_cell hbox1 0).trans rfl;have z1:w1.cell? ⟨b1,1,none⟩ = some (.string nm):=(blk_cell hbox1 1).trans rfl;have z2:w1.cell? ⟨b1,2,none⟩ = some (.int .i64 goal):=(blk_cell hbox1 2).trans rfl;have X1:=am hbox1;have HB1:=am (below_step HB.out hb1);clear hg1 hbox1 hb1)
    | (go_at_call 92;refine (spec_puGood.calls K t nm goal _ _ HGD.out).mono ?_;rintro e w2 ⟨rfl,hb2⟩;have y0:w2.cell? ⟨b1,0,none⟩ = some (.string t):=(blk_cell (blk_below X1.out hb2) 0).trans rfl;have HB2:=am (below_step HB1.out hb2);clear hb2 z0 z1 z2)
    | (go_at_call 72;refine (reAll_calls t false HS.out _).mono ?_;rintro e w3 ⟨v3,rfl,ha3,hb3⟩;have HB3:=am (below_step HB2.out hb3);clear ha3 hb3))
   go_ret3
   exact ⟨_,rfl,.inl ⟨HN.out,rfl⟩,HB3.out⟩
  | some q =>
   obtain ⟨gw,gh,s⟩:=q
   obtain ⟨cs,_,_,_,_,o2⟩:=srch_some hs
   have HS:=am (show (srch t).isSome = true by rw [hs];rfl)
   have HSR:=am hs
   have HO2:=am o2
   have hnm:(0:Int) < (nm.size:Int):=by have:=HSZ.out;omega
   have hnm2:0 < nm.size:=by have:=HSZ.out;omega
   have hbt:∀ h:0 < nm.size,((nm[0]'h).toNat:Int) = bt nm 0:=bt_at nm 0
   have hq0:((0:Int) < (nm.size:Int)) = True:=eq_true hnm
   clear hs o2
   go_enter Tryz.func53,Tryz.ntmps53
   go_wp2_with (first
    | (refine bx 1 #[.string t,.string nm,.int .i64 goal] 30 ?_;intro b1 hg1 w1 hbox1 hb1;have z0:w1.cell? ⟨b1,0,none⟩ = some (.string t):=(blk_cell hbox1 0).trans rfl;have z1:w1.cell? ⟨b1,1,none⟩ = some (.string nm):=(blk_cell hbox1 1).trans rfl;have z2:w1.cell? ⟨b1,2,none⟩ = some (.int .i64 goal):=(blk_cell hbox1 2).trans rfl;have X1:=am hbox1;have HB1:=am (below_step HB.out hb1);clear hg1 hbox1 hb1)
    | (go_at_call 92;refine (spec_puGood.calls K t nm goal _ _ HGD.out).mono ?_;rintro e w2 ⟨rfl,hb2⟩;have y0:w2.cell? ⟨b1,0,none⟩ = some (.string t):=(blk_cell (blk_below X1.out hb2) 0).trans rfl;have X2:=am (blk_below X1.out hb2);have HB2:=am (below_step HB1.out hb2);clear hb2 z0 z1 z2)
    | (go_at_call 72;refine (reAll_calls t true HS.out _).mono ?_;rintro e w3 ⟨v3,rfl,ha3,hb3⟩;have HA3:=am ha3;have X3:=am (blk_below X2.out hb3);have HB3:=am (below_step HB2.out hb3);have HW2:=am HB2.out.size;clear ha3 hb3 y0;obtain ⟨b,o,c,hv3,hst⟩:∃ b o c,v3 = .slice (some ⟨b,o,none⟩) s.T.length c ∧ ((∀ W',Below w3.heap.size w3 W' → ∀ i,i < s.T.length → StateC W' b o i gw gh s) ∧ Kd.R (ptrK 77 nodeK) 73 w3 w.heap.size (fun _=>True) v3 (nodesOf gw gh s)):=(by rcases HA3.out with ⟨h,_⟩ | ⟨w',h',s',h,hR⟩;exact absurd (h.symm.trans HSR.out) (by simp);rw [HSR.out] at h;injection h with h;injection h with h1 h2;injection h2 with h2 h3;subst h1 h2 h3;obtain ⟨b,o,c,e,_,hat⟩:=states_open HO2.out hR;exact ⟨b,o,c,e,hat,Kd.R_lower hR HW2.out⟩);subst hv3;have HST:=am hst;clear hst HA3 HW2))
   go_loopw [22] (fun v22 wr=>∃ i:Nat,i ≤ s.T.length ∧ v22 = .int .i64 i ∧ Aside0 (∀ j,j < i → j < s.T.length → placeI (bt nm 0) (s.T.getD j []) ≠ goal) ∧ Aside0 (Below w3.heap.size w3 wr)) (fun v22 _=>s.T.length - (intOf v22).toNat)
   case atStart=>exact ⟨0,Nat.zero_le _,rfl,⟨fun j hj=>absurd hj (Nat.not_lt_zero j)⟩,⟨Below.refl _ _⟩⟩
   case round =>
    obtain ⟨i,hi,rfl,HF,HQ⟩:=hrel
    by_cases hlt:i < s.T.length
    rotate_left
    ·have hge:¬ (i:Int) < (s.T.length:Int):=by omega
     obtain rfl:i = s.T.length:=by omega
     have hno:=goalAt_none (fun j hj=>HF.out j hj hj)
     have HN:=am (show puS t nm goal = none by
      unfold puS
      rw [if_pos HP.out,HSR.out]
      show (if goalAt s (bt nm 0) goal < s.T.length then _ else none) = none
      rw [if_neg (by rw [hno];omega)])
     obtain ⟨rfl,rfl⟩:0 = r1 ∧ false = r2:=by have h:=HR.out;unfold puFar at h;rw [HN.out] at h;injection h with h1 h2;exact ⟨h1,h2⟩
     clear hno
     go_wp2
     go_ret3
     exact ⟨_,rfl,.inl ⟨HN.out,rfl⟩,below_step HB3.out HQ.out⟩
    have hltI:(i:Int) < (s.T.length:Int):=by omega
    obtain ⟨p,Ag,cg,Ax,cx,zp,z0,z1,z2,_,z4,_,_,hcg,hCg,_,hl⟩:=HST.out.1 wr HQ.out i hlt
    have y1:wr.cell? ⟨b1,1,none⟩ = some (.string nm):=(blk_cell (blk_below X3.out HQ.out) 1).trans rfl
    have y2:wr.cell? ⟨b1,2,none⟩ = some (.int .i64 goal):=(blk_cell (blk_below X3.out HQ.out) 2).trans rfl
    have HL:=am hlt
    have HCG:=am (And.intro hcg (And.intro hCg hl))
    have hw1:IntKind.i64.wrap ((i:Int) + 1) = ((i + 1:Nat):Int):=by rw [IntKind.wrap_i64];have:=HO2.out.ok.most;omega
    obtain ⟨cg0,hcg0⟩:∃ c,s.T.getD i [] = c:=⟨_,rfl⟩
    obtain ⟨fi,hfi⟩:∃ f,s.F.getD i 0 = f:=⟨_,rfl⟩
    rw [hcg0] at z2 HCG
    rw [hfi] at z4
    have HC0:=am hcg0
    have HFI:=am hfi
    clear hcg hCg hl hlt hi hcg0 hfi
    have hz:wr.cell? ⟨p,0,none⟩ = some (.int .i64 gw) ∧ wr.cell? ⟨p,1,none⟩ = some (.int .i64 gh) ∧ wr.cell? ⟨p,2,none⟩ = some (.slice Ag cg0.length cg) ∧ wr.cell? ⟨b1,1,none⟩ = some (.string nm) ∧ wr.cell? ⟨b1,2,none⟩ = some (.int .i64 goal):=⟨z0,z1,z2,y1,y2⟩
    have HZ:=am hz
    have HZ4:=am z4
    clear hz z0 z1 z2 y1 y2 z4
    go_wp2
    go_region_held3 (fun w'=>w'.cell? ⟨p,0,none⟩ = some (.int .i64 gw) ∧ w'.cell? ⟨p,1,none⟩ = some (.int .i64 gh) ∧ w'.cell? ⟨p,2,none⟩ = some (.slice Ag cg0.length cg) ∧ w'.cell? ⟨b1,1,none⟩ = some (.string nm) ∧ w'.cell? ⟨b1,2,none⟩ = some (.int .i64 goal)) (first | exact HZ.out | exact HZ1.out | go_keep)
     ((first
      | (go_simp;go_at_call 56;refine (place_call HCG.out.2.2 HCG.out.1 (by exact HCG.out.2.1) _ _ _).mono ?_;rintro e w4 ⟨rfl,hb4⟩;have HB4:=am (show Below wr.heap.size wr w4 from ⟨hb4.os,hb4.tape,hb4.output,hb4.size,hb4.block⟩);have HZ1:Aside0 (_ ∧ _ ∧ _ ∧ _ ∧ _):=⟨by have hh:=HZ.out;exact ⟨(HB4.out.cell (World.block_lt_of_cell? wr _ hh.1)).trans hh.1,(HB4.out.cell (World.block_lt_of_cell? wr _ hh.2.1)).trans hh.2.1,(HB4.out.cell (World.block_lt_of_cell? wr _ hh.2.2.1)).trans hh.2.2.1,(HB4.out.cell (World.block_lt_of_cell? wr _ hh.2.2.2.1)).trans hh.2.2.2.1,(HB4.out.cell (World.block_lt_of_cell? wr _ hh.2.2.2.2)).trans hh.2.2.2.2⟩⟩;clear hb4)))
    have HQ4:=am (below_step HQ.out HB4.out)
    obtain ⟨pl,hpl⟩:∃ pl,placeI (bt nm 0) cg0 = pl:=⟨_,rfl⟩
    rw [hpl]
    by_cases he:pl = goal
    rotate_left
    ·have heb:(pl == goal) = false:=beq_eq_false_iff_ne.2 he
     have HNO:=am (fun j hj hjl=>by
      by_cases e:j = i
      ·subst e;rw [HC0.out,hpl];exact he
      ·exact HF.out j o_m hjl:∀ j,j < i + 1 → j < s.T.length → placeI (bt nm 0) (s.T.getD j []) ≠ goal)
     clear hpl he
     go_wp2
     go_roundw
     case rel=>exact ⟨i + 1,HL.out,by first | rfl | simp,HNO,HQ4⟩
     case measure=>have:=HL.out;simp [intOf];omega
    have heb:(pl == goal) = true:=beq_iff_eq.2 he
    have z4:w4.cell? ⟨p,4,none⟩ = some (.int .i64 (fi:Int)):=(HB4.out.cell (World.block_lt_of_cell? wr _ HZ4.out)).trans HZ4.out
    have hat:goalAt s (bt nm 0) goal = i:=goalAt_of HF.out HL.out (by rw [HC0.out,hpl,he])
    have HPS:=am (show puS t nm goal = some (gw,gh,s,i) by
     unfold puS
     rw [if_pos HP.out,HSR.out]
     show (if goalAt s (bt nm 0) goal < s.T.length then some (gw,gh,s,goalAt s (bt nm 0) goal) else none) = _
     rw [hat,if_pos HL.out])
    obtain ⟨rfl,rfl⟩:(fi:Int) = r1 ∧ decide (fi ≤ 40) = r2:=by
     have h:=HR.out
     unfold puFar at h
     rw [HPS.out] at h
     simp only at h
     rw [HFI.out] at h
     injection h with h1 h2
     exact ⟨h1,h2⟩
    clear hpl he hat
    have HDC:=am (show decide ((fi:Int) ≤ 40) = decide (fi ≤ 40) from by by_cases h:fi ≤ 40 <;> simp [h] <;> omega)
    go_wp2
    go_region_held3 (fun w'=>w'.cell? ⟨p,4,none⟩ = some (.int .i64 (fi:Int))) (first | go_keep) ((first | fail))
    go_wp2
    go_ret3
    refine ⟨.slice (some ⟨b,o,none⟩) s.T.length c,by rw [← HDC.out];rfl,.inr ⟨gw,gh,s,i,HPS.out,Kd.R_drew (Kd.R_below HST.out.2 HQ4.out)⟩,below_drew1 (below_step HB3.out HQ4.out)⟩

end Go.Proofs.YtldhkbiomingbaaGreatDoor.F

namespace Go.Proofs.YtldhkbiomingbaaGreatDoor.F
open Go.Proofs.YtldhkbiomingbaaGreatDoor
open Go.RowKit Go.YW.PrintWords Go.YW.PrintLast Go.YW.PrintMore
attribute [local go_sem] max2_int min2_int max_two min_two max_three min_three max_four min_four
def laws_szPuzzle.f (a0_0:ByteArray) (a0_1:ByteArray) (a0_2:Int) (a1:Int):Option (Int):=if (wrap64 (a1 - (a0_0.size:Int))) < 0 then (some (-1)) else (if (wrap64 ((wrap64 (a1 - (a0_0.size:Int))) - (a0_1.size:Int))) < 0 then (some (-1)) else (some (wrap64 ((wrap64 (a1 - (a0_0.size:Int))) - (a0_1.size:Int)))))
theorem laws_szPuzzle.calls (a0_0:ByteArray) (a0_1:ByteArray) (a0_2:Int) (a1:Int) (r:Int) (w:World) (h:laws_szPuzzle.f a0_0 a0_1 a0_2 a1 = some r) :
  Calls Tryz.prog 16 #[.agg #[.string a0_0,.string a0_1,.int .i64 a0_2],.int .i64 a1] w fun e w'=>e = .returned (.int .i64 r) ∧ Below w.heap.size w w':=by
 have hu26:=Tryz.underlying26
 have HB:=am (Below.refl w.heap.size w)
 have H:(if (wrap64 (a1 - (a0_0.size:Int))) < 0 then (some (-1)) else (if (wrap64 ((wrap64 (a1 - (a0_0.size:Int))) - (a0_1.size:Int))) < 0 then (some (-1)) else (some (wrap64 ((wrap64 (a1 - (a0_0.size:Int))) - (a0_1.size:Int)))))) = some r:=h
 clear h
 by_cases c3:(wrap64 (a1 - (a0_0.size:Int))) < 0
 ·rw [if_pos c3] at H
  have c3b0:=decide_eq_true c3
  clear c3
  obtain rfl:=Option.some.inj H
  go_enter Tryz.func16,Tryz.ntmps16
  go_wp2_with (first | (refine bx 2 #[.string a0_0,.string a0_1,.int .i64 a0_2] 26 ?_;intro gb101 hg w4 hbox hb;have BK101:=am (hbox);have GW101:=am ((by rw [hg];exact (below_size aq2):w.heap.size ≤ gb101));have GE101:=GW101;replace HB:=am (below_step aq2 hb);clear hb hbox hg;obtain ⟨hcz5_0,hcz5_1,hcz5_2,hfz5_0,hfz5_1,hfz5_2⟩:=blk3_ BK101.out))
  go_ret
  exact ⟨aq8,aq0⟩
 rw [if_neg c3] at H
 have c3b0:=decide_eq_false c3
 clear c3
 by_cases c6:(wrap64 ((wrap64 (a1 - (a0_0.size:Int))) - (a0_1.size:Int))) < 0
 rotate_left
 ·rw [if_neg c6] at H
  have c6b0:=decide_eq_false c6
  clear c6
  obtain rfl:=Option.some.inj H
  go_enter Tryz.func16,Tryz.ntmps16
  go_wp2_with (first | (refine bx 2 #[.string a0_0,.string a0_1,.int .i64 a0_2] 26 ?_;intro gb101 hg w9 hbox hb;have BK101:=am (hbox);have GW101:=am ((by rw [hg];exact (below_size aq2):w.heap.size ≤ gb101));have GE101:=GW101;replace HB:=am (below_step aq2 hb);clear hb hbox hg;obtain ⟨hcz10_0,hcz10_1,hcz10_2,hfz10_0,hfz10_1,hfz10_2⟩:=blk3_ BK101.out))
  go_ret
  exact ⟨aq8,aq0⟩
 rw [if_pos c6] at H
 have c6b0:=decide_eq_true c6
 clear c6
 obtain rfl:=Option.some.inj H
 go_enter Tryz.func16,Tryz.ntmps16
 go_wp2_with (first | (refine bx 2 #[.string a0_0,.string a0_1,.int .i64 a0_2] 26 ?_;intro gb101 hg w7 hbox hb;have BK101:=am (hbox);have GW101:=am ((by rw [hg];exact (below_size aq2):w.heap.size ≤ gb101));have GE101:=GW101;replace HB:=am (below_step aq2 hb);clear hb hbox hg;obtain ⟨hcz8_0,hcz8_1,hcz8_2,hfz8_0,hfz8_1,hfz8_2⟩:=blk3_ BK101.out))
 go_ret
 exact ⟨aq8,aq0⟩
def laws_toPuzzle.f (a0_0:ByteArray) (a0_1:ByteArray) (a0_2:Int):Option (ByteArray × ByteArray × Int):=some (a0_0,a0_1,a0_2)
theorem laws_toPuzzle.calls (a0_0:ByteArray) (a0_1:ByteArray) (a0_2:Int) (r1:ByteArray) (r2:ByteArray) (r3:Int) (w:World) (h:laws_toPuzzle.f a0_0 a0_1 a0_2 = some (r1,r2,r3)) :
  Calls Tryz.prog 18 #[.agg #[.string a0_0,.string a0_1,.int .i64 a0_2]] w fun e w'=>e = .returned (.agg #[.string r1,.string r2,.int .i64 r3]) ∧ Below w.heap.size w w':=by
 have hu26:=Tryz.underlying26
 have hu30:=Tryz.underlying30
 have HB:=am (Below.refl w.heap.size w)
 have H:(some (a0_0,a0_1,a0_2)) = some (r1,r2,r3):=h
 clear h
 simp only [Option.some.injEq,Prod.mk.injEq] at H
 obtain ⟨rfl,rfl,rfl⟩:=H
 go_enter Tryz.func18,Tryz.ntmps18
 go_wp2_with (first | (refine bx 1 #[.string a0_0,.string a0_1,.int .i64 a0_2] 26 ?_;intro gb101 hg w2 hbox hb;have BK101:=am (hbox);have GW101:=am ((by rw [hg];exact (below_size aq2):w.heap.size ≤ gb101));have GE101:=GW101;replace HB:=am (below_step aq2 hb);clear hb hbox hg) | (refine bx 2 #[.string (⟨#[]⟩:ByteArray),.string (⟨#[]⟩:ByteArray),.int .i64 0] 30 ?_;intro gb102 hg w3 hbox hb;have BK102:=am (hbox);have GW102:=am ((by rw [hg];exact (below_size aq0):w.heap.size ≤ gb102));have GE102:=GW102;replace HB:=am (below_step aq0 hb);have NB101_102:=am ((by rw [hg];exact Nat.ne_of_lt (blk_lt (g:=gb101) (o:=.cells #[.string a0_0,.string a0_1,.int .i64 a0_2] 26 (0,0)) aq1):gb101 ≠ gb102));have NB102_101:=am ((by rw [hg];exact Nat.ne_of_gt (blk_lt (g:=gb101) (o:=.cells #[.string a0_0,.string a0_1,.int .i64 a0_2] 26 (0,0)) aq1):gb102 ≠ gb101));replace BK101:=am (bb BK101 hb);clear hb hbox hg) | (refine bx 3 #[.string (⟨#[]⟩:ByteArray),.string (⟨#[]⟩:ByteArray),.int .i64 0] 30 ?_;intro gb103 hg w4 hbox hb;have BK103:=am (hbox);have GW103:=am ((by rw [hg];exact (below_size aq3):w.heap.size ≤ gb103));have GE103:=GW103;replace HB:=am (below_step aq3 hb);have NB101_103:=am ((by rw [hg];exact Nat.ne_of_lt (blk_lt (g:=gb101) (o:=.cells #[.string a0_0,.string a0_1,.int .i64 a0_2] 26 (0,0)) aq1):gb101 ≠ gb103));have NB103_101:=am ((by rw [hg];exact Nat.ne_of_gt (blk_lt (g:=gb101) (o:=.cells #[.string a0_0,.string a0_1,.int .i64 a0_2] 26 (0,0)) aq1):gb103 ≠ gb101));replace BK101:=am (bb BK101 hb);have NB102_103:=am ((by rw [hg];exact Nat.ne_of_lt (blk_lt (g:=gb102) (o:=.cells #[.string (⟨#[]⟩:ByteArray),.string (⟨#[]⟩:ByteArray),.int .i64 0] 30 (0,0)) aq9):gb102 ≠ gb103));have NB103_102:=am ((by rw [hg];exact Nat.ne_of_gt (blk_lt (g:=gb102) (o:=.cells #[.string (⟨#[]⟩:ByteArray),.string (⟨#[]⟩:ByteArray),.int .i64 0] 30 (0,0)) aq9):gb103 ≠ gb102));replace BK102:=am (blk_below (g:=gb102) (o:=.cells #[.string (⟨#[]⟩:ByteArray),.string (⟨#[]⟩:ByteArray),.int .i64 0] 30 (0,0)) aq9 hb);clear hb hbox hg;have hnb5:=NB101_102.out;have hnc5:=NB102_101.out;have hnb6:=NB101_103.out;have hnc6:=NB103_101.out;obtain ⟨hcz7_0,hcz7_1,hcz7_2,hfz7_0,hfz7_1,hfz7_2⟩:=blk3_ BK101.out;have hnb8:=NB103_102.out;have hnc8:=NB102_103.out;obtain ⟨hcz9_0,hcz9_1,hcz9_2,hfz9_0,hfz9_1,hfz9_2⟩:=blk3_ BK103.out;obtain ⟨hcz10_0,hcz10_1,hcz10_2,hfz10_0,hfz10_1,hfz10_2⟩:=blk3_ BK102.out))
 refine bodyPost_ret (results_cell_row rfl _ _ gb102 30 #[.string a0_0,.string a0_1,.int .i64 a0_2] (0,0) _ rfl (by (with_reducible repeat (first | refine blk_drewN ?_ _ | refine blk_drew ?_ | refine blk_alloc ?_ _));refine blk_put (cs:=#[.string a0_0,.string a0_1,.int .i64 0]) ?_ 2 _ rfl;(with_reducible repeat (first | refine blk_drewN ?_ _ | refine blk_drew ?_ | refine blk_alloc ?_ _));refine blk_put (cs:=#[.string a0_0,.string (⟨#[]⟩:ByteArray),.int .i64 0]) ?_ 1 _ rfl;(with_reducible repeat (first | refine blk_drewN ?_ _ | refine blk_drew ?_ | refine blk_alloc ?_ _));refine blk_put (cs:=#[.string (⟨#[]⟩:ByteArray),.string (⟨#[]⟩:ByteArray),.int .i64 0]) ?_ 0 _ rfl;(with_reducible repeat (first | refine blk_drewN ?_ _ | refine blk_drew ?_ | refine blk_alloc ?_ _));refine blk_far ?_ NB102_103.out _;(with_reducible repeat (first | refine blk_drewN ?_ _ | refine blk_drew ?_ | refine blk_alloc ?_ _));refine blk_far ?_ NB102_103.out _;(with_reducible repeat (first | refine blk_drewN ?_ _ | refine blk_drew ?_ | refine blk_alloc ?_ _));refine blk_far ?_ NB102_103.out _;(with_reducible repeat (first | refine blk_drewN ?_ _ | refine blk_drew ?_ | refine blk_alloc ?_ _));exact BK102.out) Tryz.underlying30 rfl k_r) rfl ?_
 exact ⟨aq8,by repeat (first | (with_reducible first | exact HB.out | apply below_alloc | apply pw_below_drewN | apply below_drew1 | refine below_set ?_ GE101.out | refine below_set ?_ GE102.out | refine below_set ?_ GE103.out) | exact HB.out)⟩

end Go.Proofs.YtldhkbiomingbaaGreatDoor.F

namespace Go.Proofs.YtldhkbiomingbaaGreatDoor.F
open Go.RowKit Go.Proofs.YtldhkbiomingbaaGreatDoor Go.YW.PrintWords Go.YW.PrintMore
theorem szPuzzle_ok {t n:ByteArray} {g:Int} (ht:t.size ≤ 9223372036854775807) (hn:n.size ≤ 9223372036854775807):∃ r,laws_szPuzzle.f t n g 1048576 = some r ∧ (0 ≤ r → t.size ≤ 1048576 ∧ n.size ≤ 1048576):=by
 unfold laws_szPuzzle.f
 have e1:wrap64 (1048576 - (t.size:Int)) = 1048576 - (t.size:Int):=w64 o_m o_m
 rw [e1]
 by_cases h1:1048576 - (t.size:Int) < 0
 ·rw [if_pos h1]
  exact ⟨-1,rfl,fun h=>by omega⟩
 rw [if_neg h1]
 have e2:wrap64 (1048576 - (t.size:Int) - (n.size:Int)) = 1048576 - (t.size:Int) - (n.size:Int):=w64 o_m o_m
 rw [e2]
 by_cases h2:1048576 - (t.size:Int) - (n.size:Int) < 0
 rotate_left
 ·rw [if_neg h2]
  exact ⟨_,rfl,fun h=>by omega⟩
 rw [if_pos h2]
 exact ⟨-1,rfl,fun h=>by omega⟩
end Go.Proofs.YtldhkbiomingbaaGreatDoor.F

namespace Go.Proofs.YtldhkbiomingbaaGreatDoor.F
open Go.Proofs.YtldhkbiomingbaaGreatDoor
open Go.RowKit Go.YW.PrintWords Go.YW.PrintLast Go.YW.PrintMore Go.Lib
def spec_puStates.f (t n:ByteArray) (goal:Int):Option (List Node × Int × Bool):=some (match puS t n goal with | none=>([],0,false) | some q=>(nodesOf q.1 q.2.1 q.2.2.1,((q.2.2.1.F.getD q.2.2.2 0:Nat):Int),decide (q.2.2.1.F.getD q.2.2.2 0 ≤ 40)))
theorem spec_puStates.calls (a0_0 a0_1:ByteArray) (a0_2:Int) (r1:List Node) (r2:Int) (r3:Bool) (w:World) (h:spec_puStates.f a0_0 a0_1 a0_2 = some (r1,r2,r3)) :
  Calls Tryz.prog 53 #[.agg #[.string a0_0,.string a0_1,.int .i64 a0_2]] w fun e w'=>∃ v0_:Value,e = .returned (.tuple #[v0_,.int .i64 r2,.bool r3]) ∧ Kd.R (ptrK 77 nodeK) 73 w' w.heap.size (fun _=>True) v0_ r1 ∧ Below w.heap.size w w':=by
 have h':=Option.some.inj h
 have hb:puFar a0_0 a0_1 a0_2 = (r2,r3):=by
  unfold puFar
  cases hs:puS a0_0 a0_1 a0_2 with
  | none=>rw [hs] at h';exact (Prod.mk.inj h').2
  | some q=>rw [hs] at h';exact (Prod.mk.inj h').2
 refine (puStates_calls a0_0 a0_1 a0_2 r2 r3 hb w).mono ?_
 rintro e w' ⟨v,rfl,ha,hB⟩
 refine ⟨v,rfl,?_,hB⟩
 rcases ha with ⟨hn,rfl⟩ | ⟨gw,gh,s,i,hn,hR⟩
 ·rw [hn] at h'
  rw [← (Prod.mk.inj h').1]
  exact Kd.R_nil _ _ _ _ _
 ·rw [hn] at h'
  rw [← (Prod.mk.inj h').1]
  exact hR
end Go.Proofs.YtldhkbiomingbaaGreatDoor.F

namespace Go.Proofs.YtldhkbiomingbaaGreatDoor.F
open Go.Proofs.YtldhkbiomingbaaGreatDoor
open Go.RowKit Go.YW.PrintWords Go.YW.PrintLast Go.YW.PrintMore Go.Lib
attribute [local go_sem] max2_int min2_int
def cntN (s:RS) (n goal:Int) (far:Nat) (i:Nat):Int:=(List.range i).foldl (fun a k=>if s.F.getD k 0 = far ∧ placeI n (s.T.getD k []) = goal then wrap64 (a + (waysL s).getD k 0) else a) 0
theorem cntN_succ (s:RS) (n goal:Int) (far i:Nat):cntN s n goal far (i + 1) = if s.F.getD i 0 = far ∧ placeI n (s.T.getD i []) = goal then wrap64 (cntN s n goal far i + (waysL s).getD i 0) else cntN s n goal far i:=by
 unfold cntN
 rw [List.range_succ,List.foldl_append];rfl
def cntA (t n:ByteArray) (goal:Int):Int × Bool:=match puS t n goal with
 | none=>(0,false)
 | some q=>if q.2.2.1.F.getD q.2.2.2 0 ≤ 40 then (cntN q.2.2.1 (bt n 0) goal (q.2.2.1.F.getD q.2.2.2 0) q.2.2.1.T.length,true) else (0,false)
def spec_CountSolutions.f (t n:ByteArray) (goal:Int):Option (Int × Bool):=some (cntA t n goal)
theorem spec_CountSolutions.calls (a0_0 a0_1:ByteArray) (a0_2:Int) (r1:Int) (r2:Bool) (w:World) (h:spec_CountSolutions.f a0_0 a0_1 a0_2 = some (r1,r2)) :
  Calls Tryz.prog 22 #[.agg #[.string a0_0,.string a0_1,.int .i64 a0_2]] w fun e w'=>e = .returned (.tuple #[.int .i64 r1,.bool r2]) ∧ Below w.heap.size w w':=by
 have HR:=am (show cntA a0_0 a0_1 a0_2 = (r1,r2) from Option.some.inj h)
 have HB:=am (Below.refl w.heap.size w)
 clear h
 obtain ⟨⟨q0,q1,q2⟩,hq⟩:∃ q,spec_puStates.f a0_0 a0_1 a0_2 = some q:=⟨_,rfl⟩
 have HP:=am hq
 cases q2 with
 | false =>
  obtain ⟨rfl,rfl⟩:0 = r1 ∧ false = r2:=by
   have h:=HR.out
   have h2:=Option.some.inj hq
   unfold cntA at h
   cases hs:puS a0_0 a0_1 a0_2 with
   | none=>rw [hs] at h;exact Prod.mk.inj h
   | some q =>
    rw [hs] at h h2
    have h3:=of_decide_eq_false (Prod.mk.inj (Prod.mk.inj h2).2).2
    simp only [if_neg h3] at h
    exact Prod.mk.inj h
  clear hq
  go_enter Tryz.func22,Tryz.ntmps22
  go_wp2_with (first
   | (refine bx 1 #[.string a0_0,.string a0_1,.int .i64 a0_2] 30 ?_;intro b1 hg1 w1 hbox1 hb1;have z0:w1.cell? ⟨b1,0,none⟩ = some (.string a0_0):=(blk_cell hbox1 0).trans rfl;have z1:w1.cell? ⟨b1,1,none⟩ = some (.string a0_1):=(blk_cell hbox1 1).trans rfl;have z2:w1.cell? ⟨b1,2,none⟩ = some (.int .i64 a0_2):=(blk_cell hbox1 2).trans rfl;have HB1:=am (below_step HB.out hb1);clear hg1 hbox1 hb1)
   | (go_at_call 53;refine (spec_puStates.calls a0_0 a0_1 a0_2 _ _ _ _ HP.out).mono ?_;rintro e w2 ⟨v2,rfl,ho2,hb2⟩;obtain ⟨A2,c2,rfl⟩:=Kd.R_slice ho2;have HB2:=am (below_step HB1.out hb2);clear hb2 z0 z1 z2 ho2))
  go_ret2
  exact ⟨rfl,HB2.out⟩
 | true =>
  obtain ⟨gw,gh,s,i0,hps,hle,rfl,rfl⟩:∃ gw gh s i0,puS a0_0 a0_1 a0_2 = some (gw,gh,s,i0) ∧ s.F.getD i0 0 ≤ 40 ∧ q0 = nodesOf gw gh s ∧ q1 = ((s.F.getD i0 0:Nat):Int):=by
   have h2:=Option.some.inj hq
   cases hs:puS a0_0 a0_1 a0_2 with
   | none=>rw [hs] at h2;cases (Prod.mk.inj (Prod.mk.inj h2).2).2
   | some q =>
    obtain ⟨gw,gh,s,i0⟩:=q
    rw [hs] at h2
    obtain ⟨e1,e2⟩:=Prod.mk.inj h2
    obtain ⟨e2,e3⟩:=Prod.mk.inj e2
    exact ⟨gw,gh,s,i0,rfl,of_decide_eq_true e3,e1.symm,e2.symm⟩
  obtain ⟨hpz,hsr,_,_⟩:=puS_some hps
  obtain ⟨cs,_,_,_,_,o2⟩:=srch_some hsr
  obtain ⟨fa,hfa⟩:∃ f,s.F.getD i0 0 = f:=⟨_,rfl⟩
  rw [hfa] at hle HP
  obtain ⟨rfl,rfl⟩:cntN s (bt a0_1 0) a0_2 fa s.T.length = r1 ∧ true = r2:=by
   have h:=HR.out
   unfold cntA at h
   rw [hps] at h
   simp only [hfa,if_pos hle] at h
   exact Prod.mk.inj h
  have HO2:=am o2
  have hz:=name_byte (puz_name hpz)
  have hnm1:(0:Int) < (a0_1.size:Int):=by omega
  have hnm2:0 < a0_1.size:=by omega
  have hbt:∀ h:0 < a0_1.size,((a0_1[0]'h).toNat:Int) = bt a0_1 0:=bt_at a0_1 0
  have hq0:((0:Int) < (a0_1.size:Int)) = True:=eq_true hnm1
  clear hps hsr o2 hpz hz hle hfa hq HR
  go_enter Tryz.func22,Tryz.ntmps22
  go_wp2_with (first
   | (refine bx 1 #[.string a0_0,.string a0_1,.int .i64 a0_2] 30 ?_;intro b1 hg1 w1 hbox1 hb1;have z0:w1.cell? ⟨b1,0,none⟩ = some (.string a0_0):=(blk_cell hbox1 0).trans rfl;have z1:w1.cell? ⟨b1,1,none⟩ = some (.string a0_1):=(blk_cell hbox1 1).trans rfl;have z2:w1.cell? ⟨b1,2,none⟩ = some (.int .i64 a0_2):=(blk_cell hbox1 2).trans rfl;have X1:=am hbox1;have HB1:=am (below_step HB.out hb1);clear hg1 hbox1 hb1)
   | (go_at_call 53;refine (spec_puStates.calls a0_0 a0_1 a0_2 _ _ _ _ HP.out).mono ?_;rintro e w3 ⟨v3,rfl,ho3,hb3⟩;have HB3:=am (below_step HB1.out hb3);have X3:=am (blk_below X1.out hb3);obtain ⟨b,o,c,rfl,hc,hst⟩:=states_open HO2.out ho3;have HST:=am hst;clear hb3 z0 z1 z2 ho3 hst hc))
  go_loopw [7,20] (fun v7 v20 wr=>∃ i:Nat,i ≤ s.T.length ∧ v20 = .int .i64 i ∧ v7 = .int .i64 (cntN s (bt a0_1 0) a0_2 fa i) ∧ Aside0 (Below w3.heap.size w3 wr)) (fun _ v20 _=>s.T.length - (intOf v20).toNat)
  case atStart=>exact ⟨0,Nat.zero_le _,rfl,rfl,⟨Below.refl _ _⟩⟩
  case round =>
   obtain ⟨i,hi,rfl,rfl,HQ⟩:=hrel
   by_cases hlt:i < s.T.length
   rotate_left
   ·have hge:¬ (i:Int) < (s.T.length:Int):=by omega
    obtain rfl:i = s.T.length:=by omega
    go_wp2
    go_ret2
    exact ⟨rfl,below_step HB3.out HQ.out⟩
   have hltI:(i:Int) < (s.T.length:Int):=by omega
   obtain ⟨p,Ag,cg,Ax,cx,zp,z0,z1,z2,_,z4,z5,_,hcg,hCg,_,hl⟩:=HST.out wr HQ.out i hlt
   have y1:wr.cell? ⟨b1,1,none⟩ = some (.string a0_1):=(blk_cell (blk_below X3.out HQ.out) 1).trans rfl
   have y2:wr.cell? ⟨b1,2,none⟩ = some (.int .i64 a0_2):=(blk_cell (blk_below X3.out HQ.out) 2).trans rfl
   have HL:=am hlt
   have HCG:=am (And.intro hcg (And.intro hCg hl))
   have hw1:IntKind.i64.wrap ((i:Int) + 1) = ((i + 1:Nat):Int):=by rw [IntKind.wrap_i64];have:=HO2.out.ok.most;omega
   have HSU:=am (cntN_succ s (bt a0_1 0) a0_2 fa i)
   obtain ⟨cg0,hcg0⟩:∃ c,s.T.getD i [] = c:=⟨_,rfl⟩
   obtain ⟨fi,hfi⟩:∃ f,s.F.getD i 0 = f:=⟨_,rfl⟩
   obtain ⟨qi,hqi⟩:∃ f,(waysL s).getD i 0 = f:=⟨_,rfl⟩
   rw [hcg0] at z2 HCG HSU
   rw [hfi] at z4 HSU
   rw [hqi] at z5 HSU
   clear hcg hCg hl hlt hi hcg0 hfi hqi
   obtain ⟨pl,hpl⟩:∃ pl,placeI (bt a0_1 0) cg0 = pl:=⟨_,rfl⟩
   rw [hpl] at HSU
   have HPL:=am (fun W Ag cg (hl:cg0.length ≤ 1000) (hc:cg0.length ≤ cg) (hC:(Kd.int .u8).C W Ag cg0.length cg0)=>by have h:=place_call hl hc hC gw gh (bt a0_1 0);rw [hpl] at h;exact h:∀ (W:World) (Ag:Option Addr) (cg:Nat),cg0.length ≤ 1000 → cg0.length ≤ cg → (Kd.int .u8).C W Ag cg0.length cg0 → Calls Tryz.prog 56 #[.agg #[.int .i64 gw,.int .i64 gh,.slice Ag cg0.length cg],.int .u8 (bt a0_1 0)] W fun e w'=>e = .returned (.int .i64 pl) ∧ Below W.heap.size W w')
   clear hpl
   go_wp2
   refine start_ (n:=19) (S:=fun w'=>w'.cell? ⟨p,0,none⟩ = some (.int .i64 gw) ∧ w'.cell? ⟨p,1,none⟩ = some (.int .i64 gh) ∧ w'.cell? ⟨p,2,none⟩ = some (.slice Ag cg0.length cg) ∧ w'.cell? ⟨p,4,none⟩ = some (.int .i64 (fi:Int)) ∧ w'.cell? ⟨b1,1,none⟩ = some (.string a0_1) ∧ w'.cell? ⟨b1,2,none⟩ = some (.int .i64 a0_2)) (ds:=[]) (bm 19 0) k_r rfl rfl ⟨z0,z1,z2,z4,y1,y2⟩ (fun hHeld=>?_)
   refine take_ (i:=0) (N:=some 24) (v:=?_) (a':=?_) (bm 19 1) rfl rfl k_r (fun _ _ _ h=>h) (Or.inl ⟨by rfl,?_⟩) hHeld ?_ ?_
   rotate_left
   ·rintro w' ⟨s_0,s_1,s_2,s_3,s_4,s_5⟩
    go_simp
    try with_reducible rfl
   rotate_left
   ·simp only [Act.put,ac_]
    rfl
   refine take_ (i:=1) (N:=some 25) (v:=?_) (a':=?_) (bm 19 3) rfl rfl k_r (fun _ _ _ h=>h) (Or.inl ⟨by rfl,?_⟩) hHeld ?_ ?_
   rotate_left
   ·rintro w' ⟨s_0,s_1,s_2,s_3,s_4,s_5⟩
    go_simp
    try with_reducible rfl
   rotate_left
   ·simp only [Act.put,ac_]
    rfl
   refine take_ (i:=2) (N:=some 26) (v:=?_) (a':=?_) (bm 19 7) rfl rfl k_r (fun _ _ _ h=>h) (Or.inl ⟨by rfl,?_⟩) hHeld ?_ ?_
   rotate_left
   ·rintro w' ⟨s_0,s_1,s_2,s_3,s_4,s_5⟩
    go_simp
    try with_reducible rfl
   rotate_left
   ·simp only [Act.put,ac_]
    rfl
   refine take_ (i:=3) (N:=some 27) (v:=?_) (a':=?_) (bm 19 15) rfl rfl k_r (fun _ _ _ h=>h) (Or.inl ⟨by rfl,?_⟩) hHeld ?_ ?_
   rotate_left
   ·rintro w' ⟨s_0,s_1,s_2,s_3,s_4,s_5⟩
    go_simp
    try with_reducible rfl
   rotate_left
   ·simp only [Act.put,ac_]
    rfl
   refine take_ (i:=4) (N:=some 28) (v:=?_) (a':=?_) (bm 19 31) rfl rfl k_r (fun _ _ _ h=>h) (Or.inl ⟨by rfl,?_⟩) hHeld ?_ ?_
   rotate_left
   ·rintro w' ⟨s_0,s_1,s_2,s_3,s_4,s_5⟩
    go_simp
    try with_reducible rfl
   rotate_left
   ·simp only [Act.put,ac_]
    rfl
   by_cases hf:fi = fa
   rotate_left
   ·have hfb:((fi:Int) == (fa:Int)) = false:=beq_eq_false_iff_ne.2 o_m
    refine take_ (i:=5) (N:=some 29) (v:=?_) (a':=?_) (bm 19 63) rfl rfl k_r (fun _ _ _ h=>h) (Or.inl ⟨by rfl,?_⟩) hHeld ?_ ?_
    rotate_left
    ·rintro w' ⟨s_0,s_1,s_2,s_3,s_4,s_5⟩
     go_simp
     try with_reducible rfl
    rotate_left
    ·simp only [Act.put,ac_]
     rfl
    refine take_ (i:=6) (N:=some 30) (v:=?_) (a':=?_) (bm 19 127) rfl rfl k_r (fun _ _ _ h=>h) (Or.inl ⟨by rfl,?_⟩) hHeld ?_ ?_
    rotate_left
    ·rintro w' ⟨s_0,s_1,s_2,s_3,s_4,s_5⟩
     go_simp
     try with_reducible rfl
    rotate_left
    ·simp only [Act.put,ac_]
     rfl
    refine take_ (i:=7) (N:=some 31) (v:=undef) (a':=?_) (bm 19 255) rfl rfl k_r (fun _ _ _ h=>h) (Or.inr ⟨by rfl,rfl⟩) hHeld ?_ ?_
    rotate_left
    ·simp only [Act.put,ac_]
     rfl
    refine take_ (i:=8) (N:=some 32) (v:=undef) (a':=?_) (bm 19 511) rfl rfl k_r (fun _ _ _ h=>h) (Or.inr ⟨by rfl,rfl⟩) hHeld ?_ ?_
    rotate_left
    ·simp only [Act.put,ac_]
     rfl
    refine take_ (i:=9) (N:=some 33) (v:=undef) (a':=?_) (bm 19 1023) rfl rfl k_r (fun _ _ _ h=>h) (Or.inr ⟨by rfl,rfl⟩) hHeld ?_ ?_
    rotate_left
    ·simp only [Act.put,ac_]
     rfl
    refine take_ (i:=10) (N:=some 34) (v:=undef) (a':=?_) (bm 19 2047) rfl rfl k_r (fun _ _ _ h=>h) (Or.inr ⟨by rfl,rfl⟩) hHeld ?_ ?_
    rotate_left
    ·simp only [Act.put,ac_]
     rfl
    refine take_ (i:=11) (N:=some 35) (v:=undef) (a':=?_) (bm 19 4095) rfl rfl k_r (fun _ _ _ h=>h) (Or.inr ⟨by rfl,rfl⟩) hHeld ?_ ?_
    rotate_left
    ·simp only [Act.put,ac_]
     rfl
    refine take_ (i:=12) (N:=some 36) (v:=undef) (a':=?_) (bm 19 8191) rfl rfl k_r (fun _ _ _ h=>h) (Or.inr ⟨by rfl,rfl⟩) hHeld ?_ ?_
    rotate_left
    ·simp only [Act.put,ac_]
     rfl
    refine take_ (i:=13) (N:=some 37) (v:=undef) (a':=?_) (bm 19 16383) rfl rfl k_r (fun _ _ _ h=>h) (Or.inr ⟨by rfl,rfl⟩) hHeld ?_ ?_
    rotate_left
    ·simp only [Act.put,ac_]
     rfl
    refine take_ (i:=14) (N:=some 38) (v:=undef) (a':=?_) (bm 19 32767) rfl rfl k_r (fun _ _ _ h=>h) (Or.inr ⟨by rfl,rfl⟩) hHeld ?_ ?_
    rotate_left
    ·simp only [Act.put,ac_]
     rfl
    refine take_ (i:=15) (N:=some 39) (v:=undef) (a':=?_) (bm 19 65535) rfl rfl k_r (fun _ _ _ h=>h) (Or.inr ⟨by rfl,rfl⟩) hHeld ?_ ?_
    rotate_left
    ·simp only [Act.put,ac_]
     rfl
    refine take_ (i:=16) (N:=some 40) (v:=undef) (a':=?_) (bm 19 131071) rfl rfl k_r (fun _ _ _ h=>h) (Or.inr ⟨by rfl,rfl⟩) hHeld ?_ ?_
    rotate_left
    ·simp only [Act.put,ac_]
     rfl
    refine take_ (i:=17) (N:=some 41) (v:=undef) (a':=?_) (bm 19 262143) rfl rfl k_r (fun _ _ _ h=>h) (Or.inr ⟨by rfl,rfl⟩) hHeld ?_ ?_
    rotate_left
    ·simp only [Act.put,ac_]
     rfl
    refine take_ (i:=18) (N:=some 42) (v:=?_) (a':=?_) (bm 19 524287) rfl rfl k_r (fun _ _ _ h=>h) (Or.inl ⟨by rfl,?_⟩) hHeld ?_ ?_
    rotate_left
    ·rintro w' ⟨s_0,s_1,s_2,s_3,s_4,s_5⟩
     go_simp
     try with_reducible rfl
    rotate_left
    ·simp only [Act.put,ac_]
     rfl
    refine done_ k_r ?_
    have HSU2:=am (show cntN s (bt a0_1 0) a0_2 fa (i + 1) = cntN s (bt a0_1 0) a0_2 fa i by rw [HSU.out,if_neg (fun h=>hf h.1)])
    have HQ4:=am (below_drew1 HQ.out)
    clear hHeld hf z0 z1 z2 z4 z5 y1 y2
    generalize wr.drew = wd at HQ4 ⊢
    go_wp2
    go_roundw
    case rel=>exact ⟨i + 1,HL.out,by first | rfl | simp,by rw [HSU2.out],HQ4⟩
    case measure=>have:=HL.out;simp [intOf];omega
   have hfb:((fi:Int) == (fa:Int)) = true:=beq_iff_eq.2 o_m
   refine take_ (i:=5) (N:=some 29) (v:=?_) (a':=?_) (bm 19 63) rfl rfl k_r (fun _ _ _ h=>h) (Or.inl ⟨by rfl,?_⟩) hHeld ?_ ?_
   rotate_left
   ·rintro w' ⟨s_0,s_1,s_2,s_3,s_4,s_5⟩
    go_simp
    try with_reducible rfl
   rotate_left
   ·simp only [Act.put,ac_]
    rfl
   refine take_ (i:=6) (N:=some 30) (v:=?_) (a':=?_) (bm 19 127) rfl rfl k_r (fun _ _ _ h=>h) (Or.inl ⟨by rfl,?_⟩) hHeld ?_ ?_
   rotate_left
   ·rintro w' ⟨s_0,s_1,s_2,s_3,s_4,s_5⟩
    go_simp
    try with_reducible rfl
   rotate_left
   ·simp only [Act.put,ac_]
    rfl
   refine take_ (i:=7) (N:=some 31) (v:=?_) (a':=?_) (bm 19 255) rfl rfl k_r (fun _ _ _ h=>h) (Or.inl ⟨by rfl,?_⟩) hHeld ?_ ?_
   rotate_left
   ·rintro w' ⟨s_0,s_1,s_2,s_3,s_4,s_5⟩
    go_simp
    try with_reducible rfl
   rotate_left
   ·simp only [Act.put,ac_]
    rfl
   refine take_ (i:=8) (N:=some 32) (v:=?_) (a':=?_) (bm 19 511) rfl rfl k_r (fun _ _ _ h=>h) (Or.inl ⟨by rfl,?_⟩) hHeld ?_ ?_
   rotate_left
   ·rintro w' ⟨s_0,s_1,s_2,s_3,s_4,s_5⟩
    go_simp
    try with_reducible rfl
   rotate_left
   ·simp only [Act.put,ac_]
    rfl
   refine take_ (i:=9) (N:=some 33) (v:=?_) (a':=?_) (bm 19 1023) rfl rfl k_r (fun _ _ _ h=>h) (Or.inl ⟨by rfl,?_⟩) hHeld ?_ ?_
   rotate_left
   ·rintro w' ⟨s_0,s_1,s_2,s_3,s_4,s_5⟩
    go_simp
    try with_reducible rfl
   rotate_left
   ·simp only [Act.put,ac_]
    rfl
   refine take_ (i:=10) (N:=some 34) (v:=?_) (a':=?_) (bm 19 2047) rfl rfl k_r (fun _ _ _ h=>h) (Or.inl ⟨by rfl,?_⟩) hHeld ?_ ?_
   rotate_left
   ·rintro w' ⟨s_0,s_1,s_2,s_3,s_4,s_5⟩
    go_simp
    try with_reducible rfl
   rotate_left
   ·simp only [Act.put,ac_]
    rfl
   refine take_ (i:=11) (N:=some 35) (v:=?_) (a':=?_) (bm 19 4095) rfl rfl k_r (fun _ _ _ h=>h) (Or.inl ⟨by rfl,?_⟩) hHeld ?_ ?_
   rotate_left
   ·rintro w' ⟨s_0,s_1,s_2,s_3,s_4,s_5⟩
    go_simp
    try with_reducible rfl
   rotate_left
   ·simp only [Act.put,ac_]
    rfl
   refine take_ (i:=12) (N:=some 36) (v:=?_) (a':=?_) (bm 19 8191) rfl rfl k_r (fun _ _ _ h=>h) (Or.inl ⟨by rfl,?_⟩) hHeld ?_ ?_
   rotate_left
   ·rintro w' ⟨s_0,s_1,s_2,s_3,s_4,s_5⟩
    go_simp
    try with_reducible rfl
   rotate_left
   ·simp only [Act.put,ac_]
    rfl
   refine take_ (i:=13) (N:=some 37) (v:=?_) (a':=?_) (bm 19 16383) rfl rfl k_r (fun _ _ _ h=>h) (Or.inl ⟨by rfl,?_⟩) hHeld ?_ ?_
   rotate_left
   ·rintro w' ⟨s_0,s_1,s_2,s_3,s_4,s_5⟩
    go_simp
    try with_reducible rfl
   rotate_left
   ·simp only [Act.put,ac_]
    rfl
   refine take_ (i:=15) (N:=some 39) (v:=?_) (a':=?_) (bm 19 49151) rfl rfl k_r (fun _ _ _ h=>h) (Or.inl ⟨by rfl,?_⟩) hHeld ?_ ?_
   rotate_left
   ·rintro w' ⟨s_0,s_1,s_2,s_3,s_4,s_5⟩
    go_simp
    try with_reducible rfl
   rotate_left
   ·simp only [Act.put,ac_]
    rfl
   refine take_ (i:=16) (N:=some 40) (v:=?_) (a':=?_) (bm 19 114687) rfl rfl k_r (fun _ _ _ h=>h) (Or.inl ⟨by rfl,?_⟩) hHeld ?_ ?_
   rotate_left
   ·rintro w' ⟨s_0,s_1,s_2,s_3,s_4,s_5⟩
    go_simp
    try with_reducible rfl
   rotate_left
   ·simp only [Act.put,ac_]
    rfl
   refine one_ (i:=14) (N:=some 38) (bm 19 131071) rfl rfl k_r d_c (fun K' hK'=>?_)
   refine goes_ Tryz.func56 k_r rfl #[.agg #[.int .i64 gw,.int .i64 gh,.slice Ag cg0.length cg],.int .u8 (bt a0_1 0)] (by rfl) rfl rfl (by (try simp only [List.map_toArray,List.map_cons,List.map_nil]);first | done | rfl) ?_
   refine (HPL.out _ Ag cg HCG.out.2.2 HCG.out.1 (by exact HCG.out.2.1)).mono ?_
   rintro e w4 ⟨rfl,hb4⟩
   have HB4:=am (show Below wr.heap.size wr w4 from ⟨hb4.os,hb4.tape,hb4.output,hb4.size,hb4.block⟩)
   refine ⟨_,rfl,?_⟩
   have x5:=(HB4.out.cell (World.block_lt_of_cell? wr _ z5)).trans z5
   refine hK'.out _ _ ⟨(HB4.out.cell (World.block_lt_of_cell? wr _ z0)).trans z0,(HB4.out.cell (World.block_lt_of_cell? wr _ z1)).trans z1,(HB4.out.cell (World.block_lt_of_cell? wr _ z2)).trans z2,(HB4.out.cell (World.block_lt_of_cell? wr _ z4)).trans z4,(HB4.out.cell (World.block_lt_of_cell? wr _ y1)).trans y1,(HB4.out.cell (World.block_lt_of_cell? wr _ y2)).trans y2⟩ (fun hHeld=>?_)
   clear hK' K' hb4 z0 z1 z2 z4 z5 y1 y2
   refine nm (some 38) ?_
   have HQ4:=am (below_step HQ.out HB4.out)
   by_cases he:pl = a0_2
   rotate_left
   ·have heb:(pl == a0_2) = false:=beq_eq_false_iff_ne.2 he
    refine take_ (i:=17) (N:=some 41) (v:=?_) (a':=?_) (bm 19 262143) rfl rfl k_r (fun _ _ _ h=>h) (Or.inl ⟨by rfl,?_⟩) hHeld ?_ ?_
    rotate_left
    ·rintro w' ⟨s_0,s_1,s_2,s_3,s_4,s_5⟩
     go_simp
     try with_reducible rfl
    rotate_left
    ·simp only [Act.put,ac_]
     rfl
    refine take_ (i:=18) (N:=some 42) (v:=?_) (a':=?_) (bm 19 524287) rfl rfl k_r (fun _ _ _ h=>h) (Or.inl ⟨by rfl,?_⟩) hHeld ?_ ?_
    rotate_left
    ·rintro w' ⟨s_0,s_1,s_2,s_3,s_4,s_5⟩
     go_simp
     try with_reducible rfl
    rotate_left
    ·simp only [Act.put,ac_]
     rfl
    refine done_ k_r ?_
    have HSU2:=am (show cntN s (bt a0_1 0) a0_2 fa (i + 1) = cntN s (bt a0_1 0) a0_2 fa i by rw [HSU.out,if_neg (fun h=>he h.2)])
    clear he hHeld hf
    go_wp2
    go_roundw
    case rel=>exact ⟨i + 1,HL.out,by first | rfl | simp,by rw [HSU2.out],HQ4⟩
    case measure=>have:=HL.out;simp [intOf];omega
   have heb:(pl == a0_2) = true:=beq_iff_eq.2 he
   refine take_ (i:=17) (N:=some 41) (v:=?_) (a':=?_) (bm 19 262143) rfl rfl k_r (fun _ _ _ h=>h) (Or.inl ⟨by rfl,?_⟩) hHeld ?_ ?_
   rotate_left
   ·rintro w' ⟨s_0,s_1,s_2,s_3,s_4,s_5⟩
    go_simp
    try with_reducible rfl
   rotate_left
   ·simp only [Act.put,ac_]
    rfl
   refine take_ (i:=18) (N:=some 42) (v:=?_) (a':=?_) (bm 19 524287) rfl rfl k_r (fun _ _ _ h=>h) (Or.inl ⟨by rfl,?_⟩) hHeld ?_ ?_
   rotate_left
   ·rintro w' ⟨s_0,s_1,s_2,s_3,s_4,s_5⟩
    go_simp
    try with_reducible rfl
   rotate_left
   ·simp only [Act.put,ac_]
    rfl
   refine done_ k_r ?_
   have HSU2:=am (show cntN s (bt a0_1 0) a0_2 fa (i + 1) = wrap64 (cntN s (bt a0_1 0) a0_2 fa i + qi) by rw [HSU.out,if_pos ⟨hf,he⟩])
   clear he hHeld hf
   go_wp2
   go_roundw
   case rel=>exact ⟨i + 1,HL.out,by first | rfl | simp,by first | (rw [HSU2.out];done) | (rw [HSU2.out];rfl) | (rw [HSU2.out];simp [i64_w]),HQ4⟩
   case measure=>have:=HL.out;simp [intOf];omega
end Go.Proofs.YtldhkbiomingbaaGreatDoor.F

namespace Go.Proofs.YtldhkbiomingbaaGreatDoor.F
open Go.Proofs.YtldhkbiomingbaaGreatDoor
open Go.RowKit Go.YW.PrintWords Go.YW.PrintLast Go.YW.PrintMore
attribute [local go_sem] max2_int min2_int max_two min_two max_three min_three max_four min_four
def impl_CountSolutions.l0:Nat → Int → Int → List Int → List Int → Int → Int → ByteArray → ByteArray → Int → List ByteArray → List Int → List (List Int) → List ByteArray → Option (Int × Bool)
 | 0,_,_,_,_,_,_,_,_,_,_,_,_,_=>none
 | k + 1,x5,x7,x8,x24,x25,x26,x102000,x102001,x102002,x117000,x117001,x117002,x117003=>if x26 < x25 then (if 0 ≤ x26 then (if x26 < (x24.length:Int) then (if (rd x24 x26) = x102002 then (if x26 < (x117001.length:Int) then (if 0 ≤ x5 then (if x5 < (x117001.length:Int) then (if (rd x117001 x26) = (rd x117001 x5) then (if x26 < (x8.length:Int) then (impl_CountSolutions.l0 k x5 (wrap64 (x7 + (rd x8 x26))) x8 x24 x25 (wrap64 (x26 + 1)) x102000 x102001 x102002 x117000 x117001 x117002 x117003) else (none)) else (impl_CountSolutions.l0 k x5 x7 x8 x24 x25 (wrap64 (x26 + 1)) x102000 x102001 x102002 x117000 x117001 x117002 x117003)) else (none)) else (none)) else (none)) else (impl_CountSolutions.l0 k x5 x7 x8 x24 x25 (wrap64 (x26 + 1)) x102000 x102001 x102002 x117000 x117001 x117002 x117003)) else (none)) else (none)) else (some (x7,true))
def impl_CountSolutions.f (k:Nat) (a0_0:ByteArray) (a0_1:ByteArray) (a0_2:Int):Option (Int × Bool):=(impl_solution.f k a0_0 a0_1 a0_2).bind fun bt102=>(if bt102.2.2.2.2.2 = true then ((impl_reach_ways.f k bt102.1 bt102.2.1 bt102.2.2.1 bt102.2.2.2.1).bind fun t117=>((impl_reach_cells.f k bt102.1 bt102.2.1 bt102.2.2.1 bt102.2.2.2.1 a0_1).bind fun t120=>(impl_CountSolutions.l0 k bt102.2.2.2.2.1 0 t117 t120 (t120.length:Int) 0 a0_0 a0_1 a0_2 bt102.1 bt102.2.1 bt102.2.2.1 bt102.2.2.2.1))) else (some (0,false)))
theorem impl_CountSolutions.mono_l:∀ k,(∀ y0 y1 y2 y3 y4 y5 y6 y7 y8 y9 y10 y11 y12,LeO (impl_CountSolutions.l0 k y0 y1 y2 y3 y4 y5 y6 y7 y8 y9 y10 y11 y12) (impl_CountSolutions.l0 (k + 1) y0 y1 y2 y3 y4 y5 y6 y7 y8 y9 y10 y11 y12))
 | 0=>fun _ _ _ _ _ _ _ _ _ _ _ _ _ r h=>by simp [impl_CountSolutions.l0] at h
 | k + 1=>by
  have ih0:=impl_CountSolutions.mono_l k
  ·intro y0 y1 y2 y3 y4 y5 y6 y7 y8 y9 y10 y11 y12
   unfold impl_CountSolutions.l0
   have im0:=@impl_reach_cells.mono;have im1:=@impl_reach_ways.mono;have im2:=@impl_solution.mono;exact mo
theorem impl_CountSolutions.calls (k:Nat) (a0_0:ByteArray) (a0_1:ByteArray) (a0_2:Int) (r1:Int) (r2:Bool) (w:World) (h:impl_CountSolutions.f k a0_0 a0_1 a0_2 = some (r1,r2)) :
  Calls Tryz.prog 23 #[.agg #[.string a0_0,.string a0_1,.int .i64 a0_2]] w fun e w'=>e = .returned (.tuple #[.int .i64 r1,.bool r2]) ∧ Below w.heap.size w w':=by
 have hu30:=Tryz.underlying30
 have hu59:=Tryz.underlying59
 have HB:=am (Below.refl w.heap.size w)
 have H:((impl_solution.f k a0_0 a0_1 a0_2).bind fun bt102=>(if bt102.2.2.2.2.2 = true then ((impl_reach_ways.f k bt102.1 bt102.2.1 bt102.2.2.1 bt102.2.2.2.1).bind fun t117=>((impl_reach_cells.f k bt102.1 bt102.2.1 bt102.2.2.1 bt102.2.2.2.1 a0_1).bind fun t120=>(impl_CountSolutions.l0 k bt102.2.2.2.2.1 0 t117 t120 (t120.length:Int) 0 a0_0 a0_1 a0_2 bt102.1 bt102.2.1 bt102.2.2.1 bt102.2.2.2.1))) else (some (0,false)))) = some (r1,r2):=h
 clear h
 replace H:=Option.bind_eq_some_iff.mp H
 obtain ⟨⟨t102,t105,t108,t111,t114,t115⟩,A20,H⟩:=H
 replace H:(if t115 = true then ((impl_reach_ways.f k t102 t105 t108 t111).bind fun t117=>((impl_reach_cells.f k t102 t105 t108 t111 a0_1).bind fun t120=>(impl_CountSolutions.l0 k t114 0 t117 t120 (t120.length:Int) 0 a0_0 a0_1 a0_2 t102 t105 t108 t111))) else (some (0,false))) = some (r1,r2):=H
 have A2:=am A20
 clear A20
 by_cases c3:t115 = true
 rotate_left
 ·replace c3:=Bool.eq_false_iff.mpr c3
  subst c3
  rw [if_neg Bool.false_ne_true] at H
  simp only [Option.some.injEq,Prod.mk.injEq] at H
  obtain ⟨rfl,rfl⟩:=H
  go_enter Tryz.func23,Tryz.ntmps23
  go_wp2_with (first | (refine bx 1 #[.string a0_0,.string a0_1,.int .i64 a0_2] 30 ?_;intro gb101 hg w39 hbox hb;have BK101:=am (hbox);have GW101:=am ((by rw [hg];exact (below_size aq2):w.heap.size ≤ gb101));have GE101:=GW101;replace HB:=am (below_step aq2 hb);clear hb hbox hg;obtain ⟨hcz40_0,hcz40_1,hcz40_2,hfz40_0,hfz40_1,hfz40_2⟩:=blk3_ BK101.out) | (go_at_call 55;(with_reducible refine (impl_solution.calls k a0_0 a0_1 a0_2 t102 t105 t108 t111 t114 false _ A2.out).mono ?_);rintro e w41 ⟨v103,v106,v109,v112,rfl,ho0,ho1,ho2,ho3,hb⟩;have HO104:=am (Kd.R_lower ho0 (below_size aq0));have HO107:=am (Kd.R_lower ho1 (below_size aq0));have HO110:=am (Kd.S_lower ho2 (below_size aq0));have HO113:=am (Kd.R_lower ho3 (below_size aq0));replace BK101:=am (bb BK101 hb);replace HB:=am (below_step aq0 hb);(try clear hb);(try clear ho0);(try clear ho1);(try clear ho2);(try clear ho3)) | (refine bx 4 #[.slice none 0 0,.slice none 0 0,.slice none 0 0,.slice none 0 0] 59 ?_;intro gb116 hg w42 hbox hb;replace HO104:=am (Kd.R_below aq27 hb);replace HO107:=am (Kd.R_below aq29 hb);replace HO110:=am (Kd.S_below aq38 hb);replace HO113:=am (Kd.R_below aq36 hb);have BK116:=am (hbox);have GW116:=am ((by rw [hg];exact (below_size aq0):w.heap.size ≤ gb116));have GE116:=GW116;replace HB:=am (below_step aq0 hb);have NB101_116:=am ((by rw [hg];exact Nat.ne_of_lt (blk_lt (g:=gb101) (o:=.cells #[.string a0_0,.string a0_1,.int .i64 a0_2] 30 (0,0)) aq1):gb101 ≠ gb116));have NB116_101:=am ((by rw [hg];exact Nat.ne_of_gt (blk_lt (g:=gb101) (o:=.cells #[.string a0_0,.string a0_1,.int .i64 a0_2] 30 (0,0)) aq1):gb116 ≠ gb101));replace BK101:=am (bb BK101 hb);clear hb hbox hg;obtain ⟨Ao43,co43,eo43⟩:=Kd.R_slice HO104.out;subst eo43;have hnb44:=NB116_101.out;have hnc44:=NB101_116.out;obtain ⟨hcz45_0,hcz45_1,hcz45_2,hcz45_3,hfz45_0,hfz45_1,hfz45_2,hfz45_3⟩:=blk4_ BK116.out;obtain ⟨Ao46,co46,eo46⟩:=Kd.R_slice HO107.out;subst eo46;obtain ⟨Ao47,co47,eo47⟩:=Kd.S_slice HO110.out;subst eo47;obtain ⟨Ao48,co48,eo48⟩:=Kd.R_slice HO113.out;subst eo48))
  repeat (go_quiet (first | (refine bx 1 #[.string a0_0,.string a0_1,.int .i64 a0_2] 30 ?_;intro gb101 hg w39 hbox hb;have BK101:=am (hbox);have GW101:=am ((by rw [hg];exact (below_size aq2):w.heap.size ≤ gb101));have GE101:=GW101;replace HB:=am (below_step aq2 hb);clear hb hbox hg;obtain ⟨hcz40_0,hcz40_1,hcz40_2,hfz40_0,hfz40_1,hfz40_2⟩:=blk3_ BK101.out) | (go_at_call 55;(with_reducible refine (impl_solution.calls k a0_0 a0_1 a0_2 t102 t105 t108 t111 t114 false _ A2.out).mono ?_);rintro e w41 ⟨v103,v106,v109,v112,rfl,ho0,ho1,ho2,ho3,hb⟩;have HO104:=am (Kd.R_lower ho0 (below_size aq0));have HO107:=am (Kd.R_lower ho1 (below_size aq0));have HO110:=am (Kd.S_lower ho2 (below_size aq0));have HO113:=am (Kd.R_lower ho3 (below_size aq0));replace BK101:=am (bb BK101 hb);replace HB:=am (below_step aq0 hb);(try clear hb);(try clear ho0);(try clear ho1);(try clear ho2);(try clear ho3)) | (refine bx 4 #[.slice none 0 0,.slice none 0 0,.slice none 0 0,.slice none 0 0] 59 ?_;intro gb116 hg w42 hbox hb;replace HO104:=am (Kd.R_below aq27 hb);replace HO107:=am (Kd.R_below aq29 hb);replace HO110:=am (Kd.S_below aq38 hb);replace HO113:=am (Kd.R_below aq36 hb);have BK116:=am (hbox);have GW116:=am ((by rw [hg];exact (below_size aq0):w.heap.size ≤ gb116));have GE116:=GW116;replace HB:=am (below_step aq0 hb);have NB101_116:=am ((by rw [hg];exact Nat.ne_of_lt (blk_lt (g:=gb101) (o:=.cells #[.string a0_0,.string a0_1,.int .i64 a0_2] 30 (0,0)) aq1):gb101 ≠ gb116));have NB116_101:=am ((by rw [hg];exact Nat.ne_of_gt (blk_lt (g:=gb101) (o:=.cells #[.string a0_0,.string a0_1,.int .i64 a0_2] 30 (0,0)) aq1):gb116 ≠ gb101));replace BK101:=am (bb BK101 hb);clear hb hbox hg;obtain ⟨Ao43,co43,eo43⟩:=Kd.R_slice HO104.out;subst eo43;have hnb44:=NB116_101.out;have hnc44:=NB101_116.out;obtain ⟨hcz45_0,hcz45_1,hcz45_2,hcz45_3,hfz45_0,hfz45_1,hfz45_2,hfz45_3⟩:=blk4_ BK116.out;obtain ⟨Ao46,co46,eo46⟩:=Kd.R_slice HO107.out;subst eo46;obtain ⟨Ao47,co47,eo47⟩:=Kd.S_slice HO110.out;subst eo47;obtain ⟨Ao48,co48,eo48⟩:=Kd.R_slice HO113.out;subst eo48));try go_wp2_with (first | (refine bx 1 #[.string a0_0,.string a0_1,.int .i64 a0_2] 30 ?_;intro gb101 hg w39 hbox hb;have BK101:=am (hbox);have GW101:=am ((by rw [hg];exact (below_size aq2):w.heap.size ≤ gb101));have GE101:=GW101;replace HB:=am (below_step aq2 hb);clear hb hbox hg;obtain ⟨hcz40_0,hcz40_1,hcz40_2,hfz40_0,hfz40_1,hfz40_2⟩:=blk3_ BK101.out) | (go_at_call 55;(with_reducible refine (impl_solution.calls k a0_0 a0_1 a0_2 t102 t105 t108 t111 t114 false _ A2.out).mono ?_);rintro e w41 ⟨v103,v106,v109,v112,rfl,ho0,ho1,ho2,ho3,hb⟩;have HO104:=am (Kd.R_lower ho0 (below_size aq0));have HO107:=am (Kd.R_lower ho1 (below_size aq0));have HO110:=am (Kd.S_lower ho2 (below_size aq0));have HO113:=am (Kd.R_lower ho3 (below_size aq0));replace BK101:=am (bb BK101 hb);replace HB:=am (below_step aq0 hb);(try clear hb);(try clear ho0);(try clear ho1);(try clear ho2);(try clear ho3)) | (refine bx 4 #[.slice none 0 0,.slice none 0 0,.slice none 0 0,.slice none 0 0] 59 ?_;intro gb116 hg w42 hbox hb;replace HO104:=am (Kd.R_below aq27 hb);replace HO107:=am (Kd.R_below aq29 hb);replace HO110:=am (Kd.S_below aq38 hb);replace HO113:=am (Kd.R_below aq36 hb);have BK116:=am (hbox);have GW116:=am ((by rw [hg];exact (below_size aq0):w.heap.size ≤ gb116));have GE116:=GW116;replace HB:=am (below_step aq0 hb);have NB101_116:=am ((by rw [hg];exact Nat.ne_of_lt (blk_lt (g:=gb101) (o:=.cells #[.string a0_0,.string a0_1,.int .i64 a0_2] 30 (0,0)) aq1):gb101 ≠ gb116));have NB116_101:=am ((by rw [hg];exact Nat.ne_of_gt (blk_lt (g:=gb101) (o:=.cells #[.string a0_0,.string a0_1,.int .i64 a0_2] 30 (0,0)) aq1):gb116 ≠ gb101));replace BK101:=am (bb BK101 hb);clear hb hbox hg;obtain ⟨Ao43,co43,eo43⟩:=Kd.R_slice HO104.out;subst eo43;have hnb44:=NB116_101.out;have hnc44:=NB101_116.out;obtain ⟨hcz45_0,hcz45_1,hcz45_2,hcz45_3,hfz45_0,hfz45_1,hfz45_2,hfz45_3⟩:=blk4_ BK116.out;obtain ⟨Ao46,co46,eo46⟩:=Kd.R_slice HO107.out;subst eo46;obtain ⟨Ao47,co47,eo47⟩:=Kd.S_slice HO110.out;subst eo47;obtain ⟨Ao48,co48,eo48⟩:=Kd.R_slice HO113.out;subst eo48)))
  go_ret2
  exact ⟨aq8,aq12⟩
 subst c3
 rw [if_pos rfl] at H
 obtain ⟨t117,A4,H⟩:=bn H
 obtain ⟨t120,A5,H⟩:=bn H
 have H':=am H
 clear H
 go_enter Tryz.func23,Tryz.ntmps23
 go_wp2_with (first | (refine bx 1 #[.string a0_0,.string a0_1,.int .i64 a0_2] 30 ?_;intro gb101 hg w6 hbox hb;have BK101:=am (hbox);have GW101:=am ((by rw [hg];exact (below_size aq2):w.heap.size ≤ gb101));have GE101:=GW101;replace HB:=am (below_step aq2 hb);clear hb hbox hg;obtain ⟨hcz7_0,hcz7_1,hcz7_2,hfz7_0,hfz7_1,hfz7_2⟩:=blk3_ BK101.out) | (go_at_call 55;(with_reducible refine (impl_solution.calls k a0_0 a0_1 a0_2 t102 t105 t108 t111 t114 true _ A2.out).mono ?_);rintro e w8 ⟨v103,v106,v109,v112,rfl,ho0,ho1,ho2,ho3,hb⟩;have HO104:=am (Kd.R_lower ho0 (below_size aq0));have HO107:=am (Kd.R_lower ho1 (below_size aq0));have HO110:=am (Kd.S_lower ho2 (below_size aq0));have HO113:=am (Kd.R_lower ho3 (below_size aq0));replace BK101:=am (bb BK101 hb);replace HB:=am (below_step aq0 hb);(try clear hb);(try clear ho0);(try clear ho1);(try clear ho2);(try clear ho3)) | (refine bx 4 #[.slice none 0 0,.slice none 0 0,.slice none 0 0,.slice none 0 0] 59 ?_;intro gb116 hg w9 hbox hb;replace HO104:=am (Kd.R_below aq27 hb);replace HO107:=am (Kd.R_below aq29 hb);replace HO110:=am (Kd.S_below aq38 hb);replace HO113:=am (Kd.R_below aq36 hb);have BK116:=am (hbox);have GW116:=am ((by rw [hg];exact (below_size aq0):w.heap.size ≤ gb116));have GE116:=GW116;replace HB:=am (below_step aq0 hb);have NB101_116:=am ((by rw [hg];exact Nat.ne_of_lt (blk_lt (g:=gb101) (o:=.cells #[.string a0_0,.string a0_1,.int .i64 a0_2] 30 (0,0)) aq1):gb101 ≠ gb116));have NB116_101:=am ((by rw [hg];exact Nat.ne_of_gt (blk_lt (g:=gb101) (o:=.cells #[.string a0_0,.string a0_1,.int .i64 a0_2] 30 (0,0)) aq1):gb116 ≠ gb101));replace BK101:=am (bb BK101 hb);clear hb hbox hg;obtain ⟨Ao10,co10,eo10⟩:=Kd.R_slice HO104.out;subst eo10;have hnb11:=NB116_101.out;have hnc11:=NB101_116.out;obtain ⟨hcz12_0,hcz12_1,hcz12_2,hcz12_3,hfz12_0,hfz12_1,hfz12_2,hfz12_3⟩:=blk4_ BK116.out;obtain ⟨Ao13,co13,eo13⟩:=Kd.R_slice HO107.out;subst eo13;obtain ⟨Ao14,co14,eo14⟩:=Kd.S_slice HO110.out;subst eo14;obtain ⟨Ao15,co15,eo15⟩:=Kd.R_slice HO113.out;subst eo15) | (go_at_call 57;(with_reducible refine (impl_reach_ways.calls k _ _ t102 _ _ t105 _ _ t108 _ _ t111 t117 _ ?side1 ?side2 ?side3 ?side4 ?side5 ?side6 ?side7 ?side8 A4.out).mono ?_);(case side1=>exact aq62);(case side2=>exact aq111);(case side3=>exact aq79);(case side4=>exact (Kd.R_reads' HO107.out).2.1);(case side5=>exact aq61);(case side6=>exact (Kd.S_reads' HO110.out).2.1);(case side7=>exact aq63);(case side8=>exact (Kd.R_reads' HO113.out).2.1);rintro e w16 ⟨v118,rfl,ho0,hb⟩;replace HO104:=am (Kd.R_below aq17 hb);replace HO110:=am (Kd.S_elder' aq15 (Kd.R_base ho0) hb);replace HO113:=am (Kd.R_below aq16 hb);have HO119:=am (Kd.R_lower (Kd.R_new' ho0 (Kd.R_lt aq10)) (below_size aq12));replace HO107:=am (Kd.R_elder' aq10 (Kd.R_base ho0) hb);replace BK101:=am (blk_below (g:=gb101) (o:=.cells #[.string a0_0,.string a0_1,.int .i64 a0_2] 30 (0,0)) aq32 hb);replace BK116:=am (blk_below (g:=gb116) (o:=.cells #[.slice Ao10 t102.length co10,.slice Ao13 t105.length co13,.slice Ao14 t108.length co14,.slice Ao15 t111.length co15] 59 (0,0)) aq20 hb);replace HB:=am (below_step aq12 hb);(try clear hb);(try clear ho0);obtain ⟨hcz17_0,hcz17_1,hcz17_2,hcz17_3,hfz17_0,hfz17_1,hfz17_2,hfz17_3⟩:=blk4_ BK116.out;obtain ⟨hcz18_0,hcz18_1,hcz18_2,hfz18_0,hfz18_1,hfz18_2⟩:=blk3_ BK101.out) | (go_at_call 50;(with_reducible refine (impl_reach_cells.calls k _ _ t102 _ _ t105 _ _ t108 _ _ t111 a0_1 t120 _ ?side1 ?side2 ?side3 ?side4 ?side5 ?side6 ?side7 ?side8 A5.out).mono ?_);(case side1=>exact aq53);(case side2=>exact aq111);(case side3=>exact aq66);(case side4=>exact (Kd.R_reads' HO107.out).2.1);(case side5=>exact aq64);(case side6=>exact (Kd.S_reads' HO110.out).2.1);(case side7=>exact aq65);(case side8=>exact (Kd.R_reads' HO113.out).2.1);rintro e w19 ⟨v121,rfl,ho0,hb⟩;replace HO104:=am (Kd.R_below aq27 hb);replace HO110:=am (Kd.S_elder' aq38 (Kd.R_base ho0) hb);replace HO113:=am (Kd.R_below aq36 hb);have HO122:=am (Kd.R_lower (Kd.R_new' (Kd.R_new' ho0 (Kd.R_lt aq29)) (Kd.R_lt aq50)) (below_size aq12));replace HO107:=am (Kd.R_elder' aq29 (Kd.R_base ho0) hb);replace HO119:=am (Kd.R_elder' aq50 (Kd.R_base ho0) hb);replace BK101:=am (bb BK101 hb);replace BK116:=am (bb BK116 hb);replace HB:=am (below_step aq12 hb);(try clear hb);(try clear ho0);obtain ⟨Ao20,co20,eo20⟩:=Kd.R_slice HO122.out;subst eo20))
 repeat (go_quiet (first | (refine bx 1 #[.string a0_0,.string a0_1,.int .i64 a0_2] 30 ?_;intro gb101 hg w6 hbox hb;have BK101:=am (hbox);have GW101:=am ((by rw [hg];exact (below_size aq2):w.heap.size ≤ gb101));have GE101:=GW101;replace HB:=am (below_step aq2 hb);clear hb hbox hg;obtain ⟨hcz7_0,hcz7_1,hcz7_2,hfz7_0,hfz7_1,hfz7_2⟩:=blk3_ BK101.out) | (go_at_call 55;(with_reducible refine (impl_solution.calls k a0_0 a0_1 a0_2 t102 t105 t108 t111 t114 true _ A2.out).mono ?_);rintro e w8 ⟨v103,v106,v109,v112,rfl,ho0,ho1,ho2,ho3,hb⟩;have HO104:=am (Kd.R_lower ho0 (below_size aq0));have HO107:=am (Kd.R_lower ho1 (below_size aq0));have HO110:=am (Kd.S_lower ho2 (below_size aq0));have HO113:=am (Kd.R_lower ho3 (below_size aq0));replace BK101:=am (bb BK101 hb);replace HB:=am (below_step aq0 hb);(try clear hb);(try clear ho0);(try clear ho1);(try clear ho2);(try clear ho3)) | (refine bx 4 #[.slice none 0 0,.slice none 0 0,.slice none 0 0,.slice none 0 0] 59 ?_;intro gb116 hg w9 hbox hb;replace HO104:=am (Kd.R_below aq27 hb);replace HO107:=am (Kd.R_below aq29 hb);replace HO110:=am (Kd.S_below aq38 hb);replace HO113:=am (Kd.R_below aq36 hb);have BK116:=am (hbox);have GW116:=am ((by rw [hg];exact (below_size aq0):w.heap.size ≤ gb116));have GE116:=GW116;replace HB:=am (below_step aq0 hb);have NB101_116:=am ((by rw [hg];exact Nat.ne_of_lt (blk_lt (g:=gb101) (o:=.cells #[.string a0_0,.string a0_1,.int .i64 a0_2] 30 (0,0)) aq1):gb101 ≠ gb116));have NB116_101:=am ((by rw [hg];exact Nat.ne_of_gt (blk_lt (g:=gb101) (o:=.cells #[.string a0_0,.string a0_1,.int .i64 a0_2] 30 (0,0)) aq1):gb116 ≠ gb101));replace BK101:=am (bb BK101 hb);clear hb hbox hg;obtain ⟨Ao10,co10,eo10⟩:=Kd.R_slice HO104.out;subst eo10;have hnb11:=NB116_101.out;have hnc11:=NB101_116.out;obtain ⟨hcz12_0,hcz12_1,hcz12_2,hcz12_3,hfz12_0,hfz12_1,hfz12_2,hfz12_3⟩:=blk4_ BK116.out;obtain ⟨Ao13,co13,eo13⟩:=Kd.R_slice HO107.out;subst eo13;obtain ⟨Ao14,co14,eo14⟩:=Kd.S_slice HO110.out;subst eo14;obtain ⟨Ao15,co15,eo15⟩:=Kd.R_slice HO113.out;subst eo15) | (go_at_call 57;(with_reducible refine (impl_reach_ways.calls k _ _ t102 _ _ t105 _ _ t108 _ _ t111 t117 _ ?side1 ?side2 ?side3 ?side4 ?side5 ?side6 ?side7 ?side8 A4.out).mono ?_);(case side1=>exact aq62);(case side2=>exact aq111);(case side3=>exact aq79);(case side4=>exact (Kd.R_reads' HO107.out).2.1);(case side5=>exact aq61);(case side6=>exact (Kd.S_reads' HO110.out).2.1);(case side7=>exact aq63);(case side8=>exact (Kd.R_reads' HO113.out).2.1);rintro e w16 ⟨v118,rfl,ho0,hb⟩;replace HO104:=am (Kd.R_below aq17 hb);replace HO110:=am (Kd.S_elder' aq15 (Kd.R_base ho0) hb);replace HO113:=am (Kd.R_below aq16 hb);have HO119:=am (Kd.R_lower (Kd.R_new' ho0 (Kd.R_lt aq10)) (below_size aq12));replace HO107:=am (Kd.R_elder' aq10 (Kd.R_base ho0) hb);replace BK101:=am (blk_below (g:=gb101) (o:=.cells #[.string a0_0,.string a0_1,.int .i64 a0_2] 30 (0,0)) aq32 hb);replace BK116:=am (blk_below (g:=gb116) (o:=.cells #[.slice Ao10 t102.length co10,.slice Ao13 t105.length co13,.slice Ao14 t108.length co14,.slice Ao15 t111.length co15] 59 (0,0)) aq20 hb);replace HB:=am (below_step aq12 hb);(try clear hb);(try clear ho0);obtain ⟨hcz17_0,hcz17_1,hcz17_2,hcz17_3,hfz17_0,hfz17_1,hfz17_2,hfz17_3⟩:=blk4_ BK116.out;obtain ⟨hcz18_0,hcz18_1,hcz18_2,hfz18_0,hfz18_1,hfz18_2⟩:=blk3_ BK101.out) | (go_at_call 50;(with_reducible refine (impl_reach_cells.calls k _ _ t102 _ _ t105 _ _ t108 _ _ t111 a0_1 t120 _ ?side1 ?side2 ?side3 ?side4 ?side5 ?side6 ?side7 ?side8 A5.out).mono ?_);(case side1=>exact aq53);(case side2=>exact aq111);(case side3=>exact aq66);(case side4=>exact (Kd.R_reads' HO107.out).2.1);(case side5=>exact aq64);(case side6=>exact (Kd.S_reads' HO110.out).2.1);(case side7=>exact aq65);(case side8=>exact (Kd.R_reads' HO113.out).2.1);rintro e w19 ⟨v121,rfl,ho0,hb⟩;replace HO104:=am (Kd.R_below aq27 hb);replace HO110:=am (Kd.S_elder' aq38 (Kd.R_base ho0) hb);replace HO113:=am (Kd.R_below aq36 hb);have HO122:=am (Kd.R_lower (Kd.R_new' (Kd.R_new' ho0 (Kd.R_lt aq29)) (Kd.R_lt aq50)) (below_size aq12));replace HO107:=am (Kd.R_elder' aq29 (Kd.R_base ho0) hb);replace HO119:=am (Kd.R_elder' aq50 (Kd.R_base ho0) hb);replace BK101:=am (bb BK101 hb);replace BK116:=am (bb BK116 hb);replace HB:=am (below_step aq12 hb);(try clear hb);(try clear ho0);obtain ⟨Ao20,co20,eo20⟩:=Kd.R_slice HO122.out;subst eo20));try go_wp2_with (first | (refine bx 1 #[.string a0_0,.string a0_1,.int .i64 a0_2] 30 ?_;intro gb101 hg w6 hbox hb;have BK101:=am (hbox);have GW101:=am ((by rw [hg];exact (below_size aq2):w.heap.size ≤ gb101));have GE101:=GW101;replace HB:=am (below_step aq2 hb);clear hb hbox hg;obtain ⟨hcz7_0,hcz7_1,hcz7_2,hfz7_0,hfz7_1,hfz7_2⟩:=blk3_ BK101.out) | (go_at_call 55;(with_reducible refine (impl_solution.calls k a0_0 a0_1 a0_2 t102 t105 t108 t111 t114 true _ A2.out).mono ?_);rintro e w8 ⟨v103,v106,v109,v112,rfl,ho0,ho1,ho2,ho3,hb⟩;have HO104:=am (Kd.R_lower ho0 (below_size aq0));have HO107:=am (Kd.R_lower ho1 (below_size aq0));have HO110:=am (Kd.S_lower ho2 (below_size aq0));have HO113:=am (Kd.R_lower ho3 (below_size aq0));replace BK101:=am (bb BK101 hb);replace HB:=am (below_step aq0 hb);(try clear hb);(try clear ho0);(try clear ho1);(try clear ho2);(try clear ho3)) | (refine bx 4 #[.slice none 0 0,.slice none 0 0,.slice none 0 0,.slice none 0 0] 59 ?_;intro gb116 hg w9 hbox hb;replace HO104:=am (Kd.R_below aq27 hb);replace HO107:=am (Kd.R_below aq29 hb);replace HO110:=am (Kd.S_below aq38 hb);replace HO113:=am (Kd.R_below aq36 hb);have BK116:=am (hbox);have GW116:=am ((by rw [hg];exact (below_size aq0):w.heap.size ≤ gb116));have GE116:=GW116;replace HB:=am (below_step aq0 hb);have NB101_116:=am ((by rw [hg];exact Nat.ne_of_lt (blk_lt (g:=gb101) (o:=.cells #[.string a0_0,.string a0_1,.int .i64 a0_2] 30 (0,0)) aq1):gb101 ≠ gb116));have NB116_101:=am ((by rw [hg];exact Nat.ne_of_gt (blk_lt (g:=gb101) (o:=.cells #[.string a0_0,.string a0_1,.int .i64 a0_2] 30 (0,0)) aq1):gb116 ≠ gb101));replace BK101:=am (bb BK101 hb);clear hb hbox hg;obtain ⟨Ao10,co10,eo10⟩:=Kd.R_slice HO104.out;subst eo10;have hnb11:=NB116_101.out;have hnc11:=NB101_116.out;obtain ⟨hcz12_0,hcz12_1,hcz12_2,hcz12_3,hfz12_0,hfz12_1,hfz12_2,hfz12_3⟩:=blk4_ BK116.out;obtain ⟨Ao13,co13,eo13⟩:=Kd.R_slice HO107.out;subst eo13;obtain ⟨Ao14,co14,eo14⟩:=Kd.S_slice HO110.out;subst eo14;obtain ⟨Ao15,co15,eo15⟩:=Kd.R_slice HO113.out;subst eo15) | (go_at_call 57;(with_reducible refine (impl_reach_ways.calls k _ _ t102 _ _ t105 _ _ t108 _ _ t111 t117 _ ?side1 ?side2 ?side3 ?side4 ?side5 ?side6 ?side7 ?side8 A4.out).mono ?_);(case side1=>exact aq62);(case side2=>exact aq111);(case side3=>exact aq79);(case side4=>exact (Kd.R_reads' HO107.out).2.1);(case side5=>exact aq61);(case side6=>exact (Kd.S_reads' HO110.out).2.1);(case side7=>exact aq63);(case side8=>exact (Kd.R_reads' HO113.out).2.1);rintro e w16 ⟨v118,rfl,ho0,hb⟩;replace HO104:=am (Kd.R_below aq17 hb);replace HO110:=am (Kd.S_elder' aq15 (Kd.R_base ho0) hb);replace HO113:=am (Kd.R_below aq16 hb);have HO119:=am (Kd.R_lower (Kd.R_new' ho0 (Kd.R_lt aq10)) (below_size aq12));replace HO107:=am (Kd.R_elder' aq10 (Kd.R_base ho0) hb);replace BK101:=am (blk_below (g:=gb101) (o:=.cells #[.string a0_0,.string a0_1,.int .i64 a0_2] 30 (0,0)) aq32 hb);replace BK116:=am (blk_below (g:=gb116) (o:=.cells #[.slice Ao10 t102.length co10,.slice Ao13 t105.length co13,.slice Ao14 t108.length co14,.slice Ao15 t111.length co15] 59 (0,0)) aq20 hb);replace HB:=am (below_step aq12 hb);(try clear hb);(try clear ho0);obtain ⟨hcz17_0,hcz17_1,hcz17_2,hcz17_3,hfz17_0,hfz17_1,hfz17_2,hfz17_3⟩:=blk4_ BK116.out;obtain ⟨hcz18_0,hcz18_1,hcz18_2,hfz18_0,hfz18_1,hfz18_2⟩:=blk3_ BK101.out) | (go_at_call 50;(with_reducible refine (impl_reach_cells.calls k _ _ t102 _ _ t105 _ _ t108 _ _ t111 a0_1 t120 _ ?side1 ?side2 ?side3 ?side4 ?side5 ?side6 ?side7 ?side8 A5.out).mono ?_);(case side1=>exact aq53);(case side2=>exact aq111);(case side3=>exact aq66);(case side4=>exact (Kd.R_reads' HO107.out).2.1);(case side5=>exact aq64);(case side6=>exact (Kd.S_reads' HO110.out).2.1);(case side7=>exact aq65);(case side8=>exact (Kd.R_reads' HO113.out).2.1);rintro e w19 ⟨v121,rfl,ho0,hb⟩;replace HO104:=am (Kd.R_below aq27 hb);replace HO110:=am (Kd.S_elder' aq38 (Kd.R_base ho0) hb);replace HO113:=am (Kd.R_below aq36 hb);have HO122:=am (Kd.R_lower (Kd.R_new' (Kd.R_new' ho0 (Kd.R_lt aq29)) (Kd.R_lt aq50)) (below_size aq12));replace HO107:=am (Kd.R_elder' aq29 (Kd.R_base ho0) hb);replace HO119:=am (Kd.R_elder' aq50 (Kd.R_base ho0) hb);replace BK101:=am (bb BK101 hb);replace BK116:=am (bb BK116 hb);replace HB:=am (below_step aq12 hb);(try clear hb);(try clear ho0);obtain ⟨Ao20,co20,eo20⟩:=Kd.R_slice HO122.out;subst eo20)))
 go_loopg [7,26] k (fun kq v7 v26 w'=>∃ (x7_1:Int) (x26_1:Int),v7 = .int .i64 x7_1 ∧ v26 = .int .i64 x26_1 ∧ Aside0 (impl_CountSolutions.l0 kq t114 x7_1 t117 t120 (t120.length:Int) x26_1 a0_0 a0_1 a0_2 t102 t105 t108 t111 = some (r1,r2)) ∧ Aside0 (kq ≤ k) ∧ Aside0 (Kd.R (Kd.int .i64) 3 w' w.heap.size (fun k_=>some k_ ≠ ((.slice Ao20 t120.length co20):Value).ownBlock ∧ some k_ ≠ ((.slice Ao13 t105.length co13):Value).ownBlock) v118 t117) ∧ Aside0 (Kd.R (Kd.int .i64) 3 w' w.heap.size (fun k_=>some k_ ≠ (v118:Value).ownBlock ∧ some k_ ≠ ((.slice Ao13 t105.length co13):Value).ownBlock) (.slice Ao20 t120.length co20) t120) ∧ Aside0 (Kd.R Kd.string 9 w' w.heap.size (fun k_=>some k_ ≠ ((.slice Ao15 t111.length co15):Value).ownBlock) (.slice Ao10 t102.length co10) t102) ∧ Aside0 (Kd.R (Kd.int .i64) 3 w' w.heap.size (fun k_=>some k_ ≠ (v118:Value).ownBlock ∧ some k_ ≠ ((.slice Ao20 t120.length co20):Value).ownBlock) (.slice Ao13 t105.length co13) t105) ∧ Aside0 (Kd.S (Kd.slice 3 (Kd.int .i64)) 40 w' w.heap.size (fun k_=>some k_ ≠ (v118:Value).ownBlock ∧ some k_ ≠ ((.slice Ao20 t120.length co20):Value).ownBlock ∧ some k_ ≠ ((.slice Ao13 t105.length co13):Value).ownBlock) (.slice Ao14 t108.length co14) t108) ∧ Aside0 (Kd.R Kd.string 9 w' w.heap.size (fun k_=>some k_ ≠ ((.slice Ao10 t102.length co10):Value).ownBlock) (.slice Ao15 t111.length co15) t111) ∧ Aside0 (w'.heap[gb101]? = some (.cells #[.string a0_0,.string a0_1,.int .i64 a0_2] 30 (0,0))) ∧ Aside0 (w'.heap[gb116]? = some (.cells #[(.slice Ao10 t102.length co10),(.slice Ao13 t105.length co13),(.slice Ao14 t108.length co14),(.slice Ao15 t111.length co15)] 59 (0,0))) ∧ Aside0 (Below w.heap.size w w'))
 case atStart=>exact ⟨(0),(0),aq7,aq7,H',⟨Nat.le_refl _⟩,⟨by (with_reducible repeat (first | apply Kd.R_alloc | apply Kd.R_drewN | apply Kd.R_drew));exact Kd.R_mono HO119.out (fun _ hk=>⟨hk.2,hk.1.2⟩)⟩,⟨by (with_reducible repeat (first | apply Kd.R_alloc | apply Kd.R_drewN | apply Kd.R_drew));exact Kd.R_mono HO122.out (fun _ hk=>⟨hk.2,hk.1.2⟩)⟩,⟨aq27⟩,⟨by (with_reducible repeat (first | apply Kd.R_alloc | apply Kd.R_drewN | apply Kd.R_drew));exact Kd.R_mono HO107.out (fun _ hk=>⟨hk.1.2,hk.2⟩)⟩,⟨by (with_reducible repeat (first | apply Kd.S_alloc | apply Kd.S_drewN | apply Kd.S_drew));exact Kd.S_mono HO110.out (fun _ hk=>⟨hk.1.2,⟨hk.2,hk.1.1⟩⟩)⟩,⟨aq36⟩,⟨aq1⟩,⟨aq40⟩,⟨aq12⟩⟩
 case round =>
  clear H'
  try clear c1
  try clear c2
  try clear p2
  try clear c3
  try clear c11
  try clear hcz12_0
  try clear hcz12_1
  try clear hcz12_2
  try clear hcz12_3
  try clear hcz17_0
  try clear hcz17_1
  try clear hcz17_2
  try clear hcz17_3
  try clear hcz18_0
  try clear hcz18_1
  try clear hcz18_2
  try clear hcz7_0
  try clear hcz7_1
  try clear hcz7_2
  try clear hfz12_0
  try clear hfz12_1
  try clear hfz12_2
  try clear hfz12_3
  try clear hfz17_0
  try clear hfz17_1
  try clear hfz17_2
  try clear hfz17_3
  try clear hfz18_0
  try clear hfz18_1
  try clear hfz18_2
  try clear hfz7_0
  try clear hfz7_1
  try clear hfz7_2
  obtain ⟨x7_1,x26_1,rfl,rfl,HA,HK1,HO_8,HO_24,HO_117000,HO_117001,HO_117002,HO_117003,BK101,BK116,HB⟩:=hrel
  cases gk with
  | zero=>exact absurd HA.out (by simp [impl_CountSolutions.l0])
  | succ k1 =>
   have H:=HA.out
   clear HA
   simp only [impl_CountSolutions.l0] at H
   by_cases c21:x26_1 < (t120.length:Int)
   rotate_left
   ·rw [if_neg c21] at H
    have c21b0:=decide_eq_false c21
    clear c21
    simp only [Option.some.injEq,Prod.mk.injEq] at H
    obtain ⟨rfl,rfl⟩:=H
    go_wp2
    repeat (go_quiet (fail);try go_wp2)
    go_ret2
    exact ⟨aq8,aq12⟩
   rw [if_pos c21] at H
   have c21b0:=decide_eq_true c21
   clear c21
   replace H:=gd H
   obtain ⟨c22,H⟩:=H
   have c22b0:=decide_eq_true c22
   clear c22
   replace H:=gd H
   obtain ⟨c23,H⟩:=H
   have c23b0:=decide_eq_true c23
   clear c23
   by_cases c24:(rd t120 x26_1) = a0_2
   rotate_left
   ·rw [if_neg c24] at H
    have c24b0:=beq_eq_false_iff_ne.mpr c24
    have c24b1:=bne_iff_ne.mpr c24
    have H':=am H
    clear H
    have p123:0 ≤ (x26_1:Int):=of_decide_eq_true aq5
    have q123:x26_1 < (t120.length:Int):=of_decide_eq_true aq5
    obtain ⟨ad123,e123,hx123_0⟩:=Kd.at_int (Kd.R_reads' HO_24.out).2.2 x26_1 p123 q123
    cases e123
    replace p123:=eq_true p123
    replace q123:=eq_true q123
    have hnb37:=NB101_116.out
    have hnc37:=NB116_101.out
    obtain ⟨hcz38_0,hcz38_1,hcz38_2,hfz38_0,hfz38_1,hfz38_2⟩:=blk3_ BK101.out
    go_wp2
    repeat (go_quiet (fail);try go_wp2)
    go_roundg k1
    case measure=>have:=HK1.out;omega
    case rel=>exact ⟨(x7_1),(wrap64 (x26_1 + 1)),aq7,aq7,H',⟨aq77⟩,⟨aq25⟩,⟨aq86⟩,⟨aq84⟩,⟨aq83⟩,⟨aq81⟩,⟨aq82⟩,⟨aq1⟩,⟨aq40⟩,⟨aq12⟩⟩
   rw [if_pos c24] at H
   have c24b0:=beq_iff_eq.mpr c24
   have c24b1:=bne_eq_false_iff_eq.mpr c24
   clear c24
   replace H:=gd H
   obtain ⟨c25,H⟩:=H
   have c25b0:=decide_eq_true c25
   clear c25
   replace H:=gd H
   obtain ⟨c26,H⟩:=H
   have c26b0:=decide_eq_true c26
   clear c26
   replace H:=gd H
   obtain ⟨c27,H⟩:=H
   have c27b0:=decide_eq_true c27
   clear c27
   by_cases c28:(rd t105 x26_1) = (rd t105 t114)
   rotate_left
   ·rw [if_neg c28] at H
    have c28b0:=beq_eq_false_iff_ne.mpr c28
    have c28b1:=bne_iff_ne.mpr c28
    have H':=am H
    clear H
    have p123:0 ≤ (x26_1:Int):=of_decide_eq_true aq5
    have q123:x26_1 < (t120.length:Int):=of_decide_eq_true aq5
    obtain ⟨ad123,e123,hx123_0⟩:=Kd.at_int (Kd.R_reads' HO_24.out).2.2 x26_1 p123 q123
    cases e123
    replace p123:=eq_true p123
    replace q123:=eq_true q123
    have hnb34:=NB101_116.out
    have hnc34:=NB116_101.out
    obtain ⟨hcz35_0,hcz35_1,hcz35_2,hfz35_0,hfz35_1,hfz35_2⟩:=blk3_ BK101.out
    obtain ⟨hcz36_0,hcz36_1,hcz36_2,hcz36_3,hfz36_0,hfz36_1,hfz36_2,hfz36_3⟩:=blk4_ BK116.out
    have p124:0 ≤ (x26_1:Int):=of_decide_eq_true aq5
    have q124:x26_1 < (t105.length:Int):=of_decide_eq_true aq5
    obtain ⟨ad124,e124,hx124_0⟩:=Kd.at_int (Kd.R_reads' HO_117001.out).2.2 x26_1 p124 q124
    cases e124
    replace p124:=eq_true p124
    replace q124:=eq_true q124
    have p125:0 ≤ (t114:Int):=of_decide_eq_true aq5
    have q125:t114 < (t105.length:Int):=of_decide_eq_true aq5
    obtain ⟨ad125,e125,hx125_0⟩:=Kd.at_int (Kd.R_reads' HO_117001.out).2.2 t114 p125 q125
    obtain rfl:ad124 = ad125:=(by injection e125)
    replace p125:=eq_true p125
    replace q125:=eq_true q125
    go_wp2
    repeat (go_quiet (fail);try go_wp2)
    go_roundg k1
    case measure=>have:=HK1.out;omega
    case rel=>exact ⟨(x7_1),(wrap64 (x26_1 + 1)),aq7,aq7,H',⟨aq77⟩,⟨aq25⟩,⟨aq86⟩,⟨aq84⟩,⟨aq83⟩,⟨aq81⟩,⟨aq82⟩,⟨aq1⟩,⟨aq40⟩,⟨aq12⟩⟩
   rw [if_pos c28] at H
   have c28b0:=beq_iff_eq.mpr c28
   have c28b1:=bne_eq_false_iff_eq.mpr c28
   clear c28
   replace H:=gd H
   obtain ⟨c29,H⟩:=H
   have c29b0:=decide_eq_true c29
   clear c29
   have H':=am H
   clear H
   have p123:0 ≤ (x26_1:Int):=of_decide_eq_true aq5
   have q123:x26_1 < (t120.length:Int):=of_decide_eq_true aq5
   obtain ⟨ad123,e123,hx123_0⟩:=Kd.at_int (Kd.R_reads' HO_24.out).2.2 x26_1 p123 q123
   cases e123
   replace p123:=eq_true p123
   replace q123:=eq_true q123
   have hnb30:=NB101_116.out
   have hnc30:=NB116_101.out
   obtain ⟨hcz31_0,hcz31_1,hcz31_2,hfz31_0,hfz31_1,hfz31_2⟩:=blk3_ BK101.out
   obtain ⟨hcz32_0,hcz32_1,hcz32_2,hcz32_3,hfz32_0,hfz32_1,hfz32_2,hfz32_3⟩:=blk4_ BK116.out
   have p124:0 ≤ (x26_1:Int):=of_decide_eq_true aq5
   have q124:x26_1 < (t105.length:Int):=of_decide_eq_true aq5
   obtain ⟨ad124,e124,hx124_0⟩:=Kd.at_int (Kd.R_reads' HO_117001.out).2.2 x26_1 p124 q124
   cases e124
   replace p124:=eq_true p124
   replace q124:=eq_true q124
   have p125:0 ≤ (t114:Int):=of_decide_eq_true aq5
   have q125:t114 < (t105.length:Int):=of_decide_eq_true aq5
   obtain ⟨ad125,e125,hx125_0⟩:=Kd.at_int (Kd.R_reads' HO_117001.out).2.2 t114 p125 q125
   obtain rfl:ad124 = ad125:=(by injection e125)
   replace p125:=eq_true p125
   replace q125:=eq_true q125
   obtain ⟨Ao33,co33,eo33⟩:=Kd.R_slice HO_8.out
   subst eo33
   have p126:0 ≤ (x26_1:Int):=of_decide_eq_true aq5
   have q126:x26_1 < (t117.length:Int):=of_decide_eq_true aq5
   obtain ⟨ad126,e126,hx126_0⟩:=Kd.at_int (Kd.R_reads' HO_8.out).2.2 x26_1 p126 q126
   cases e126
   replace p126:=eq_true p126
   replace q126:=eq_true q126
   go_wp2
   repeat (go_quiet (fail);try go_wp2)
   go_roundg k1
   case measure=>have:=HK1.out;omega
   case rel=>exact ⟨(wrap64 (x7_1 + (rd t117 x26_1))),(wrap64 (x26_1 + 1)),aq7,aq7,H',⟨aq77⟩,⟨aq25⟩,⟨aq86⟩,⟨aq84⟩,⟨aq83⟩,⟨aq81⟩,⟨aq82⟩,⟨aq1⟩,⟨aq40⟩,⟨aq12⟩⟩
def laws_FnExactCountSolutions.f (k:Nat) (a0_0:ByteArray) (a0_1:ByteArray) (a0_2:Int):Option (Bool):=(laws_szPuzzle.f a0_0 a0_1 a0_2 1048576).bind fun t102=>(if t102 < 0 then (some true) else ((laws_toPuzzle.f a0_0 a0_1 a0_2).bind fun bt103=>((spec_CountSolutions.f bt103.1 bt103.2.1 bt103.2.2).bind fun bt106=>((laws_toPuzzle.f a0_0 a0_1 a0_2).bind fun bt108=>((impl_CountSolutions.f k bt108.1 bt108.2.1 bt108.2.2).bind fun bt111=>(if bt111.1 = bt106.1 then (if (bt111.2 != bt106.2) = true then (some false) else (some true)) else (some false)))))))
theorem laws_FnExactCountSolutions.calls (k:Nat) (a0_0:ByteArray) (a0_1:ByteArray) (a0_2:Int) (r:Bool) (w:World) (h:laws_FnExactCountSolutions.f k a0_0 a0_1 a0_2 = some r) :
  Calls Tryz.prog 6 #[.agg #[.string a0_0,.string a0_1,.int .i64 a0_2]] w fun e w'=>e = .returned (.bool r) ∧ Below w.heap.size w w':=by
 have hu26:=Tryz.underlying26
 have HB:=am (Below.refl w.heap.size w)
 have H:((laws_szPuzzle.f a0_0 a0_1 a0_2 1048576).bind fun t102=>(if t102 < 0 then (some true) else ((laws_toPuzzle.f a0_0 a0_1 a0_2).bind fun bt103=>((spec_CountSolutions.f bt103.1 bt103.2.1 bt103.2.2).bind fun bt106=>((laws_toPuzzle.f a0_0 a0_1 a0_2).bind fun bt108=>((impl_CountSolutions.f k bt108.1 bt108.2.1 bt108.2.2).bind fun bt111=>(if bt111.1 = bt106.1 then (if (bt111.2 != bt106.2) = true then (some false) else (some true)) else (some false)))))))) = some r:=h
 clear h
 obtain ⟨t102,A2,H⟩:=bn H
 by_cases c3:t102 < 0
 ·rw [if_pos c3] at H
  have c3b0:=decide_eq_true c3
  clear c3
  obtain rfl:=Option.some.inj H
  go_enter Tryz.func6,Tryz.ntmps6
  go_wp2_with (first | (refine bx 1 #[.string a0_0,.string a0_1,.int .i64 a0_2] 26 ?_;intro gb101 hg w4 hbox hb;have BK101:=am (hbox);have GW101:=am ((by rw [hg];exact (below_size aq2):w.heap.size ≤ gb101));have GE101:=GW101;replace HB:=am (below_step aq2 hb);clear hb hbox hg;obtain ⟨hcz5_0,hcz5_1,hcz5_2,hfz5_0,hfz5_1,hfz5_2⟩:=blk3_ BK101.out) | ((with_reducible refine gate_callee (f:=16) rfl ?_);refine goesL_ (some 10) rfl rfl Tryz.func16 k_r rfl #[.agg #[.string a0_0,.string a0_1,.int .i64 a0_2],.int .i64 1048576] rfl aq4 ?_;(with_reducible refine (laws_szPuzzle.calls a0_0 a0_1 a0_2 1048576 t102 _ A2.out).mono ?_);rintro e w6 ⟨rfl,hb⟩;refine ⟨_,rfl,?_⟩;replace BK101:=am (bb BK101 hb);replace HB:=am (below_step aq0 hb);(try clear hb)))
  go_ret
  exact ⟨aq8,aq0⟩
 rw [if_neg c3] at H
 have c3b0:=decide_eq_false c3
 clear c3
 replace H:=Option.bind_eq_some_iff.mp H
 obtain ⟨⟨t103,t104,t105⟩,A70,H⟩:=H
 replace H:((spec_CountSolutions.f t103 t104 t105).bind fun bt106=>((laws_toPuzzle.f a0_0 a0_1 a0_2).bind fun bt108=>((impl_CountSolutions.f k bt108.1 bt108.2.1 bt108.2.2).bind fun bt111=>(if bt111.1 = bt106.1 then (if (bt111.2 != bt106.2) = true then (some false) else (some true)) else (some false))))) = some r:=H
 have A7:=am A70
 clear A70
 replace H:=Option.bind_eq_some_iff.mp H
 obtain ⟨⟨t106,t107⟩,A80,H⟩:=H
 replace H:((laws_toPuzzle.f a0_0 a0_1 a0_2).bind fun bt108=>((impl_CountSolutions.f k bt108.1 bt108.2.1 bt108.2.2).bind fun bt111=>(if bt111.1 = t106 then (if (bt111.2 != t107) = true then (some false) else (some true)) else (some false)))) = some r:=H
 have A8:=am A80
 clear A80
 replace H:=Option.bind_eq_some_iff.mp H
 obtain ⟨⟨t108,t109,t110⟩,A90,H⟩:=H
 replace H:((impl_CountSolutions.f k t108 t109 t110).bind fun bt111=>(if bt111.1 = t106 then (if (bt111.2 != t107) = true then (some false) else (some true)) else (some false))) = some r:=H
 have A9:=am A90
 clear A90
 replace H:=Option.bind_eq_some_iff.mp H
 obtain ⟨⟨t111,t112⟩,A100,H⟩:=H
 replace H:(if t111 = t106 then (if (t112 != t107) = true then (some false) else (some true)) else (some false)) = some r:=H
 have A10:=am A100
 clear A100
 by_cases c11:t111 = t106
 rotate_left
 ·rw [if_neg c11] at H
  have c11b0:=beq_eq_false_iff_ne.mpr c11
  have c11b1:=bne_iff_ne.mpr c11
  obtain rfl:=Option.some.inj H
  go_enter Tryz.func6,Tryz.ntmps6
  go_wp2_with (first | (refine bx 1 #[.string a0_0,.string a0_1,.int .i64 a0_2] 26 ?_;intro gb101 hg w31 hbox hb;have BK101:=am (hbox);have GW101:=am ((by rw [hg];exact (below_size aq2):w.heap.size ≤ gb101));have GE101:=GW101;replace HB:=am (below_step aq2 hb);clear hb hbox hg;obtain ⟨hcz32_0,hcz32_1,hcz32_2,hfz32_0,hfz32_1,hfz32_2⟩:=blk3_ BK101.out) | ((with_reducible refine gate_callee (f:=16) rfl ?_);refine goesL_ (some 10) rfl rfl Tryz.func16 k_r rfl #[.agg #[.string a0_0,.string a0_1,.int .i64 a0_2],.int .i64 1048576] rfl aq4 ?_;(with_reducible refine (laws_szPuzzle.calls a0_0 a0_1 a0_2 1048576 t102 _ A2.out).mono ?_);rintro e w33 ⟨rfl,hb⟩;refine ⟨_,rfl,?_⟩;replace BK101:=am (bb BK101 hb);replace HB:=am (below_step aq0 hb);(try clear hb);obtain ⟨hcz34_0,hcz34_1,hcz34_2,hfz34_0,hfz34_1,hfz34_2⟩:=blk3_ BK101.out) | ((with_reducible refine gate_callee (f:=18) rfl ?_);refine goesL_ (some 15) rfl rfl Tryz.func18 k_r rfl #[.agg #[.string a0_0,.string a0_1,.int .i64 a0_2]] rfl aq4 ?_;(with_reducible refine (laws_toPuzzle.calls a0_0 a0_1 a0_2 t103 t104 t105 _ A7.out).mono ?_);rintro e w35 ⟨rfl,hb⟩;refine ⟨_,rfl,?_⟩;replace BK101:=am (bb BK101 hb);replace HB:=am (below_step aq0 hb);(try clear hb)) | ((with_reducible refine gate_callee (f:=22) rfl ?_);refine goesL_ (some 16) rfl rfl Tryz.func22 k_r rfl #[.agg #[.string t103,.string t104,.int .i64 t105]] rfl aq4 ?_;(with_reducible refine (spec_CountSolutions.calls t103 t104 t105 t106 t107 _ A8.out).mono ?_);rintro e w36 ⟨rfl,hb⟩;refine ⟨_,rfl,?_⟩;replace BK101:=am (bb BK101 hb);replace HB:=am (below_step aq0 hb);(try clear hb);obtain ⟨hcz37_0,hcz37_1,hcz37_2,hfz37_0,hfz37_1,hfz37_2⟩:=blk3_ BK101.out) | ((with_reducible refine gate_callee (f:=18) rfl ?_);refine goesL_ (some 21) rfl rfl Tryz.func18 k_r rfl #[.agg #[.string a0_0,.string a0_1,.int .i64 a0_2]] rfl aq4 ?_;(with_reducible refine (laws_toPuzzle.calls a0_0 a0_1 a0_2 t108 t109 t110 _ A9.out).mono ?_);rintro e w38 ⟨rfl,hb⟩;refine ⟨_,rfl,?_⟩;replace BK101:=am (bb BK101 hb);replace HB:=am (below_step aq0 hb);(try clear hb)) | ((with_reducible refine gate_callee (f:=23) rfl ?_);refine goesL_ (some 22) rfl rfl Tryz.func23 k_r rfl #[.agg #[.string t108,.string t109,.int .i64 t110]] rfl aq4 ?_;(with_reducible refine (impl_CountSolutions.calls k t108 t109 t110 t111 t112 _ A10.out).mono ?_);rintro e w39 ⟨rfl,hb⟩;refine ⟨_,rfl,?_⟩;replace BK101:=am (bb BK101 hb);replace HB:=am (below_step aq0 hb);(try clear hb)))
  go_ret
  exact ⟨aq8,aq0⟩
 rw [if_pos c11] at H
 have c11b0:=beq_iff_eq.mpr c11
 have c11b1:=bne_eq_false_iff_eq.mpr c11
 clear c11
 by_cases c12:(t112 != t107) = true
 rotate_left
 ·rw [if_neg c12] at H
  have c12b0:(t112 != t107) = false:=by simpa using c12
  (try (have c12b1:decide (t112 = t107) = true:=by simpa using c12))
  (try (have c12b2:(t112 == t107) = true:=by simpa using c12))
  clear c12
  obtain rfl:=Option.some.inj H
  go_enter Tryz.func6,Tryz.ntmps6
  go_wp2_with (first | (refine bx 1 #[.string a0_0,.string a0_1,.int .i64 a0_2] 26 ?_;intro gb101 hg w22 hbox hb;have BK101:=am (hbox);have GW101:=am ((by rw [hg];exact (below_size aq2):w.heap.size ≤ gb101));have GE101:=GW101;replace HB:=am (below_step aq2 hb);clear hb hbox hg;obtain ⟨hcz23_0,hcz23_1,hcz23_2,hfz23_0,hfz23_1,hfz23_2⟩:=blk3_ BK101.out) | ((with_reducible refine gate_callee (f:=16) rfl ?_);refine goesL_ (some 10) rfl rfl Tryz.func16 k_r rfl #[.agg #[.string a0_0,.string a0_1,.int .i64 a0_2],.int .i64 1048576] rfl aq4 ?_;(with_reducible refine (laws_szPuzzle.calls a0_0 a0_1 a0_2 1048576 t102 _ A2.out).mono ?_);rintro e w24 ⟨rfl,hb⟩;refine ⟨_,rfl,?_⟩;replace BK101:=am (bb BK101 hb);replace HB:=am (below_step aq0 hb);(try clear hb);obtain ⟨hcz25_0,hcz25_1,hcz25_2,hfz25_0,hfz25_1,hfz25_2⟩:=blk3_ BK101.out) | ((with_reducible refine gate_callee (f:=18) rfl ?_);refine goesL_ (some 15) rfl rfl Tryz.func18 k_r rfl #[.agg #[.string a0_0,.string a0_1,.int .i64 a0_2]] rfl aq4 ?_;(with_reducible refine (laws_toPuzzle.calls a0_0 a0_1 a0_2 t103 t104 t105 _ A7.out).mono ?_);rintro e w26 ⟨rfl,hb⟩;refine ⟨_,rfl,?_⟩;replace BK101:=am (bb BK101 hb);replace HB:=am (below_step aq0 hb);(try clear hb)) | ((with_reducible refine gate_callee (f:=22) rfl ?_);refine goesL_ (some 16) rfl rfl Tryz.func22 k_r rfl #[.agg #[.string t103,.string t104,.int .i64 t105]] rfl aq4 ?_;(with_reducible refine (spec_CountSolutions.calls t103 t104 t105 t106 t107 _ A8.out).mono ?_);rintro e w27 ⟨rfl,hb⟩;refine ⟨_,rfl,?_⟩;replace BK101:=am (bb BK101 hb);replace HB:=am (below_step aq0 hb);(try clear hb);obtain ⟨hcz28_0,hcz28_1,hcz28_2,hfz28_0,hfz28_1,hfz28_2⟩:=blk3_ BK101.out) | ((with_reducible refine gate_callee (f:=18) rfl ?_);refine goesL_ (some 21) rfl rfl Tryz.func18 k_r rfl #[.agg #[.string a0_0,.string a0_1,.int .i64 a0_2]] rfl aq4 ?_;(with_reducible refine (laws_toPuzzle.calls a0_0 a0_1 a0_2 t108 t109 t110 _ A9.out).mono ?_);rintro e w29 ⟨rfl,hb⟩;refine ⟨_,rfl,?_⟩;replace BK101:=am (bb BK101 hb);replace HB:=am (below_step aq0 hb);(try clear hb)) | ((with_reducible refine gate_callee (f:=23) rfl ?_);refine goesL_ (some 22) rfl rfl Tryz.func23 k_r rfl #[.agg #[.string t108,.string t109,.int .i64 t110]] rfl aq4 ?_;(with_reducible refine (impl_CountSolutions.calls k t108 t109 t110 t111 t112 _ A10.out).mono ?_);rintro e w30 ⟨rfl,hb⟩;refine ⟨_,rfl,?_⟩;replace BK101:=am (bb BK101 hb);replace HB:=am (below_step aq0 hb);(try clear hb)))
  go_ret
  exact ⟨aq8,aq0⟩
 rw [if_pos c12] at H
 have c12b0:(t112 != t107) = true:=c12
 (try (have c12b1:decide (t112 = t107) = false:=by simpa using c12))
 (try (have c12b2:(t112 == t107) = false:=by simpa using c12))
 (try (have c12b3:¬ (t112 = t107):=by simpa using c12))
 clear c12
 obtain rfl:=Option.some.inj H
 go_enter Tryz.func6,Tryz.ntmps6
 go_wp2_with (first | (refine bx 1 #[.string a0_0,.string a0_1,.int .i64 a0_2] 26 ?_;intro gb101 hg w13 hbox hb;have BK101:=am (hbox);have GW101:=am ((by rw [hg];exact (below_size aq2):w.heap.size ≤ gb101));have GE101:=GW101;replace HB:=am (below_step aq2 hb);clear hb hbox hg;obtain ⟨hcz14_0,hcz14_1,hcz14_2,hfz14_0,hfz14_1,hfz14_2⟩:=blk3_ BK101.out) | ((with_reducible refine gate_callee (f:=16) rfl ?_);refine goesL_ (some 10) rfl rfl Tryz.func16 k_r rfl #[.agg #[.string a0_0,.string a0_1,.int .i64 a0_2],.int .i64 1048576] rfl aq4 ?_;(with_reducible refine (laws_szPuzzle.calls a0_0 a0_1 a0_2 1048576 t102 _ A2.out).mono ?_);rintro e w15 ⟨rfl,hb⟩;refine ⟨_,rfl,?_⟩;replace BK101:=am (bb BK101 hb);replace HB:=am (below_step aq0 hb);(try clear hb);obtain ⟨hcz16_0,hcz16_1,hcz16_2,hfz16_0,hfz16_1,hfz16_2⟩:=blk3_ BK101.out) | ((with_reducible refine gate_callee (f:=18) rfl ?_);refine goesL_ (some 15) rfl rfl Tryz.func18 k_r rfl #[.agg #[.string a0_0,.string a0_1,.int .i64 a0_2]] rfl aq4 ?_;(with_reducible refine (laws_toPuzzle.calls a0_0 a0_1 a0_2 t103 t104 t105 _ A7.out).mono ?_);rintro e w17 ⟨rfl,hb⟩;refine ⟨_,rfl,?_⟩;replace BK101:=am (bb BK101 hb);replace HB:=am (below_step aq0 hb);(try clear hb)) | ((with_reducible refine gate_callee (f:=22) rfl ?_);refine goesL_ (some 16) rfl rfl Tryz.func22 k_r rfl #[.agg #[.string t103,.string t104,.int .i64 t105]] rfl aq4 ?_;(with_reducible refine (spec_CountSolutions.calls t103 t104 t105 t106 t107 _ A8.out).mono ?_);rintro e w18 ⟨rfl,hb⟩;refine ⟨_,rfl,?_⟩;replace BK101:=am (bb BK101 hb);replace HB:=am (below_step aq0 hb);(try clear hb);obtain ⟨hcz19_0,hcz19_1,hcz19_2,hfz19_0,hfz19_1,hfz19_2⟩:=blk3_ BK101.out) | ((with_reducible refine gate_callee (f:=18) rfl ?_);refine goesL_ (some 21) rfl rfl Tryz.func18 k_r rfl #[.agg #[.string a0_0,.string a0_1,.int .i64 a0_2]] rfl aq4 ?_;(with_reducible refine (laws_toPuzzle.calls a0_0 a0_1 a0_2 t108 t109 t110 _ A9.out).mono ?_);rintro e w20 ⟨rfl,hb⟩;refine ⟨_,rfl,?_⟩;replace BK101:=am (bb BK101 hb);replace HB:=am (below_step aq0 hb);(try clear hb)) | ((with_reducible refine gate_callee (f:=23) rfl ?_);refine goesL_ (some 22) rfl rfl Tryz.func23 k_r rfl #[.agg #[.string t108,.string t109,.int .i64 t110]] rfl aq4 ?_;(with_reducible refine (impl_CountSolutions.calls k t108 t109 t110 t111 t112 _ A10.out).mono ?_);rintro e w21 ⟨rfl,hb⟩;refine ⟨_,rfl,?_⟩;replace BK101:=am (bb BK101 hb);replace HB:=am (below_step aq0 hb);(try clear hb)))
 go_ret
 exact ⟨aq8,aq0⟩
end Go.Proofs.YtldhkbiomingbaaGreatDoor.F

namespace Go.Proofs.YtldhkbiomingbaaGreatDoor.F
open Go.RowKit Go.Proofs.YtldhkbiomingbaaGreatDoor Go.YW.PrintWords Go.YW.PrintMore
theorem word_le {w h:Nat} {cs:List Int} {s:RS} (o:RS.Ok w h cs s):∀ (m i:Nat),i ≤ m → i < s.T.length → (s.W.getD i []).length ≤ i
 | 0,i,hm,hi=>by
  obtain rfl:i = 0:=by omega
  rw [o.first];exact Nat.le_refl _
 | m + 1,i,hm,hi=>by
  by_cases h0:i = 0
  ·subst h0;rw [o.first];exact Nat.le_refl _
  obtain ⟨b1,_,b3⟩:=o.back i hi o_m
  have:=word_le o m _ o_m (Nat.lt_trans b1 hi)
  rw [b3,List.length_append,List.length_singleton]
  omega
theorem farF_le {w h:Nat} {cs:List Int} {s:RS} (o:RS.Ok w h cs s):∀ a ∈ s.F,a ≤ 300:=fun a ha=>by
 obtain ⟨i,hi,rfl⟩:=List.getElem_of_mem ha
 have hi':i < s.T.length:=by rw [← o.lF];exact hi
 have h1:=o.far i hi'
 have h2:=word_le o i i (Nat.le_refl _) hi'
 rw [getD_lt hi] at h1
 have:=o.most
 omega
theorem waysN_len (F:List Nat):∀ (L:List (List Nat)) (i:Nat) (Q:List Int),(waysN F i L Q).length = Q.length
 | [],_,_=>rfl
 | l :: L,i,Q=>by
  unfold waysN
  rw [waysN_len F L]
  clear L
  induction l generalizing Q with
  | nil=>rfl
  | cons a r ih=>rw [List.foldl_cons,ih,addW_len]
theorem waysL_len {w h:Nat} {cs:List Int} {s:RS} (o:RS.Ok w h cs s):(waysL s).length = s.T.length:=by
 unfold waysL
 rw [waysN_len,List.length_cons,zerosI_len]
 have:=o.pos
 omega
theorem cnt_l0 {w h:Nat} {cs:List Int} {s:RS} (o:RS.Ok w h cs s) {t n:ByteArray} {goal:Int} {i:Nat} (hi:i < s.T.length) (TT:List ByteArray) (NN:List (List Int)) (WW:List ByteArray) :
  ∀ (d k:Nat),k + d = s.T.length → Ev (fun f=>impl_CountSolutions.l0 f (i:Int) (cntN s (bt n 0) goal (s.F.getD i 0) k) (waysL s) (cellsI s (bt n 0)) ((cellsI s (bt n 0)).length:Int) (k:Int) t n goal TT (castsI s.F) NN WW) (cntN s (bt n 0) goal (s.F.getD i 0) s.T.length,true)
 | 0,k,hk=>by
  obtain rfl:k = s.T.length:=by omega
  exact Ev.step (fun f=>by rw [impl_CountSolutions.l0,if_neg (by rw [cellsI_len];omega)]) (Ev.now _)
 | d + 1,k,hk=>by
  have hlt:k < s.T.length:=by omega
  have hm:=o.most
  have ih:=cnt_l0 o (t:=t) (n:=n) (goal:=goal) hi TT NN WW d (k + 1) o_m
  have hW:wrap64 ((k:Int) + 1) = ((k + 1:Nat):Int):=w64t (n:=k + 1) o_m
  have hc:rd (cellsI s (bt n 0)) (k:Int) = placeI (bt n 0) (s.T.getD k []):=by
   unfold rd;rw [Int.toNat_natCast];exact cellsI_get s _ hlt
  have hk1:(k:Int) < ((cellsI s (bt n 0)).length:Int):=by rw [cellsI_len];omega
  have hk2:(k:Int) < ((castsI s.F).length:Int):=by rw [castsI_length,o.lF];omega
  have hk3:(k:Int) < ((waysL s).length:Int):=by rw [waysL_len o];omega
  have hi2:(i:Int) < ((castsI s.F).length:Int):=by rw [castsI_length,o.lF];omega
  have hrk:=casts_far (s:=s) (i:=k) (by rw [o.lF];exact hlt)
  have hri:=casts_far (s:=s) (i:=i) (by rw [o.lF];exact hi)
  have hrw:rd (waysL s) (k:Int) = (waysL s).getD k 0:=by unfold rd;rw [Int.toNat_natCast]
  refine Ev.step (fun f=>?_) ih
  rw [impl_CountSolutions.l0,if_pos hk1,if_pos (Int.natCast_nonneg k),if_pos hk1,hc,hW,cntN_succ]
  by_cases e:placeI (bt n 0) (s.T.getD k []) = goal
  rotate_left
  ·rw [if_neg e,if_neg (fun q=>e q.2)]
  rw [if_pos e,if_pos hk2,if_pos (Int.natCast_nonneg i),if_pos hi2,hrk,hri]
  by_cases f2:s.F.getD k 0 = s.F.getD i 0
  rotate_left
  ·rw [if_neg (fun q=>f2 (Int.ofNat_inj.1 q)),if_neg (fun q=>f2 q.1)]
  rw [if_pos (congrArg (fun x:Nat=>(x:Int)) f2),if_pos hk3,hrw,if_pos (show s.F.getD k 0 = s.F.getD i 0 ∧ _ from ⟨f2,e⟩)]
theorem impl_cnt_ev {t n:ByteArray} {goal:Int} (ht:t.size < 4294967281):Ev (fun k=>impl_CountSolutions.f k t n goal) (cntA t n goal):=by
 unfold impl_CountSolutions.f cntA
 cases e:puS t n goal with
 | none =>
  obtain ⟨r1,r2,r3,r4,r5,h⟩:=impl_solution_none ht e
  exact Ev.bind h (Ev.congr (fun k=>if_neg Bool.false_ne_true) (Ev.now _))
 | some q =>
  obtain ⟨w,h,s,i⟩:=q
  have hs:=impl_solution_some ht e
  obtain ⟨hp,hsr,hgi,hi⟩:=puS_some e
  have hn:=puzB_name hp
  obtain ⟨cs,_,_,_,_,o⟩:=srch_some hsr
  refine Ev.bind hs ?_
  by_cases hf:s.F.getD i 0 ≤ 40
  rotate_left
  ·simp only [if_neg hf]
   exact Ev.congr (fun k=>if_neg (by simpa using hf)) (Ev.now _)
  simp only [if_pos hf]
  refine Ev.congr (fun k=>if_pos (decide_eq_true hf)) ?_
  refine Ev.bind (ways_ev o (farF_le o.ok) (rW s)) ?_
  refine Ev.bind (cells_ev (w:=w) (h:=h) (s:=s) hn o.ok.tray o.ok.most (castsI s.F) (s.N.map castsI) (rW s)) ?_
  exact cnt_l0 o.ok hi _ _ _ s.T.length 0 (Nat.zero_add _)
theorem FnExactCountSolutions (t n:ByteArray) (g:Int) (ht:t.size ≤ 9223372036854775807) (hn:n.size ≤ 9223372036854775807) (hg:(Lit.int .i64 g).wf = true):∃ k,laws_FnExactCountSolutions.f k t n g = some true:=by
 refine Ev.rounds (g:=fun k=>laws_FnExactCountSolutions.f k t n g) ?_
 unfold laws_FnExactCountSolutions.f
 obtain ⟨r,hr,hrs⟩:=szPuzzle_ok (g:=g) ht hn
 refine Ev.congr (fun k=>by rw [hr,Option.bind_some]) ?_
 by_cases h0:r < 0
 ·exact Ev.congr (fun k=>if_pos h0) (Ev.now _)
 obtain ⟨h1,h2⟩:=hrs o_m
 refine Ev.congr (fun k=>if_neg h0) ?_
 have hI:=impl_cnt_ev (t:=t) (n:=n) (goal:=g) o_m
 refine Ev.congr (fun k=>by rw [show laws_toPuzzle.f t n g = some (t,n,g) from rfl,Option.bind_some,show spec_CountSolutions.f t n g = some (cntA t n g) from rfl,Option.bind_some,Option.bind_some]) ?_
 refine Ev.bind hI (Ev.congr (fun k=>if_pos rfl) (Ev.congr (fun k=>?_) (Ev.now _)))
 rw [bne_self_eq_false];rfl
end Go.Proofs.YtldhkbiomingbaaGreatDoor.F
