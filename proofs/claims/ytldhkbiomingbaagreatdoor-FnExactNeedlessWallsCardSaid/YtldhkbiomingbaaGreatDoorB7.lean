/- The proof that the law's row holds, part 7: the kit's words, the printed walks and the plain law. No conditions beyond the card's own. -/
import Derived.Deep.RegionHeld3
import Derived.Test.YtldhkbiomingbaaGreatDoorB0
import Derived.Test.YtldhkbiomingbaaGreatDoorB1
import Derived.Test.YtldhkbiomingbaaGreatDoorB2
import Derived.Test.YtldhkbiomingbaaGreatDoorB3
import Derived.Test.YtldhkbiomingbaaGreatDoorB4
import Derived.Test.YtldhkbiomingbaaGreatDoorB5
import Derived.Test.YtldhkbiomingbaaGreatDoorB6
set_option linter.unusedVariables false
set_option linter.unusedSimpArgs false
set_option maxHeartbeats 8000000
set_option maxRecDepth 100000
namespace Go.Proofs.YtldhkbiomingbaaGreatDoor.F
open Go.Proofs.YtldhkbiomingbaaGreatDoor
open Go.RowKit Go.YW.PrintWords Go.YW.PrintLast Go.YW.PrintMore
attribute [local go_sem] max2_int min2_int max_two min_two max_three min_three max_four min_four
def impl_reach_cells.l0:Nat → ByteArray → List Int → List ByteArray → Int → Int → Option (List Int)
 | 0,_,_,_,_,_=>none
 | k + 1,x1,x5,x10,x11,x12=>if x12 < x11 then (if 0 ≤ x12 then (if x12 < (x10.length:Int) then ((impl_read.f (rdOf ByteArray.empty x10 x12)).bind fun bt106=>(if 0 < (x1.size:Int) then ((slices_Index_byte_byte.f k bt106.2.2 (bt x1 0)).bind fun t111=>(if x5.length < 17592186044416 then (impl_reach_cells.l0 k x1 (x5 ++ [t111]) x10 x11 (wrap64 (x12 + 1))) else (none))) else (none))) else (none)) else (none)) else (some x5)
def impl_reach_cells.f (k:Nat) (l0_0:List ByteArray) (l0_1:List Int) (l0_2:List (List Int)) (l0_3:List ByteArray) (a1:ByteArray):Option (List Int):=impl_reach_cells.l0 k a1 (([]:List Int)) l0_0 (l0_0.length:Int) 0
theorem impl_reach_cells.mono_l:∀ k,(∀ y0 y1 y2 y3 y4,LeO (impl_reach_cells.l0 k y0 y1 y2 y3 y4) (impl_reach_cells.l0 (k + 1) y0 y1 y2 y3 y4))
 | 0=>fun _ _ _ _ _ r h=>by simp [impl_reach_cells.l0] at h
 | k + 1=>by
  have ih0:=impl_reach_cells.mono_l k
  ·intro y0 y1 y2 y3 y4
   unfold impl_reach_cells.l0
   have im0:=@slices_Index_byte_byte.mono;exact mo
theorem impl_reach_cells.mono:∀ a0 a1 a2 a3 a4 k,LeO (impl_reach_cells.f k a0 a1 a2 a3 a4) (impl_reach_cells.f (k + 1) a0 a1 a2 a3 a4):=by
 intro a0 a1 a2 a3 a4 k
 have ih0:=impl_reach_cells.mono_l k
 unfold impl_reach_cells.f
 have im0:=@slices_Index_byte_byte.mono;exact mo
def impl_reach_cells.T5:Bool × List (List Nat × List Nat):=(true,[([],[]),([],[]),([1],[1]),([2],[2]),([],[]),([4],[4]),([3,5,2],[3,5]),([6],[6]),([0,7,6],[0,7]),([8,8,0,1,2,3,4,5,6,7,8],[0,8])])
def impl_reach_cells.B5:List Nat:=[0,0,2,6,0,16,62,126,255,511]
theorem impl_reach_cells.tab5:rtab .any (opsOf Tryz.f50 5) = impl_reach_cells.T5:=by kernel_rfl
theorem impl_reach_cells.bits5:waitsOk impl_reach_cells.T5.2 impl_reach_cells.B5 = true:=by kernel_rfl
theorem impl_reach_cells.calls (k:Nat) (A0_0:Option Addr) (c0_0:Nat) (l0_0:List ByteArray) (A0_1:Option Addr) (c0_1:Nat) (l0_1:List Int) (A0_2:Option Addr) (c0_2:Nat) (l0_2:List (List Int)) (A0_3:Option Addr) (c0_3:Nat) (l0_3:List ByteArray) (a1:ByteArray) (r:List Int) (w:World) (hr0_0:Kd.C Kd.string w A0_0 l0_0.length l0_0) (hc0_0:l0_0.length ≤ c0_0) (hr0_1:Kd.C (Kd.int .i64) w A0_1 l0_1.length l0_1) (hc0_1:l0_1.length ≤ c0_1) (hr0_2:Kd.C (Kd.slice 3 (Kd.int .i64)) w A0_2 l0_2.length l0_2) (hc0_2:l0_2.length ≤ c0_2) (hr0_3:Kd.C Kd.string w A0_3 l0_3.length l0_3) (hc0_3:l0_3.length ≤ c0_3) (h:impl_reach_cells.f k l0_0 l0_1 l0_2 l0_3 a1 = some r) :
  Calls Tryz.prog 50 #[.agg #[.slice A0_0 l0_0.length c0_0,.slice A0_1 l0_1.length c0_1,.slice A0_2 l0_2.length c0_2,.slice A0_3 l0_3.length c0_3],.string a1] w fun e w'=>∃ v0_:Value,e = .returned (v0_) ∧ Kd.R (Kd.int .i64) 3 w' w.heap.size (fun _=>True) v0_ r ∧ Below w.heap.size w w':=by
 have hu59:=Tryz.underlying59
 have hfd65_2:∀ (x0_ x1_ x2_:Value) (W:World),(Instr.field 65 (.agg #[x0_,x1_,x2_]) 2).run Tryz.prog W = .ok x2_ W:=fun _ _ _  _=>by kernel_rfl
 have HR0_0:=am hr0_0
 have HC0_0:=am hc0_0
 clear hr0_0 hc0_0
 have HR0_1:=am hr0_1
 have HC0_1:=am hc0_1
 clear hr0_1 hc0_1
 have HR0_2:=am hr0_2
 have HC0_2:=am hc0_2
 clear hr0_2 hc0_2
 have HR0_3:=am hr0_3
 have HC0_3:=am hc0_3
 clear hr0_3 hc0_3
 have HB:=am (Below.refl w.heap.size w)
 have H:(impl_reach_cells.l0 k a1 (([]:List Int)) l0_0 (l0_0.length:Int) 0) = some r:=h
 clear h
 obtain ⟨y102,hy_⟩:∃ y_:List Int,y_ = (([]:List Int)):=⟨_,rfl⟩
 replace H:(impl_reach_cells.l0 k a1 y102 l0_0 (l0_0.length:Int) 0) = some r:=aq5
 have Ny102:=am hy_
 clear hy_
 have H':=am H
 clear H
 go_enter Tryz.func50,Tryz.ntmps50
 go_wp2_with (first | (refine bx 2 #[.slice A0_0 l0_0.length c0_0,.slice A0_1 l0_1.length c0_1,.slice A0_2 l0_2.length c0_2,.slice A0_3 l0_3.length c0_3] 59 ?_;intro gb101 hg w3 hbox hb;have BK101:=am (hbox);have GW101:=am ((by rw [hg];exact (below_size aq2):w.heap.size ≤ gb101));have GE101:=GW101;replace HB:=am (below_step aq2 hb);clear hb hbox hg) | ((with_reducible refine gate_dst (N:=8) rfl ?_);refine Kd.R_lit (Kd.int .i64) _ 3 ?hg (N:=8) ?hd (xs:=([]:List Int)) (inner:=[]) (ok:=fun _=>True) (okp:=fun _=>True) ?hr ?hp (fun _ hk=>hk) trivial (Below.refl _ _) (Nat.le_refl _) (by simp) ?_;(case hd=>rfl);(case hg=>rfl);(case hr=>exact aq12);(case hp=>exact (Reps.none _ _));intro v103 w4 ho5 hb hg_ hnew_;clear hg_ hnew_;(first | rw [← Ny102.out] at ho5 | (simp only [Int.reduceToNat] at ho5;rw [← Ny102.out] at ho5));have HO104:=am (Kd.R_lower ho5 (below_size aq0));replace BK101:=am (bb BK101 hb);replace HB:=am (below_step aq0 hb);clear hb ho5;obtain ⟨hcz6_0,hcz6_1,hcz6_2,hcz6_3,hfz6_0,hfz6_1,hfz6_2,hfz6_3⟩:=blk4_ BK101.out))
 go_loopg [5,12] k (fun kq v5 v12 w'=>∃ (x5_1:List Int) (x12_1:Int),v12 = .int .i64 x12_1 ∧ Aside0 (impl_reach_cells.l0 kq a1 x5_1 l0_0 (l0_0.length:Int) x12_1 = some r) ∧ Aside0 (kq ≤ k) ∧ Aside0 (Kd.R (Kd.int .i64) 3 w' w.heap.size (fun _=>True) v5 x5_1) ∧ Aside0 (w'.heap[gb101]? = some (.cells #[(.slice A0_0 l0_0.length c0_0),(.slice A0_1 l0_1.length c0_1),(.slice A0_2 l0_2.length c0_2),(.slice A0_3 l0_3.length c0_3)] 59 (0,0))) ∧ Aside0 (Below w.heap.size w w'))
 case atStart=>exact ⟨(y102),(0),aq8,H',⟨Nat.le_refl _⟩,⟨aq46⟩,⟨aq1⟩,⟨aq0⟩⟩
 case round =>
  clear H'
  try clear p2
  try clear c5
  try clear hcz6_0
  try clear hcz6_1
  try clear hcz6_2
  try clear hcz6_3
  try clear hfz6_0
  try clear hfz6_1
  try clear hfz6_2
  try clear hfz6_3
  obtain ⟨x5_1,x12_1,rfl,HA,HK1,HO_5,BK101,HB⟩:=hrel
  cases gk with
  | zero=>exact absurd HA.out (by simp [impl_reach_cells.l0])
  | succ k1 =>
   have H:=HA.out
   clear HA
   simp only [impl_reach_cells.l0] at H
   by_cases c7:x12_1 < (l0_0.length:Int)
   rotate_left
   ·rw [if_neg c7] at H
    have c7b0:=decide_eq_false c7
    clear c7
    obtain rfl:=Option.some.inj H
    go_wp2
    go_ret
    exact ⟨_,aq7,aq66,aq0⟩
   rw [if_pos c7] at H
   have c7b0:=decide_eq_true c7
   clear c7
   replace H:=gd H
   obtain ⟨c8,H⟩:=H
   have c8b0:=decide_eq_true c8
   clear c8
   replace H:=gd H
   obtain ⟨c9,H⟩:=H
   have c9b0:=decide_eq_true c9
   clear c9
   replace H:=Option.bind_eq_some_iff.mp H
   obtain ⟨⟨t106,t107,t108⟩,A100,H⟩:=H
   replace H:(if 0 < (a1.size:Int) then ((slices_Index_byte_byte.f k1 t108 (bt a1 0)).bind fun t111=>(if x5_1.length < 17592186044416 then (impl_reach_cells.l0 k1 a1 (x5_1 ++ [t111]) l0_0 (l0_0.length:Int) (wrap64 (x12_1 + 1))) else (none))) else (none)) = some r:=H
   have A10:=am A100
   clear A100
   replace H:=gd H
   obtain ⟨c11,H⟩:=H
   have c11b0:=decide_eq_true c11
   have c11b1:decide (0 < a1.size) = true:=decide_eq_true o_m
   clear c11
   obtain ⟨t111,A13,H⟩:=bn H
   replace H:=gd H
   obtain ⟨c14,H⟩:=H
   have LMc14:=am c14
   clear c14
   obtain ⟨y112,hy_⟩:∃ y_:List Int,y_ = (x5_1 ++ [t111]):=⟨_,rfl⟩
   replace H:(impl_reach_cells.l0 k1 a1 y112 l0_0 (l0_0.length:Int) (wrap64 (x12_1 + 1))) = some r:=aq5
   have Ny112:=am hy_
   clear hy_
   have H':=am H
   clear H
   have p105:0 ≤ (x12_1:Int):=of_decide_eq_true aq6
   have q105:x12_1 < (l0_0.length:Int):=of_decide_eq_true aq6
   obtain ⟨ad105,e105,hx105_0⟩:=Kd.at_string HR0_0.out x12_1 p105 q105
   cases e105
   try replace hx105_0:=(HB.out.cell (World.block_lt_of_cell? w _ hx105_0)).trans hx105_0
   replace p105:=eq_true p105
   replace q105:=eq_true q105
   try go_wp2
   replace HO_5:=am (Kd.R_drew HO_5.out)
   replace BK101:=am (blk_drew BK101.out)
   replace HB:=am (below_drew1 HB.out)
   have p12:0 ≤ (0:Int):=o_m
   have q12:0 < a1.size:=(by have:(0:Int) < (a1.size:Int):=of_decide_eq_true aq6;omega)
   have hx12:∀ h:0 < a1.size,((a1[0]'h).toNat:Int) = bt a1 0:=bt_at a1 0
   clear p12
   have qi12:(0 < (a1.size:Int)) = True:=eq_true (of_decide_eq_true aq6)
   replace q12:=eq_true q12
   refine start_ (n:=10) (S:=fun w'=>True) (ds:=[]) (bm 10 0) k_r rfl rfl trivial (fun hHeld=>?_);refine with_tabW impl_reach_cells.tab5 impl_reach_cells.bits5 (fun HT_ HW_=>?_)
   generalize wr.drew = w15 at HO_5 BK101 HB hHeld ⊢
   refine py (i:=0) (N:=some 16) (bm 10 1) ?_
   refine py (i:=1) (N:=some 17) (bm 10 3) ?_
   refine py (i:=4) (N:=some 20) (bm 10 19) ?_
   refine tk1 (i:=5) (N:=some 21) (bm 10 51) hHeld ?_
   refine one_ (i:=2) (N:=some 18) (bm 10 55) rfl rfl (one_of HT_.out k_r) d_c (fun K hK=>?_)
   refine goes_ Tryz.func51 k_r rfl #[.string (rdOf ByteArray.empty l0_0 x12_1)] (by rfl) rfl rfl aq3 ?_
   with_reducible refine (impl_read.calls (rdOf ByteArray.empty l0_0 x12_1) t106 t107 t108 _ A10.out).mono ?_
   rintro e w16 ⟨v109,rfl,ho0,hb⟩
   refine ⟨_,rfl,?_⟩
   have HO110:=am (Kd.V_lower (Kd.V_mono (ok':=fun k_=>some k_ ≠ (u5:Value).ownBlock ∧ k_ ≠ gb101) ho0 (fun k_ hk_=>⟨(Kd.fresh' (Kd.R_lt aq66) k_ hk_),(Kd.freshB (g:=gb101) (o:=.cells #[.slice (some ad105) l0_0.length c0_0,.slice A0_1 l0_1.length c0_1,.slice A0_2 l0_2.length c0_2,.slice A0_3 l0_3.length c0_3] 59 (0,0)) aq1 k_ hk_)⟩)) (below_size aq0))
   replace HO_5:=am (Kd.R_below aq66 hb)
   replace BK101:=am (bb BK101 hb)
   replace HB:=am (below_step aq0 hb)
   (try clear hb)
   (try clear ho0)
   obtain ⟨Ao17,co17,eo17⟩:=Kd.V_slice HO110.out
   (first | subst eo17 | (injection eo17 with f1_ f2_ f3_;have f4_:=f1_.symm;have f5_:=f3_.symm;clear f1_ f2_ f3_;subst f4_;subst f5_))
   refine hK.out _ _ trivial (fun hHeld=>?_)
   clear hK K
   refine nm (some 18) ?_
   refine py (i:=3) (N:=some 19) (bm 10 63) ?_
   refine one_ (i:=6) (N:=some 22) (bm 10 127) rfl rfl (one_of HT_.out k_r) d_c (fun K hK=>?_)
   refine goes_ Tryz.func89 k_r rfl #[.slice Ao17 t108.length co17,.int .u8 (bt a1 0)] (by rfl) rfl rfl aq3 ?_
   with_reducible refine (slices_Index_byte_byte.calls k1 _ _ t108 (bt a1 0) t111 _ ?side1 ?side2 A13.out).mono ?_
   (case side1=>repeat (first | exact (Kd.V_reads' HO110.out).2.2 | (with_reducible refine Kd.C_alloc ?_ _) | (with_reducible refine Kd.C_drewN ?_ _) | (with_reducible refine Kd.C_drew ?_)))
   (case side2=>exact (Kd.V_reads' HO110.out).2.1)
   rintro e w' ⟨rfl,⟨nd,rfl⟩⟩
   refine ⟨_,rfl,?_⟩
   refine hK.out _ _ trivial (fun hHeld=>?_)
   clear hK K
   refine nm (some 22) ?_
   refine one_ (i:=7) (N:=some 23) (bm 10 255) rfl rfl (one_of HT_.out k_r) d_c (fun K hK=>?_)
   refine value_ (w1:=?_) (v:=?_) (by rfl) rfl ?_ ?_
   rotate_left 2
   ·go_simp
    constructor
    ·rfl
    ·rfl
   refine hK.out _ _ trivial (fun hHeld=>?_)
   clear hK K
   refine nm (some 23) ?_
   refine one_ (i:=8) (N:=some 24) (bm 10 511) rfl rfl (one_of HT_.out k_r) d_c (fun K hK=>?_)
   refine Kd.R_append_step (Kd.int .i64) (w0:=w) w.heap.size (by rfl) (.tmp 16) (.tmp 23) 40 3 (.int .i64 0) 8 rfl Tryz.underlying40 info3 rfl d_c o_m u5 x5_1 t111 [.int .i64 t111] (fun _=>True) (fun _=>False) rfl rfl ?aP (fun _ hk=>hk.elim) ?aF ?aO ?aB ?aS ?aL ?_
   (case aP=>exact rfl)
   (case aB=>exact aq0)
   (case aF=>exact aq75)
   (case aO=>exact aq66)
   (case aS=>exact aq72)
   (case aL=>have:=LMc14.out;omega)
   intro v113 w18 ho hb hg hat
   rw [← Ny112.out] at ho
   replace BK101:=am (bg BK101 hg (Kd.R_ne HO_5.out BK101.out d_c))
   replace HO110:=am (Kd.V_afterv (ok:=(fun k_=>k_ ≠ gb101)) (by (with_reducible repeat (first | apply Kd.V_alloc | apply Kd.V_drewN | apply Kd.V_drew));exact Kd.V_mono HO110.out (fun _ hk=>⟨hk.2,hk.1⟩)) hg hat)
   replace HB:=am (hb)
   have HO114:=am (ho)
   clear HO_5 ho hb hg hat
   refine hK.out _ _ trivial (fun hHeld=>?_)
   clear hK K
   refine nm (some 24) ?_
   refine py (i:=9) (N:=some 5) (bm 10 1023) ?_
   refine done_ (done_of HT_.out k_r) ?_
   try go_wp2
   go_roundg k1
   case measure=>have:=HK1.out;omega
   case rel=>exact ⟨(y112),(wrap64 (x12_1 + 1)),aq8,H',⟨aq63⟩,⟨by (with_reducible repeat (first | apply Kd.R_alloc | apply Kd.R_drewN | apply Kd.R_drew));exact HO114.out⟩,⟨aq1⟩,⟨aq0⟩⟩
def slices_Index_int_int.l0:Nat → List Int → Int → Int → Int → Option (Int)
 | 0,_,_,_,_=>none
 | k + 1,x0,x1,x7,x8=>if x8 < x7 then (if 0 ≤ x8 then (if x8 < (x0.length:Int) then (if x1 = (rd x0 x8) then (some x8) else (slices_Index_int_int.l0 k x0 x1 x7 (wrap64 (x8 + 1)))) else (none)) else (none)) else (some (-1))
def slices_Index_int_int.f (k:Nat) (l0:List Int) (a1:Int):Option (Int):=slices_Index_int_int.l0 k l0 a1 (l0.length:Int) 0
theorem slices_Index_int_int.mono_l:∀ k,(∀ y0 y1 y2 y3,LeO (slices_Index_int_int.l0 k y0 y1 y2 y3) (slices_Index_int_int.l0 (k + 1) y0 y1 y2 y3))
 | 0=>fun _ _ _ _ r h=>by simp [slices_Index_int_int.l0] at h
 | k + 1=>by
  have ih0:=slices_Index_int_int.mono_l k
  ·intro y0 y1 y2 y3
   unfold slices_Index_int_int.l0
   exact mo
theorem slices_Index_int_int.mono:∀ a0 a1 k,LeO (slices_Index_int_int.f k a0 a1) (slices_Index_int_int.f (k + 1) a0 a1):=by
 intro a0 a1 k
 have ih0:=slices_Index_int_int.mono_l k
 unfold slices_Index_int_int.f
 exact mo
theorem slices_Index_int_int.calls (k:Nat) (A0:Option Addr) (c0:Nat) (l0:List Int) (a1:Int) (r:Int) (w:World) (hr0:Kd.C (Kd.int .i64) w A0 l0.length l0) (hc0:l0.length ≤ c0) (h:slices_Index_int_int.f k l0 a1 = some r) :
  Calls Tryz.prog 52 #[.slice A0 l0.length c0,.int .i64 a1] w fun e w'=>e = .returned (.int .i64 r) ∧ Drawn0 w w':=by
 have HR0:=am hr0
 have HC0:=am hc0
 clear hr0 hc0
 have H:(slices_Index_int_int.l0 k l0 a1 (l0.length:Int) 0) = some r:=h
 clear h
 have H':=am H
 clear H
 go_enter Tryz.func52,Tryz.ntmps52
 go_wp2
 go_loopg [8] k (fun kq v8 w'=>∃ (x8_1:Int),v8 = .int .i64 x8_1 ∧ Aside0 (slices_Index_int_int.l0 kq l0 a1 (l0.length:Int) x8_1 = some r) ∧ Aside0 (kq ≤ k) ∧ Drawn0 w w')
 case atStart=>exact ⟨(0),aq8,H',⟨Nat.le_refl _⟩,aq16⟩
 case round =>
  clear H'
  try clear p2
  obtain ⟨x8_1,rfl,HA,HK1,⟨m1,rfl⟩⟩:=hrel
  cases gk with
  | zero=>exact absurd HA.out (by simp [slices_Index_int_int.l0])
  | succ k1 =>
   have H:=HA.out
   clear HA
   simp only [slices_Index_int_int.l0] at H
   by_cases c3:x8_1 < (l0.length:Int)
   rotate_left
   ·rw [if_neg c3] at H
    have c3b0:=decide_eq_false c3
    clear c3
    obtain rfl:=Option.some.inj H
    go_wp2
    go_ret
    exact ⟨aq8,aq16⟩
   rw [if_pos c3] at H
   have c3b0:=decide_eq_true c3
   clear c3
   replace H:=gd H
   obtain ⟨c4,H⟩:=H
   have c4b0:=decide_eq_true c4
   clear c4
   replace H:=gd H
   obtain ⟨c5,H⟩:=H
   have c5b0:=decide_eq_true c5
   clear c5
   by_cases c6:a1 = (rd l0 x8_1)
   ·rw [if_pos c6] at H
    have c6b0:=beq_iff_eq.mpr c6
    have c6b1:=bne_eq_false_iff_eq.mpr c6
    clear c6
    obtain rfl:=Option.some.inj H
    have p101:0 ≤ (x8_1:Int):=of_decide_eq_true aq6
    have q101:x8_1 < (l0.length:Int):=of_decide_eq_true aq6
    obtain ⟨ad101,e101,hx101_0⟩:=Kd.at_int HR0.out x8_1 p101 q101
    cases e101
    replace p101:=eq_true p101
    replace q101:=eq_true q101
    go_wp2
    go_ret
    exact ⟨aq8,aq16⟩
   rw [if_neg c6] at H
   have c6b0:=beq_eq_false_iff_ne.mpr c6
   have c6b1:=bne_iff_ne.mpr c6
   have H':=am H
   clear H
   have p101:0 ≤ (x8_1:Int):=of_decide_eq_true aq6
   have q101:x8_1 < (l0.length:Int):=of_decide_eq_true aq6
   obtain ⟨ad101,e101,hx101_0⟩:=Kd.at_int HR0.out x8_1 p101 q101
   cases e101
   replace p101:=eq_true p101
   replace q101:=eq_true q101
   go_wp2
   go_roundg k1
   case measure=>have:=HK1.out;omega
   case rel=>exact ⟨(wrap64 (x8_1 + 1)),aq8,H',⟨aq63⟩,aq16⟩
def impl_solution.f (k:Nat) (a0_0:ByteArray) (a0_1:ByteArray) (a0_2:Int):Option (List ByteArray × List Int × (List (List Int)) × List ByteArray × Int × Bool):=(impl_IsPuzzle.f k a0_0 a0_1 a0_2).bind fun t103=>(if t103 = true then ((impl_reachOf.f a0_0).bind fun bt104=>(if bt104.2.2.2.2 = true then ((impl_reach_cells.f k bt104.1 bt104.2.1 bt104.2.2.1 bt104.2.2.2.1 a0_1).bind fun t118=>((slices_Index_int_int.f k t118 a0_2).bind fun t121=>(if t121 ≥ 0 then (if 0 ≤ t121 then (if t121 < (bt104.2.1.length:Int) then (some (bt104.1,bt104.2.1,bt104.2.2.1,bt104.2.2.2.1,t121,decide ((rd bt104.2.1 t121) ≤ 40))) else (none)) else (none)) else (some (bt104.1,bt104.2.1,bt104.2.2.1,bt104.2.2.2.1,t121,false))))) else (some (([]:List ByteArray),([]:List Int),([]:List (List Int)),([]:List ByteArray),0,false)))) else (some (([]:List ByteArray),([]:List Int),([]:List (List Int)),([]:List ByteArray),0,false)))
theorem impl_solution.mono:∀ a0 a1 a2 k,LeO (impl_solution.f k a0 a1 a2) (impl_solution.f (k + 1) a0 a1 a2):=by
 intro a0 a1 a2 k
 unfold impl_solution.f
 have im0:=@impl_IsPuzzle.mono;have im1:=@impl_reach_cells.mono;have im2:=@slices_Index_int_int.mono;exact mo
def impl_solution.T6:Bool × List (List Nat × List Nat):=(true,[([],[]),([],[]),([1],[1]),([0,2],[0,2]),([],[]),([4],[4]),([3,5,3],[3,5]),([6,6,0,1,2,3,4,5,6],[6])])
def impl_solution.B6:List Nat:=[0,0,2,7,0,16,63,127]
theorem impl_solution.tab6:rtab .any (opsOf Tryz.f55 6) = impl_solution.T6:=by kernel_rfl
theorem impl_solution.bits6:waitsOk impl_solution.T6.2 impl_solution.B6 = true:=by kernel_rfl
def impl_solution.T7:Bool × List (List Nat × List Nat):=(true,[([],[]),([],[]),([],[]),([2],[2]),([3],[3]),([4],[4]),([5,4],[4,5]),([4],[4]),([6,7,4],[4,6,7]),([8,4],[4,8]),([9,4],[4,9]),([4,10],[4,10]),([0,4,0],[0]),([1,12,0,1,12],[1]),([11,13,0,1,2,3,4,5,6,7,8,9,10,11,12,13],[11])])
def impl_solution.B7:List Nat:=[0,0,0,4,12,28,60,28,252,508,1020,2044,29,4127,16383]
theorem impl_solution.tab7:rtab .any (opsOf Tryz.f55 7) = impl_solution.T7:=by kernel_rfl
theorem impl_solution.bits7:waitsOk impl_solution.T7.2 impl_solution.B7 = true:=by kernel_rfl
theorem impl_solution.calls (k:Nat) (a0_0:ByteArray) (a0_1:ByteArray) (a0_2:Int) (r1:List ByteArray) (r2:List Int) (r3:List (List Int)) (r4:List ByteArray) (r5:Int) (r6:Bool) (w:World) (h:impl_solution.f k a0_0 a0_1 a0_2 = some (r1,r2,r3,r4,r5,r6)) :
  Calls Tryz.prog 55 #[.agg #[.string a0_0,.string a0_1,.int .i64 a0_2]] w fun e w'=>∃ v0_ v1_ v2_ v3_:Value,e = .returned (.tuple #[.agg #[v0_,v1_,v2_,v3_],.int .i64 r5,.bool r6]) ∧ Kd.R Kd.string 9 w' w.heap.size (fun k_=>some k_ ≠ (v3_:Value).ownBlock) v0_ r1 ∧ Kd.R (Kd.int .i64) 3 w' w.heap.size (fun _=>True) v1_ r2 ∧ Kd.S (Kd.slice 3 (Kd.int .i64)) 40 w' w.heap.size (fun k_=>some k_ ≠ (v1_:Value).ownBlock) v2_ r3 ∧ Kd.R Kd.string 9 w' w.heap.size (fun k_=>some k_ ≠ (v0_:Value).ownBlock) v3_ r4 ∧ Below w.heap.size w w':=by
 have hu30:=Tryz.underlying30
 have hu59:=Tryz.underlying59
 have HB:=am (Below.refl w.heap.size w)
 have H:((impl_IsPuzzle.f k a0_0 a0_1 a0_2).bind fun t103=>(if t103 = true then ((impl_reachOf.f a0_0).bind fun bt104=>(if bt104.2.2.2.2 = true then ((impl_reach_cells.f k bt104.1 bt104.2.1 bt104.2.2.1 bt104.2.2.2.1 a0_1).bind fun t118=>((slices_Index_int_int.f k t118 a0_2).bind fun t121=>(if t121 ≥ 0 then (if 0 ≤ t121 then (if t121 < (bt104.2.1.length:Int) then (some (bt104.1,bt104.2.1,bt104.2.2.1,bt104.2.2.2.1,t121,decide ((rd bt104.2.1 t121) ≤ 40))) else (none)) else (none)) else (some (bt104.1,bt104.2.1,bt104.2.2.1,bt104.2.2.2.1,t121,false))))) else (some (([]:List ByteArray),([]:List Int),([]:List (List Int)),([]:List ByteArray),0,false)))) else (some (([]:List ByteArray),([]:List Int),([]:List (List Int)),([]:List ByteArray),0,false)))) = some (r1,r2,r3,r4,r5,r6):=h
 clear h
 obtain ⟨t103,A2,H⟩:=bn H
 by_cases c3:t103 = true
 rotate_left
 ·replace c3:=Bool.eq_false_iff.mpr c3
  subst c3
  rw [if_neg Bool.false_ne_true] at H
  simp only [Option.some.injEq,Prod.mk.injEq] at H
  obtain ⟨rfl,rfl,rfl,rfl,rfl,rfl⟩:=H
  go_enter Tryz.func55,Tryz.ntmps55
  go_wp2_with (first | (refine bx 1 #[.string a0_0,.string a0_1,.int .i64 a0_2] 30 ?_;intro gb101 hg w75 hbox hb;have BK101:=am (hbox);have GW101:=am ((by rw [hg];exact (below_size aq2):w.heap.size ≤ gb101));have GE101:=GW101;replace HB:=am (below_step aq2 hb);clear hb hbox hg) | (refine bx 2 #[.slice none 0 0,.slice none 0 0,.slice none 0 0,.slice none 0 0] 59 ?_;intro gb102 hg w76 hbox hb;have BK102:=am (hbox);have GW102:=am ((by rw [hg];exact (below_size aq0):w.heap.size ≤ gb102));have GE102:=GW102;replace HB:=am (below_step aq0 hb);have NB101_102:=am ((by rw [hg];exact Nat.ne_of_lt (blk_lt (g:=gb101) (o:=.cells #[.string a0_0,.string a0_1,.int .i64 a0_2] 30 (0,0)) aq1):gb101 ≠ gb102));have NB102_101:=am ((by rw [hg];exact Nat.ne_of_gt (blk_lt (g:=gb101) (o:=.cells #[.string a0_0,.string a0_1,.int .i64 a0_2] 30 (0,0)) aq1):gb102 ≠ gb101));replace BK101:=am (bb BK101 hb);clear hb hbox hg;have hnb77:=NB101_102.out;have hnc77:=NB102_101.out;obtain ⟨hcz78_0,hcz78_1,hcz78_2,hfz78_0,hfz78_1,hfz78_2⟩:=blk3_ BK101.out) | ((with_reducible refine gate_callee (f:=94) rfl ?_);refine goesL_ (some 9) rfl rfl Tryz.func94 k_r rfl #[.agg #[.string a0_0,.string a0_1,.int .i64 a0_2]] rfl aq3 ?_;(with_reducible refine (impl_IsPuzzle.calls k a0_0 a0_1 a0_2 false _ A2.out).mono ?_);rintro e w79 ⟨rfl,hb⟩;refine ⟨_,rfl,?_⟩;replace BK101:=am (bb BK101 hb);replace BK102:=am (bb BK102 hb);replace HB:=am (below_step aq4 hb);(try clear hb);obtain ⟨hcz80_0,hcz80_1,hcz80_2,hcz80_3,hfz80_0,hfz80_1,hfz80_2,hfz80_3⟩:=blk4_ BK102.out))
  refine bodyPost_ret (results_ctt rfl _ _ gb102 59 #[.slice none 0 0,.slice none 0 0,.slice none 0 0,.slice none 0 0] (0,0) _ rfl (by (with_reducible repeat (first | refine blk_drewN ?_ _ | refine blk_drew ?_ | refine blk_alloc ?_ _));refine blk_put (cs:=#[.slice none 0 0,.slice none 0 0,.slice none 0 0,.slice none 0 0]) ?_ 3 _ rfl;(with_reducible repeat (first | refine blk_drewN ?_ _ | refine blk_drew ?_ | refine blk_alloc ?_ _));refine blk_put (cs:=#[.slice none 0 0,.slice none 0 0,.slice none 0 0,.slice none 0 0]) ?_ 2 _ rfl;(with_reducible repeat (first | refine blk_drewN ?_ _ | refine blk_drew ?_ | refine blk_alloc ?_ _));refine blk_put (cs:=#[.slice none 0 0,.slice none 0 0,.slice none 0 0,.slice none 0 0]) ?_ 1 _ rfl;(with_reducible repeat (first | refine blk_drewN ?_ _ | refine blk_drew ?_ | refine blk_alloc ?_ _));refine blk_put (cs:=#[.slice none 0 0,.slice none 0 0,.slice none 0 0,.slice none 0 0]) ?_ 0 _ rfl;(with_reducible repeat (first | refine blk_drewN ?_ _ | refine blk_drew ?_ | refine blk_alloc ?_ _));exact BK102.out) Tryz.underlying59 rfl k_r) rfl ?_
  exact ⟨_,_,_,_,aq7,aq17,aq17,aq70,aq17,aq4⟩
 subst c3
 rw [if_pos rfl] at H
 replace H:=Option.bind_eq_some_iff.mp H
 obtain ⟨⟨t104,t107,t110,t113,t116⟩,A40,H⟩:=H
 replace H:(if t116 = true then ((impl_reach_cells.f k t104 t107 t110 t113 a0_1).bind fun t118=>((slices_Index_int_int.f k t118 a0_2).bind fun t121=>(if t121 ≥ 0 then (if 0 ≤ t121 then (if t121 < (t107.length:Int) then (some (t104,t107,t110,t113,t121,decide ((rd t107 t121) ≤ 40))) else (none)) else (none)) else (some (t104,t107,t110,t113,t121,false))))) else (some (([]:List ByteArray),([]:List Int),([]:List (List Int)),([]:List ByteArray),0,false))) = some (r1,r2,r3,r4,r5,r6):=H
 have A4:=am A40
 clear A40
 by_cases c5:t116 = true
 rotate_left
 ·replace c5:=Bool.eq_false_iff.mpr c5
  subst c5
  rw [if_neg Bool.false_ne_true] at H
  simp only [Option.some.injEq,Prod.mk.injEq] at H
  obtain ⟨rfl,rfl,rfl,rfl,rfl,rfl⟩:=H
  go_enter Tryz.func55,Tryz.ntmps55
  go_wp2_with (first | (refine bx 1 #[.string a0_0,.string a0_1,.int .i64 a0_2] 30 ?_;intro gb101 hg w59 hbox hb;have BK101:=am (hbox);have GW101:=am ((by rw [hg];exact (below_size aq2):w.heap.size ≤ gb101));have GE101:=GW101;replace HB:=am (below_step aq2 hb);clear hb hbox hg) | (refine bx 2 #[.slice none 0 0,.slice none 0 0,.slice none 0 0,.slice none 0 0] 59 ?_;intro gb102 hg w60 hbox hb;have BK102:=am (hbox);have GW102:=am ((by rw [hg];exact (below_size aq0):w.heap.size ≤ gb102));have GE102:=GW102;replace HB:=am (below_step aq0 hb);have NB101_102:=am ((by rw [hg];exact Nat.ne_of_lt (blk_lt (g:=gb101) (o:=.cells #[.string a0_0,.string a0_1,.int .i64 a0_2] 30 (0,0)) aq1):gb101 ≠ gb102));have NB102_101:=am ((by rw [hg];exact Nat.ne_of_gt (blk_lt (g:=gb101) (o:=.cells #[.string a0_0,.string a0_1,.int .i64 a0_2] 30 (0,0)) aq1):gb102 ≠ gb101));replace BK101:=am (bb BK101 hb);clear hb hbox hg;have hnb61:=NB101_102.out;have hnc61:=NB102_101.out;obtain ⟨hcz62_0,hcz62_1,hcz62_2,hfz62_0,hfz62_1,hfz62_2⟩:=blk3_ BK101.out) | ((with_reducible refine gate_callee (f:=94) rfl ?_);refine goesL_ (some 9) rfl rfl Tryz.func94 k_r rfl #[.agg #[.string a0_0,.string a0_1,.int .i64 a0_2]] rfl aq3 ?_;(with_reducible refine (impl_IsPuzzle.calls k a0_0 a0_1 a0_2 true _ A2.out).mono ?_);rintro e w63 ⟨rfl,hb⟩;refine ⟨_,rfl,?_⟩;replace BK101:=am (bb BK101 hb);replace BK102:=am (bb BK102 hb);replace HB:=am (below_step aq4 hb);(try clear hb);obtain ⟨hcz64_0,hcz64_1,hcz64_2,hfz64_0,hfz64_1,hfz64_2⟩:=blk3_ BK101.out) | ((with_reducible refine gate_callee (f:=74) rfl ?_);refine goesL_ (some 15) rfl rfl Tryz.func74 k_r rfl #[.string a0_0] rfl aq3 ?_;(with_reducible refine (impl_reachOf.calls a0_0 t104 t107 t110 t113 false _ A4.out).mono ?_);rintro e w65 ⟨v105,v108,v111,v114,rfl,ho0,ho1,ho2,ho3,hb⟩;refine ⟨_,rfl,?_⟩;have HO106:=am (Kd.R_lower ho0 (below_size aq4));have HO109:=am (Kd.R_lower ho1 (below_size aq4));have HO112:=am (Kd.S_lower ho2 (below_size aq4));have HO115:=am (Kd.R_lower ho3 (below_size aq4));replace BK101:=am (bb BK101 hb);replace BK102:=am (bb BK102 hb);replace HB:=am (below_step aq4 hb);(try clear hb);(try clear ho0);(try clear ho1);(try clear ho2);(try clear ho3)) | (refine bx 5 #[.slice none 0 0,.slice none 0 0,.slice none 0 0,.slice none 0 0] 59 ?_;intro gb117 hg w66 hbox hb;replace HO106:=am (Kd.R_below aq18 hb);replace HO109:=am (Kd.R_below aq42 hb);replace HO112:=am (Kd.S_below aq39 hb);replace HO115:=am (Kd.R_below aq41 hb);have BK117:=am (hbox);have GW117:=am ((by rw [hg];exact (below_size aq4):w.heap.size ≤ gb117));have GE117:=GW117;replace HB:=am (below_step aq4 hb);have NB101_117:=am ((by rw [hg];exact Nat.ne_of_lt (blk_lt (g:=gb101) (o:=.cells #[.string a0_0,.string a0_1,.int .i64 a0_2] 30 (0,0)) aq1):gb101 ≠ gb117));have NB117_101:=am ((by rw [hg];exact Nat.ne_of_gt (blk_lt (g:=gb101) (o:=.cells #[.string a0_0,.string a0_1,.int .i64 a0_2] 30 (0,0)) aq1):gb117 ≠ gb101));replace BK101:=am (bb BK101 hb);have NB102_117:=am ((by rw [hg];exact Nat.ne_of_lt (blk_lt (g:=gb102) (o:=.cells #[.slice none 0 0,.slice none 0 0,.slice none 0 0,.slice none 0 0] 59 (0,0)) aq9):gb102 ≠ gb117));have NB117_102:=am ((by rw [hg];exact Nat.ne_of_gt (blk_lt (g:=gb102) (o:=.cells #[.slice none 0 0,.slice none 0 0,.slice none 0 0,.slice none 0 0] 59 (0,0)) aq9):gb117 ≠ gb102));replace BK102:=am (bb BK102 hb);clear hb hbox hg;obtain ⟨Ao67,co67,eo67⟩:=Kd.R_slice HO106.out;subst eo67;have hnb68:=NB117_101.out;have hnc68:=NB101_117.out;have hnb69:=NB117_102.out;have hnc69:=NB102_117.out;obtain ⟨hcz70_0,hcz70_1,hcz70_2,hcz70_3,hfz70_0,hfz70_1,hfz70_2,hfz70_3⟩:=blk4_ BK117.out;obtain ⟨Ao71,co71,eo71⟩:=Kd.R_slice HO109.out;subst eo71;obtain ⟨Ao72,co72,eo72⟩:=Kd.S_slice HO112.out;subst eo72;obtain ⟨Ao73,co73,eo73⟩:=Kd.R_slice HO115.out;subst eo73;obtain ⟨hcz74_0,hcz74_1,hcz74_2,hcz74_3,hfz74_0,hfz74_1,hfz74_2,hfz74_3⟩:=blk4_ BK102.out))
  refine bodyPost_ret (results_ctt rfl _ _ gb102 59 #[.slice none 0 0,.slice none 0 0,.slice none 0 0,.slice none 0 0] (0,0) _ rfl (by (with_reducible repeat (first | refine blk_drewN ?_ _ | refine blk_drew ?_ | refine blk_alloc ?_ _));refine blk_put (cs:=#[.slice none 0 0,.slice none 0 0,.slice none 0 0,.slice none 0 0]) ?_ 3 _ rfl;(with_reducible repeat (first | refine blk_drewN ?_ _ | refine blk_drew ?_ | refine blk_alloc ?_ _));refine blk_put (cs:=#[.slice none 0 0,.slice none 0 0,.slice none 0 0,.slice none 0 0]) ?_ 2 _ rfl;(with_reducible repeat (first | refine blk_drewN ?_ _ | refine blk_drew ?_ | refine blk_alloc ?_ _));refine blk_put (cs:=#[.slice none 0 0,.slice none 0 0,.slice none 0 0,.slice none 0 0]) ?_ 1 _ rfl;(with_reducible repeat (first | refine blk_drewN ?_ _ | refine blk_drew ?_ | refine blk_alloc ?_ _));refine blk_put (cs:=#[.slice none 0 0,.slice none 0 0,.slice none 0 0,.slice none 0 0]) ?_ 0 _ rfl;(with_reducible repeat (first | refine blk_drewN ?_ _ | refine blk_drew ?_ | refine blk_alloc ?_ _));refine blk_far ?_ NB102_117.out _;(with_reducible repeat (first | refine blk_drewN ?_ _ | refine blk_drew ?_ | refine blk_alloc ?_ _));refine blk_far ?_ NB102_117.out _;(with_reducible repeat (first | refine blk_drewN ?_ _ | refine blk_drew ?_ | refine blk_alloc ?_ _));refine blk_far ?_ NB102_117.out _;(with_reducible repeat (first | refine blk_drewN ?_ _ | refine blk_drew ?_ | refine blk_alloc ?_ _));refine blk_far ?_ NB102_117.out _;(with_reducible repeat (first | refine blk_drewN ?_ _ | refine blk_drew ?_ | refine blk_alloc ?_ _));exact BK102.out) Tryz.underlying59 rfl k_r) rfl ?_
  exact ⟨_,_,_,_,aq7,aq17,aq17,aq70,aq17,aq15⟩
 subst c5
 rw [if_pos rfl] at H
 obtain ⟨t118,A6,H⟩:=bn H
 obtain ⟨t121,A7,H⟩:=bn H
 by_cases c8:t121 ≥ 0
 rotate_left
 ·rw [if_neg c8] at H
  have c8b0:=decide_eq_false c8
  clear c8
  simp only [Option.some.injEq,Prod.mk.injEq] at H
  obtain ⟨rfl,rfl,rfl,rfl,rfl,rfl⟩:=H
  go_enter Tryz.func55,Tryz.ntmps55
  try go_wp2_with (first | (refine bx 1 #[.string a0_0,.string a0_1,.int .i64 a0_2] 30 ?_;intro gb101 hg w35 hbox hb;have BK101:=am (hbox);have GW101:=am ((by rw [hg];exact (below_size aq2):w.heap.size ≤ gb101));have GE101:=GW101;replace HB:=am (below_step aq2 hb);clear hb hbox hg) | (refine bx 2 #[.slice none 0 0,.slice none 0 0,.slice none 0 0,.slice none 0 0] 59 ?_;intro gb102 hg w36 hbox hb;have BK102:=am (hbox);have GW102:=am ((by rw [hg];exact (below_size aq0):w.heap.size ≤ gb102));have GE102:=GW102;replace HB:=am (below_step aq0 hb);have NB101_102:=am ((by rw [hg];exact Nat.ne_of_lt (blk_lt (g:=gb101) (o:=.cells #[.string a0_0,.string a0_1,.int .i64 a0_2] 30 (0,0)) aq1):gb101 ≠ gb102));have NB102_101:=am ((by rw [hg];exact Nat.ne_of_gt (blk_lt (g:=gb101) (o:=.cells #[.string a0_0,.string a0_1,.int .i64 a0_2] 30 (0,0)) aq1):gb102 ≠ gb101));replace BK101:=am (bb BK101 hb);clear hb hbox hg;have hnb37:=NB101_102.out;have hnc37:=NB102_101.out;obtain ⟨hcz38_0,hcz38_1,hcz38_2,hfz38_0,hfz38_1,hfz38_2⟩:=blk3_ BK101.out) | ((with_reducible refine gate_callee (f:=94) rfl ?_);refine goesL_ (some 9) rfl rfl Tryz.func94 k_r rfl #[.agg #[.string a0_0,.string a0_1,.int .i64 a0_2]] rfl aq3 ?_;(with_reducible refine (impl_IsPuzzle.calls k a0_0 a0_1 a0_2 true _ A2.out).mono ?_);rintro e w39 ⟨rfl,hb⟩;refine ⟨_,rfl,?_⟩;replace BK101:=am (bb BK101 hb);replace BK102:=am (bb BK102 hb);replace HB:=am (below_step aq4 hb);(try clear hb);obtain ⟨hcz40_0,hcz40_1,hcz40_2,hfz40_0,hfz40_1,hfz40_2⟩:=blk3_ BK101.out) | ((with_reducible refine gate_callee (f:=74) rfl ?_);refine goesL_ (some 15) rfl rfl Tryz.func74 k_r rfl #[.string a0_0] rfl aq3 ?_;(with_reducible refine (impl_reachOf.calls a0_0 t104 t107 t110 t113 true _ A4.out).mono ?_);rintro e w41 ⟨v105,v108,v111,v114,rfl,ho0,ho1,ho2,ho3,hb⟩;refine ⟨_,rfl,?_⟩;have HO106:=am (Kd.R_lower ho0 (below_size aq4));have HO109:=am (Kd.R_lower ho1 (below_size aq4));have HO112:=am (Kd.S_lower ho2 (below_size aq4));have HO115:=am (Kd.R_lower ho3 (below_size aq4));replace BK101:=am (bb BK101 hb);replace BK102:=am (bb BK102 hb);replace HB:=am (below_step aq4 hb);(try clear hb);(try clear ho0);(try clear ho1);(try clear ho2);(try clear ho3)) | (refine bx 5 #[.slice none 0 0,.slice none 0 0,.slice none 0 0,.slice none 0 0] 59 ?_;intro gb117 hg w42 hbox hb;replace HO106:=am (Kd.R_below aq18 hb);replace HO109:=am (Kd.R_below aq42 hb);replace HO112:=am (Kd.S_below aq39 hb);replace HO115:=am (Kd.R_below aq41 hb);have BK117:=am (hbox);have GW117:=am ((by rw [hg];exact (below_size aq4):w.heap.size ≤ gb117));have GE117:=GW117;replace HB:=am (below_step aq4 hb);have NB101_117:=am ((by rw [hg];exact Nat.ne_of_lt (blk_lt (g:=gb101) (o:=.cells #[.string a0_0,.string a0_1,.int .i64 a0_2] 30 (0,0)) aq1):gb101 ≠ gb117));have NB117_101:=am ((by rw [hg];exact Nat.ne_of_gt (blk_lt (g:=gb101) (o:=.cells #[.string a0_0,.string a0_1,.int .i64 a0_2] 30 (0,0)) aq1):gb117 ≠ gb101));replace BK101:=am (bb BK101 hb);have NB102_117:=am ((by rw [hg];exact Nat.ne_of_lt (blk_lt (g:=gb102) (o:=.cells #[.slice none 0 0,.slice none 0 0,.slice none 0 0,.slice none 0 0] 59 (0,0)) aq9):gb102 ≠ gb117));have NB117_102:=am ((by rw [hg];exact Nat.ne_of_gt (blk_lt (g:=gb102) (o:=.cells #[.slice none 0 0,.slice none 0 0,.slice none 0 0,.slice none 0 0] 59 (0,0)) aq9):gb117 ≠ gb102));replace BK102:=am (bb BK102 hb);clear hb hbox hg;obtain ⟨Ao43,co43,eo43⟩:=Kd.R_slice HO106.out;subst eo43;have hnb44:=NB117_101.out;have hnc44:=NB101_117.out;have hnb45:=NB117_102.out;have hnc45:=NB102_117.out;obtain ⟨hcz46_0,hcz46_1,hcz46_2,hcz46_3,hfz46_0,hfz46_1,hfz46_2,hfz46_3⟩:=blk4_ BK117.out;obtain ⟨Ao47,co47,eo47⟩:=Kd.R_slice HO109.out;subst eo47;obtain ⟨Ao48,co48,eo48⟩:=Kd.S_slice HO112.out;subst eo48;obtain ⟨Ao49,co49,eo49⟩:=Kd.R_slice HO115.out;subst eo49))
  have n0_:Aside0 (Kd.R Kd.string 9 ((((w42.setCell ⟨gb117,0,none⟩ (.slice Ao43 t104.length co43)).setCell ⟨gb117,1,none⟩ (.slice Ao47 t107.length co47)).setCell ⟨gb117,2,none⟩ (.slice Ao48 t110.length co48)).setCell ⟨gb117,3,none⟩ (.slice Ao49 t113.length co49)) w.heap.size (fun k_=>some k_ ≠ (.slice Ao49 t113.length co49:Value).ownBlock) (.slice Ao43 t104.length co43) t104):=⟨by (with_reducible repeat (first | apply Kd.R_alloc | apply Kd.R_drewN | apply Kd.R_drew));exact Kd.R_mono (Kd.R_far (p:=⟨gb117,3,none⟩) (Kd.R_far (p:=⟨gb117,2,none⟩) (Kd.R_far (p:=⟨gb117,1,none⟩) (Kd.R_far (p:=⟨gb117,0,none⟩) (Kd.R_types HO106.out BK117.out d_c) (fun _ hk=>hk.2) (.slice Ao43 t104.length co43)) (fun _ hk=>hk.2) (.slice Ao47 t107.length co47)) (fun _ hk=>hk.2) (.slice Ao48 t110.length co48)) (fun _ hk=>hk.2) (.slice Ao49 t113.length co49)) (fun _ hk=>hk.1)⟩
  have n1_:Aside0 (Kd.R (Kd.int .i64) 3 ((((w42.setCell ⟨gb117,0,none⟩ (.slice Ao43 t104.length co43)).setCell ⟨gb117,1,none⟩ (.slice Ao47 t107.length co47)).setCell ⟨gb117,2,none⟩ (.slice Ao48 t110.length co48)).setCell ⟨gb117,3,none⟩ (.slice Ao49 t113.length co49)) w.heap.size (fun _=>True) (.slice Ao47 t107.length co47) t107):=⟨by (with_reducible repeat (first | apply Kd.R_alloc | apply Kd.R_drewN | apply Kd.R_drew));exact Kd.R_mono (Kd.R_far (p:=⟨gb117,3,none⟩) (Kd.R_far (p:=⟨gb117,2,none⟩) (Kd.R_far (p:=⟨gb117,1,none⟩) (Kd.R_far (p:=⟨gb117,0,none⟩) (Kd.R_types HO109.out BK117.out d_c) (fun _ hk=>hk.2) (.slice Ao43 t104.length co43)) (fun _ hk=>hk.2) (.slice Ao47 t107.length co47)) (fun _ hk=>hk.2) (.slice Ao48 t110.length co48)) (fun _ hk=>hk.2) (.slice Ao49 t113.length co49)) (fun _ hk=>trivial)⟩
  have n2_:Aside0 (Kd.S (Kd.slice 3 (Kd.int .i64)) 40 ((((w42.setCell ⟨gb117,0,none⟩ (.slice Ao43 t104.length co43)).setCell ⟨gb117,1,none⟩ (.slice Ao47 t107.length co47)).setCell ⟨gb117,2,none⟩ (.slice Ao48 t110.length co48)).setCell ⟨gb117,3,none⟩ (.slice Ao49 t113.length co49)) w.heap.size (fun k_=>some k_ ≠ (.slice Ao47 t107.length co47:Value).ownBlock) (.slice Ao48 t110.length co48) t110):=⟨by (with_reducible repeat (first | apply Kd.S_alloc | apply Kd.S_drewN | apply Kd.S_drew));exact Kd.S_mono (Kd.S_far (p:=⟨gb117,3,none⟩) (Kd.S_far (p:=⟨gb117,2,none⟩) (Kd.S_far (p:=⟨gb117,1,none⟩) (Kd.S_far (p:=⟨gb117,0,none⟩) (Kd.S_types HO112.out BK117.out d_c) (fun _ hk=>hk.2) (.slice Ao43 t104.length co43)) (fun _ hk=>hk.2) (.slice Ao47 t107.length co47)) (fun _ hk=>hk.2) (.slice Ao48 t110.length co48)) (fun _ hk=>hk.2) (.slice Ao49 t113.length co49)) (fun _ hk=>hk.1)⟩
  have n3_:Aside0 (Kd.R Kd.string 9 ((((w42.setCell ⟨gb117,0,none⟩ (.slice Ao43 t104.length co43)).setCell ⟨gb117,1,none⟩ (.slice Ao47 t107.length co47)).setCell ⟨gb117,2,none⟩ (.slice Ao48 t110.length co48)).setCell ⟨gb117,3,none⟩ (.slice Ao49 t113.length co49)) w.heap.size (fun k_=>some k_ ≠ (.slice Ao43 t104.length co43:Value).ownBlock) (.slice Ao49 t113.length co49) t113):=⟨by (with_reducible repeat (first | apply Kd.R_alloc | apply Kd.R_drewN | apply Kd.R_drew));exact Kd.R_mono (Kd.R_far (p:=⟨gb117,3,none⟩) (Kd.R_far (p:=⟨gb117,2,none⟩) (Kd.R_far (p:=⟨gb117,1,none⟩) (Kd.R_far (p:=⟨gb117,0,none⟩) (Kd.R_types HO115.out BK117.out d_c) (fun _ hk=>hk.2) (.slice Ao43 t104.length co43)) (fun _ hk=>hk.2) (.slice Ao47 t107.length co47)) (fun _ hk=>hk.2) (.slice Ao48 t110.length co48)) (fun _ hk=>hk.2) (.slice Ao49 t113.length co49)) (fun _ hk=>hk.1)⟩
  have n4_:Aside0 (((((w42.setCell ⟨gb117,0,none⟩ (.slice Ao43 t104.length co43)).setCell ⟨gb117,1,none⟩ (.slice Ao47 t107.length co47)).setCell ⟨gb117,2,none⟩ (.slice Ao48 t110.length co48)).setCell ⟨gb117,3,none⟩ (.slice Ao49 t113.length co49)).heap[gb101]? = some (.cells #[.string a0_0,.string a0_1,.int .i64 a0_2] 30 (0,0))):=⟨aq37⟩
  have n5_:Aside0 (((((w42.setCell ⟨gb117,0,none⟩ (.slice Ao43 t104.length co43)).setCell ⟨gb117,1,none⟩ (.slice Ao47 t107.length co47)).setCell ⟨gb117,2,none⟩ (.slice Ao48 t110.length co48)).setCell ⟨gb117,3,none⟩ (.slice Ao49 t113.length co49)).heap[gb102]? = some (.cells #[.slice none 0 0,.slice none 0 0,.slice none 0 0,.slice none 0 0] 59 (0,0))):=⟨aq36⟩
  have n6_:Aside0 (((((w42.setCell ⟨gb117,0,none⟩ (.slice Ao43 t104.length co43)).setCell ⟨gb117,1,none⟩ (.slice Ao47 t107.length co47)).setCell ⟨gb117,2,none⟩ (.slice Ao48 t110.length co48)).setCell ⟨gb117,3,none⟩ (.slice Ao49 t113.length co49)).heap[gb117]? = some (.cells #[.slice Ao43 t104.length co43,.slice Ao47 t107.length co47,.slice Ao48 t110.length co48,.slice Ao49 t113.length co49] 59 (0,0))):=⟨by (with_reducible repeat (first | refine blk_drewN ?_ _ | refine blk_drew ?_ | refine blk_alloc ?_ _));refine blk_put (cs:=#[.slice Ao43 t104.length co43,.slice Ao47 t107.length co47,.slice Ao48 t110.length co48,.slice none 0 0]) ?_ 3 _ rfl;(with_reducible repeat (first | refine blk_drewN ?_ _ | refine blk_drew ?_ | refine blk_alloc ?_ _));refine blk_put (cs:=#[.slice Ao43 t104.length co43,.slice Ao47 t107.length co47,.slice none 0 0,.slice none 0 0]) ?_ 2 _ rfl;(with_reducible repeat (first | refine blk_drewN ?_ _ | refine blk_drew ?_ | refine blk_alloc ?_ _));refine blk_put (cs:=#[.slice Ao43 t104.length co43,.slice none 0 0,.slice none 0 0,.slice none 0 0]) ?_ 1 _ rfl;(with_reducible repeat (first | refine blk_drewN ?_ _ | refine blk_drew ?_ | refine blk_alloc ?_ _));refine blk_put (cs:=#[.slice none 0 0,.slice none 0 0,.slice none 0 0,.slice none 0 0]) ?_ 0 _ rfl;(with_reducible repeat (first | refine blk_drewN ?_ _ | refine blk_drew ?_ | refine blk_alloc ?_ _));exact BK117.out⟩
  have n7_:Aside0 (Below w.heap.size w ((((w42.setCell ⟨gb117,0,none⟩ (.slice Ao43 t104.length co43)).setCell ⟨gb117,1,none⟩ (.slice Ao47 t107.length co47)).setCell ⟨gb117,2,none⟩ (.slice Ao48 t110.length co48)).setCell ⟨gb117,3,none⟩ (.slice Ao49 t113.length co49))):=⟨aq15⟩
  (try clear HO106)
  (try clear HO109)
  (try clear HO112)
  (try clear HO115)
  (try clear BK101)
  (try clear BK102)
  (try clear BK117)
  (try clear HB)
  generalize ((((w42.setCell ⟨gb117,0,none⟩ (.slice Ao43 t104.length co43)).setCell ⟨gb117,1,none⟩ (.slice Ao47 t107.length co47)).setCell ⟨gb117,2,none⟩ (.slice Ao48 t110.length co48)).setCell ⟨gb117,3,none⟩ (.slice Ao49 t113.length co49)) = w50 at n0_ n1_ n2_ n3_ n4_ n5_ n6_ n7_ ⊢
  have HO106:=n0_
  have HO109:=n1_
  have HO112:=n2_
  have HO115:=n3_
  have BK101:=n4_
  have BK102:=n5_
  have BK117:=n6_
  have HB:=n7_
  clear n0_ n1_ n2_ n3_ n4_ n5_ n6_ n7_
  replace HO106:=am (Kd.R_drew HO106.out)
  replace HO109:=am (Kd.R_drew HO109.out)
  replace HO112:=am (Kd.S_drew HO112.out)
  replace HO115:=am (Kd.R_drew HO115.out)
  replace BK101:=am (blk_drew BK101.out)
  replace BK102:=am (blk_drew BK102.out)
  replace BK117:=am (blk_drew BK117.out)
  replace HB:=am (below_drew1 HB.out)
  refine start_ (n:=8) (S:=fun w'=>w'.cell? ⟨gb117,0,none⟩ = some (.slice Ao43 t104.length co43) ∧ w'.cell? ⟨gb117,1,none⟩ = some (.slice Ao47 t107.length co47) ∧ w'.cell? ⟨gb117,2,none⟩ = some (.slice Ao48 t110.length co48) ∧ w'.cell? ⟨gb117,3,none⟩ = some (.slice Ao49 t113.length co49) ∧ w'.cell? ⟨gb101,0,none⟩ = some (.string a0_0) ∧ w'.cell? ⟨gb101,1,none⟩ = some (.string a0_1) ∧ w'.cell? ⟨gb101,2,none⟩ = some (.int .i64 a0_2)) (ds:=[]) (bm 8 0) k_r rfl rfl ⟨bk BK117 0,bk BK117 1,bk BK117 2,bk BK117 3,bk BK101 0,bk BK101 1,bk BK101 2⟩ (fun hHeld=>?_);refine with_tabW impl_solution.tab6 impl_solution.bits6 (fun HT_ HW_=>?_)
  generalize w50.drew = w51 at HO106 HO109 HO112 HO115 BK101 BK102 BK117 HB hHeld ⊢
  refine py (i:=1) (N:=some 22) (bm 8 2) ?_
  refine py (i:=4) (N:=some 25) (bm 8 18) ?_
  refine tk7 (i:=0) (N:=some 21) (bm 8 19) hHeld ?_
  refine tk7 (i:=2) (N:=some 23) (bm 8 23) hHeld ?_
  refine tk7 (i:=5) (N:=some 26) (bm 8 55) hHeld ?_
  refine one_ (i:=3) (N:=some 24) (bm 8 63) rfl rfl (one_of HT_.out k_r) d_c (fun K hK=>?_)
  refine goes_ Tryz.func50 k_r rfl #[.agg #[.slice Ao43 t104.length co43,.slice Ao47 t107.length co47,.slice Ao48 t110.length co48,.slice Ao49 t113.length co49],.string a0_1] (by rfl) rfl rfl aq3 ?_
  with_reducible refine (impl_reach_cells.calls k _ _ t104 _ _ t107 _ _ t110 _ _ t113 a0_1 t118 _ ?side1 ?side2 ?side3 ?side4 ?side5 ?side6 ?side7 ?side8 A6.out).mono ?_
  (case side1=>exact aq28)
  (case side2=>exact aq111)
  (case side3=>exact aq93)
  (case side4=>exact (Kd.R_reads' HO109.out).2.1)
  (case side5=>exact aq90)
  (case side6=>exact (Kd.S_reads' HO112.out).2.1)
  (case side7=>exact aq49)
  (case side8=>exact (Kd.R_reads' HO115.out).2.1)
  rintro e w52 ⟨v119,rfl,ho0,hb⟩
  refine ⟨_,rfl,?_⟩
  replace HO106:=am (Kd.R_below aq18 hb)
  replace HO112:=am (Kd.S_elder' aq39 (Kd.R_base ho0) hb)
  replace HO115:=am (Kd.R_below aq41 hb)
  have HO120:=am (Kd.R_lower (Kd.R_new' ho0 (Kd.R_lt aq42)) (below_size aq15))
  replace HO109:=am (Kd.R_elder' aq42 (Kd.R_base ho0) hb)
  replace BK101:=am (bb BK101 hb)
  replace BK102:=am (bb BK102 hb)
  replace BK117:=am (bb BK117 hb)
  replace HB:=am (below_step aq15 hb)
  (try clear hb)
  (try clear ho0)
  obtain ⟨Ao53,co53,eo53⟩:=Kd.R_slice HO120.out
  (first | subst eo53 | (injection eo53 with f1_ f2_ f3_;have f4_:=f1_.symm;have f5_:=f3_.symm;clear f1_ f2_ f3_;subst f4_;subst f5_))
  refine hK.out _ _ ⟨bk BK117 0,bk BK117 1,bk BK117 2,bk BK117 3,bk BK101 0,bk BK101 1,bk BK101 2⟩ (fun hHeld=>?_)
  clear hK K
  refine nm (some 24) ?_
  refine one_ (i:=6) (N:=some 27) (bm 8 127) rfl rfl (one_of HT_.out k_r) d_c (fun K hK=>?_)
  refine goes_ Tryz.func52 k_r rfl #[.slice Ao53 t118.length co53,.int .i64 a0_2] (by rfl) rfl rfl aq3 ?_
  with_reducible refine (slices_Index_int_int.calls k _ _ t118 a0_2 t121 _ ?side1 ?side2 A7.out).mono ?_
  (case side1=>exact aq92)
  (case side2=>exact (Kd.R_reads' HO120.out).2.1)
  rintro e w' ⟨rfl,⟨nd,rfl⟩⟩
  refine ⟨_,rfl,?_⟩
  refine hK.out _ _ ⟨bk BK117 0,bk BK117 1,bk BK117 2,bk BK117 3,bk BK101 0,bk BK101 1,bk BK101 2⟩ (fun hHeld=>?_)
  clear hK K
  refine nm (some 27) ?_
  refine py (i:=7) (N:=some 7) (bm 8 255) ?_
  refine done_ (done_of HT_.out k_r) ?_
  try go_wp2
  (try (rw [drewN_self w52];generalize hq_:World.drewN w52 _ = w52;have n0_:Aside0 (Kd.R Kd.string 9 w52 w.heap.size (fun k_=>some k_ ≠ (.slice Ao49 t113.length co49:Value).ownBlock) (.slice Ao43 t104.length co43) t104):=⟨by rw [← hq_];exact aq18⟩;have n1_:Aside0 (Kd.R (Kd.int .i64) 3 w52 w.heap.size (fun k_=>some k_ ≠ (.slice Ao53 t118.length co53:Value).ownBlock) (.slice Ao47 t107.length co47) t107):=⟨aq97⟩;have n2_:Aside0 (Kd.S (Kd.slice 3 (Kd.int .i64)) 40 w52 w.heap.size (fun k_=>some k_ ≠ (.slice Ao47 t107.length co47:Value).ownBlock ∧ some k_ ≠ (.slice Ao53 t118.length co53:Value).ownBlock) (.slice Ao48 t110.length co48) t110):=⟨by rw [← hq_];exact aq39⟩;have n3_:Aside0 (Kd.R Kd.string 9 w52 w.heap.size (fun k_=>some k_ ≠ (.slice Ao43 t104.length co43:Value).ownBlock) (.slice Ao49 t113.length co49) t113):=⟨by rw [← hq_];exact aq41⟩;have n4_:Aside0 (Kd.R (Kd.int .i64) 3 w52 w.heap.size (fun k_=>some k_ ≠ (.slice Ao47 t107.length co47:Value).ownBlock) (.slice Ao53 t118.length co53) t118):=⟨aq96⟩;have n5_:Aside0 (w52.heap[gb101]? = some (.cells #[.string a0_0,.string a0_1,.int .i64 a0_2] 30 (0,0))):=⟨by rw [← hq_];exact aq1⟩;have n6_:Aside0 (w52.heap[gb102]? = some (.cells #[.slice none 0 0,.slice none 0 0,.slice none 0 0,.slice none 0 0] 59 (0,0))):=⟨by rw [← hq_];exact aq9⟩;have n7_:Aside0 (w52.heap[gb117]? = some (.cells #[.slice Ao43 t104.length co43,.slice Ao47 t107.length co47,.slice Ao48 t110.length co48,.slice Ao49 t113.length co49] 59 (0,0))):=⟨by rw [← hq_];exact aq57⟩;have n8_:Aside0 (Below w.heap.size w w52):=⟨by rw [← hq_];exact aq15⟩;clear HO106 HO109 HO112 HO115 HO120 BK101 BK102 BK117 HB hq_;have HO106:=n0_;have HO109:=n1_;have HO112:=n2_;have HO115:=n3_;have HO120:=n4_;have BK101:=n5_;have BK102:=n6_;have BK117:=n7_;have HB:=n8_;clear n0_ n1_ n2_ n3_ n4_ n5_ n6_ n7_ n8_))
  replace HO106:=am (Kd.R_drew HO106.out)
  replace HO109:=am (Kd.R_drew HO109.out)
  replace HO112:=am (Kd.S_drew HO112.out)
  replace HO115:=am (Kd.R_drew HO115.out)
  replace HO120:=am (Kd.R_drew HO120.out)
  replace BK101:=am (blk_drew BK101.out)
  replace BK102:=am (blk_drew BK102.out)
  replace BK117:=am (blk_drew BK117.out)
  replace HB:=am (below_drew1 HB.out)
  refine start_ (n:=15) (S:=fun w'=>w'.cell? ⟨gb117,0,none⟩ = some (.slice Ao43 t104.length co43) ∧ w'.cell? ⟨gb117,1,none⟩ = some (.slice Ao47 t107.length co47) ∧ w'.cell? ⟨gb117,2,none⟩ = some (.slice Ao48 t110.length co48) ∧ w'.cell? ⟨gb117,3,none⟩ = some (.slice Ao49 t113.length co49)) (ds:=[]) (bm 15 0) k_r rfl rfl ⟨bk BK117 0,bk BK117 1,bk BK117 2,bk BK117 3⟩ (fun hHeld=>?_);refine with_tabW impl_solution.tab7 impl_solution.bits7 (fun HT_ HW_=>?_)
  generalize w52.drew = w54 at HO106 HO109 HO112 HO115 HO120 BK101 BK102 BK117 HB hHeld ⊢
  refine py (i:=1) (N:=some 29) (bm 15 2) ?_
  refine py (i:=2) (N:=some 30) (bm 15 6) ?_
  refine py (i:=3) (N:=some 31) (bm 15 14) ?_
  refine py (i:=4) (N:=some 32) (bm 15 30) ?_
  refine pu (i:=5) (N:=some 33) (bm 15 62) ?_
  refine pu (i:=6) (N:=some 34) (bm 15 126) ?_
  refine pu (i:=7) (N:=some 35) (bm 15 254) ?_
  refine pu (i:=8) (N:=some 36) (bm 15 510) ?_
  refine pu (i:=9) (N:=some 37) (bm 15 1022) ?_
  refine pu (i:=10) (N:=some 38) (bm 15 2046) ?_
  refine py (i:=11) (N:=some 39) (bm 15 4094) ?_
  refine tk4 (i:=0) (N:=some 28) (bm 15 4095) hHeld ?_
  refine one_ (i:=12) (N:=none) (bm 15 8191) rfl rfl (one_of HT_.out k_r) d_c (fun K hK=>?_)
  have hs55:w54.cell? ⟨gb102,0,none⟩ = some (.slice none 0 0):=(blk_cell BK102.out 0).trans rfl
  have hfs55:=blk_frozen BK102.out 0
  have hns55_0:=NB101_102.out
  have hns55_2:=NB117_102.out
  have hms55_0:=NB102_101.out
  have hms55_2:=NB102_117.out
  have hs56:w54.cell? ⟨gb102,1,none⟩ = some (.slice none 0 0):=(blk_cell BK102.out 1).trans rfl
  have hfs56:=blk_frozen BK102.out 1
  have hns56_0:=NB101_102.out
  have hns56_2:=NB117_102.out
  have hms56_0:=NB102_101.out
  have hms56_2:=NB102_117.out
  have hs57:w54.cell? ⟨gb102,2,none⟩ = some (.slice none 0 0):=(blk_cell BK102.out 2).trans rfl
  have hfs57:=blk_frozen BK102.out 2
  have hns57_0:=NB101_102.out
  have hns57_2:=NB117_102.out
  have hms57_0:=NB102_101.out
  have hms57_2:=NB102_117.out
  have hs58:w54.cell? ⟨gb102,3,none⟩ = some (.slice none 0 0):=(blk_cell BK102.out 3).trans rfl
  have hfs58:=blk_frozen BK102.out 3
  have hns58_0:=NB101_102.out
  have hns58_2:=NB117_102.out
  have hms58_0:=NB102_101.out
  have hms58_2:=NB102_117.out
  refine skip_ (w1:=?_) (by rfl) rfl ?_ ?_
  rotate_left
  ·go_simp
   rfl
  refine hK.out _ _ ⟨((cell_far (p:=⟨gb102,_,none⟩) NB117_102.out _).trans (((cell_far (p:=⟨gb102,_,none⟩) NB117_102.out _).trans (((cell_far (p:=⟨gb102,_,none⟩) NB117_102.out _).trans (((cell_far (p:=⟨gb102,_,none⟩) NB117_102.out _).trans (hHeld.1)))))))),((cell_far (p:=⟨gb102,_,none⟩) NB117_102.out _).trans (((cell_far (p:=⟨gb102,_,none⟩) NB117_102.out _).trans (((cell_far (p:=⟨gb102,_,none⟩) NB117_102.out _).trans (((cell_far (p:=⟨gb102,_,none⟩) NB117_102.out _).trans (hHeld.2.1)))))))),((cell_far (p:=⟨gb102,_,none⟩) NB117_102.out _).trans (((cell_far (p:=⟨gb102,_,none⟩) NB117_102.out _).trans (((cell_far (p:=⟨gb102,_,none⟩) NB117_102.out _).trans (((cell_far (p:=⟨gb102,_,none⟩) NB117_102.out _).trans (hHeld.2.2.1)))))))),((cell_far (p:=⟨gb102,_,none⟩) NB117_102.out _).trans (((cell_far (p:=⟨gb102,_,none⟩) NB117_102.out _).trans (((cell_far (p:=⟨gb102,_,none⟩) NB117_102.out _).trans (((cell_far (p:=⟨gb102,_,none⟩) NB117_102.out _).trans (hHeld.2.2.2))))))))⟩ (fun hHeld=>?_)
  clear hK K
  refine py (i:=13) (N:=some 3) (bm 15 16383) ?_
  refine py (i:=14) (N:=some 4) (bm 15 32767) ?_
  refine done_ (done_of HT_.out k_r) ?_
  try go_wp2
  refine bodyPost_ret (results_ctt rfl _ _ gb102 59 #[.slice Ao43 t104.length co43,.slice Ao47 t107.length co47,.slice Ao48 t110.length co48,.slice Ao49 t113.length co49] (0,0) _ rfl (by (with_reducible repeat (first | refine blk_drewN ?_ _ | refine blk_drew ?_ | refine blk_alloc ?_ _));refine blk_put (cs:=#[.slice Ao43 t104.length co43,.slice Ao47 t107.length co47,.slice Ao48 t110.length co48,.slice none 0 0]) ?_ 3 _ rfl;(with_reducible repeat (first | refine blk_drewN ?_ _ | refine blk_drew ?_ | refine blk_alloc ?_ _));refine blk_put (cs:=#[.slice Ao43 t104.length co43,.slice Ao47 t107.length co47,.slice none 0 0,.slice none 0 0]) ?_ 2 _ rfl;(with_reducible repeat (first | refine blk_drewN ?_ _ | refine blk_drew ?_ | refine blk_alloc ?_ _));refine blk_put (cs:=#[.slice Ao43 t104.length co43,.slice none 0 0,.slice none 0 0,.slice none 0 0]) ?_ 1 _ rfl;(with_reducible repeat (first | refine blk_drewN ?_ _ | refine blk_drew ?_ | refine blk_alloc ?_ _));refine blk_put (cs:=#[.slice none 0 0,.slice none 0 0,.slice none 0 0,.slice none 0 0]) ?_ 0 _ rfl;(with_reducible repeat (first | refine blk_drewN ?_ _ | refine blk_drew ?_ | refine blk_alloc ?_ _));exact BK102.out) Tryz.underlying59 rfl k_r) rfl ?_
  exact ⟨_,_,_,_,aq7,by (with_reducible repeat (first | apply Kd.R_alloc | apply Kd.R_drewN | apply Kd.R_drew));exact Kd.R_mono (Kd.R_far (p:=⟨gb102,3,none⟩) (Kd.R_far (p:=⟨gb102,2,none⟩) (Kd.R_far (p:=⟨gb102,1,none⟩) (Kd.R_far (p:=⟨gb102,0,none⟩) (Kd.R_types HO106.out BK102.out d_c) (fun _ hk=>hk.2) (.slice Ao43 t104.length co43)) (fun _ hk=>hk.2) (.slice Ao47 t107.length co47)) (fun _ hk=>hk.2) (.slice Ao48 t110.length co48)) (fun _ hk=>hk.2) (.slice Ao49 t113.length co49)) (fun _ hk=>hk.1),by (with_reducible repeat (first | apply Kd.R_alloc | apply Kd.R_drewN | apply Kd.R_drew));exact Kd.R_mono (Kd.R_far (p:=⟨gb102,3,none⟩) (Kd.R_far (p:=⟨gb102,2,none⟩) (Kd.R_far (p:=⟨gb102,1,none⟩) (Kd.R_far (p:=⟨gb102,0,none⟩) (Kd.R_types HO109.out BK102.out d_c) (fun _ hk=>hk.2) (.slice Ao43 t104.length co43)) (fun _ hk=>hk.2) (.slice Ao47 t107.length co47)) (fun _ hk=>hk.2) (.slice Ao48 t110.length co48)) (fun _ hk=>hk.2) (.slice Ao49 t113.length co49)) (fun _ hk=>trivial),by (with_reducible repeat (first | apply Kd.S_alloc | apply Kd.S_drewN | apply Kd.S_drew));exact Kd.S_mono (Kd.S_far (p:=⟨gb102,3,none⟩) (Kd.S_far (p:=⟨gb102,2,none⟩) (Kd.S_far (p:=⟨gb102,1,none⟩) (Kd.S_far (p:=⟨gb102,0,none⟩) (Kd.S_types HO112.out BK102.out d_c) (fun _ hk=>hk.2) (.slice Ao43 t104.length co43)) (fun _ hk=>hk.2) (.slice Ao47 t107.length co47)) (fun _ hk=>hk.2) (.slice Ao48 t110.length co48)) (fun _ hk=>hk.2) (.slice Ao49 t113.length co49)) (fun _ hk=>hk.1.1),by (with_reducible repeat (first | apply Kd.R_alloc | apply Kd.R_drewN | apply Kd.R_drew));exact Kd.R_mono (Kd.R_far (p:=⟨gb102,3,none⟩) (Kd.R_far (p:=⟨gb102,2,none⟩) (Kd.R_far (p:=⟨gb102,1,none⟩) (Kd.R_far (p:=⟨gb102,0,none⟩) (Kd.R_types HO115.out BK102.out d_c) (fun _ hk=>hk.2) (.slice Ao43 t104.length co43)) (fun _ hk=>hk.2) (.slice Ao47 t107.length co47)) (fun _ hk=>hk.2) (.slice Ao48 t110.length co48)) (fun _ hk=>hk.2) (.slice Ao49 t113.length co49)) (fun _ hk=>hk.1),aq15⟩
 rw [if_pos c8] at H
 have c8b0:=decide_eq_true c8
 clear c8
 replace H:=gd H
 obtain ⟨c9,H⟩:=H
 have c9b0:=decide_eq_true c9
 clear c9
 replace H:=gd H
 obtain ⟨c10,H⟩:=H
 have c10b0:=decide_eq_true c10
 clear c10
 simp only [Option.some.injEq,Prod.mk.injEq] at H
 obtain ⟨rfl,rfl,rfl,rfl,rfl,rfl⟩:=H
 go_enter Tryz.func55,Tryz.ntmps55
 try go_wp2_with (first | (refine bx 1 #[.string a0_0,.string a0_1,.int .i64 a0_2] 30 ?_;intro gb101 hg w11 hbox hb;have BK101:=am (hbox);have GW101:=am ((by rw [hg];exact (below_size aq2):w.heap.size ≤ gb101));have GE101:=GW101;replace HB:=am (below_step aq2 hb);clear hb hbox hg) | (refine bx 2 #[.slice none 0 0,.slice none 0 0,.slice none 0 0,.slice none 0 0] 59 ?_;intro gb102 hg w12 hbox hb;have BK102:=am (hbox);have GW102:=am ((by rw [hg];exact (below_size aq0):w.heap.size ≤ gb102));have GE102:=GW102;replace HB:=am (below_step aq0 hb);have NB101_102:=am ((by rw [hg];exact Nat.ne_of_lt (blk_lt (g:=gb101) (o:=.cells #[.string a0_0,.string a0_1,.int .i64 a0_2] 30 (0,0)) aq1):gb101 ≠ gb102));have NB102_101:=am ((by rw [hg];exact Nat.ne_of_gt (blk_lt (g:=gb101) (o:=.cells #[.string a0_0,.string a0_1,.int .i64 a0_2] 30 (0,0)) aq1):gb102 ≠ gb101));replace BK101:=am (bb BK101 hb);clear hb hbox hg;have hnb13:=NB101_102.out;have hnc13:=NB102_101.out;obtain ⟨hcz14_0,hcz14_1,hcz14_2,hfz14_0,hfz14_1,hfz14_2⟩:=blk3_ BK101.out) | ((with_reducible refine gate_callee (f:=94) rfl ?_);refine goesL_ (some 9) rfl rfl Tryz.func94 k_r rfl #[.agg #[.string a0_0,.string a0_1,.int .i64 a0_2]] rfl aq3 ?_;(with_reducible refine (impl_IsPuzzle.calls k a0_0 a0_1 a0_2 true _ A2.out).mono ?_);rintro e w15 ⟨rfl,hb⟩;refine ⟨_,rfl,?_⟩;replace BK101:=am (bb BK101 hb);replace BK102:=am (bb BK102 hb);replace HB:=am (below_step aq4 hb);(try clear hb);obtain ⟨hcz16_0,hcz16_1,hcz16_2,hfz16_0,hfz16_1,hfz16_2⟩:=blk3_ BK101.out) | ((with_reducible refine gate_callee (f:=74) rfl ?_);refine goesL_ (some 15) rfl rfl Tryz.func74 k_r rfl #[.string a0_0] rfl aq3 ?_;(with_reducible refine (impl_reachOf.calls a0_0 t104 t107 t110 t113 true _ A4.out).mono ?_);rintro e w17 ⟨v105,v108,v111,v114,rfl,ho0,ho1,ho2,ho3,hb⟩;refine ⟨_,rfl,?_⟩;have HO106:=am (Kd.R_lower ho0 (below_size aq4));have HO109:=am (Kd.R_lower ho1 (below_size aq4));have HO112:=am (Kd.S_lower ho2 (below_size aq4));have HO115:=am (Kd.R_lower ho3 (below_size aq4));replace BK101:=am (bb BK101 hb);replace BK102:=am (bb BK102 hb);replace HB:=am (below_step aq4 hb);(try clear hb);(try clear ho0);(try clear ho1);(try clear ho2);(try clear ho3)) | (refine bx 5 #[.slice none 0 0,.slice none 0 0,.slice none 0 0,.slice none 0 0] 59 ?_;intro gb117 hg w18 hbox hb;replace HO106:=am (Kd.R_below aq18 hb);replace HO109:=am (Kd.R_below aq42 hb);replace HO112:=am (Kd.S_below aq39 hb);replace HO115:=am (Kd.R_below aq41 hb);have BK117:=am (hbox);have GW117:=am ((by rw [hg];exact (below_size aq4):w.heap.size ≤ gb117));have GE117:=GW117;replace HB:=am (below_step aq4 hb);have NB101_117:=am ((by rw [hg];exact Nat.ne_of_lt (blk_lt (g:=gb101) (o:=.cells #[.string a0_0,.string a0_1,.int .i64 a0_2] 30 (0,0)) aq1):gb101 ≠ gb117));have NB117_101:=am ((by rw [hg];exact Nat.ne_of_gt (blk_lt (g:=gb101) (o:=.cells #[.string a0_0,.string a0_1,.int .i64 a0_2] 30 (0,0)) aq1):gb117 ≠ gb101));replace BK101:=am (bb BK101 hb);have NB102_117:=am ((by rw [hg];exact Nat.ne_of_lt (blk_lt (g:=gb102) (o:=.cells #[.slice none 0 0,.slice none 0 0,.slice none 0 0,.slice none 0 0] 59 (0,0)) aq9):gb102 ≠ gb117));have NB117_102:=am ((by rw [hg];exact Nat.ne_of_gt (blk_lt (g:=gb102) (o:=.cells #[.slice none 0 0,.slice none 0 0,.slice none 0 0,.slice none 0 0] 59 (0,0)) aq9):gb117 ≠ gb102));replace BK102:=am (bb BK102 hb);clear hb hbox hg;obtain ⟨Ao19,co19,eo19⟩:=Kd.R_slice HO106.out;subst eo19;have hnb20:=NB117_101.out;have hnc20:=NB101_117.out;have hnb21:=NB117_102.out;have hnc21:=NB102_117.out;obtain ⟨hcz22_0,hcz22_1,hcz22_2,hcz22_3,hfz22_0,hfz22_1,hfz22_2,hfz22_3⟩:=blk4_ BK117.out;obtain ⟨Ao23,co23,eo23⟩:=Kd.R_slice HO109.out;subst eo23;obtain ⟨Ao24,co24,eo24⟩:=Kd.S_slice HO112.out;subst eo24;obtain ⟨Ao25,co25,eo25⟩:=Kd.R_slice HO115.out;subst eo25))
 have n0_:Aside0 (Kd.R Kd.string 9 ((((w18.setCell ⟨gb117,0,none⟩ (.slice Ao19 t104.length co19)).setCell ⟨gb117,1,none⟩ (.slice Ao23 t107.length co23)).setCell ⟨gb117,2,none⟩ (.slice Ao24 t110.length co24)).setCell ⟨gb117,3,none⟩ (.slice Ao25 t113.length co25)) w.heap.size (fun k_=>some k_ ≠ (.slice Ao25 t113.length co25:Value).ownBlock) (.slice Ao19 t104.length co19) t104):=⟨by (with_reducible repeat (first | apply Kd.R_alloc | apply Kd.R_drewN | apply Kd.R_drew));exact Kd.R_mono (Kd.R_far (p:=⟨gb117,3,none⟩) (Kd.R_far (p:=⟨gb117,2,none⟩) (Kd.R_far (p:=⟨gb117,1,none⟩) (Kd.R_far (p:=⟨gb117,0,none⟩) (Kd.R_types HO106.out BK117.out d_c) (fun _ hk=>hk.2) (.slice Ao19 t104.length co19)) (fun _ hk=>hk.2) (.slice Ao23 t107.length co23)) (fun _ hk=>hk.2) (.slice Ao24 t110.length co24)) (fun _ hk=>hk.2) (.slice Ao25 t113.length co25)) (fun _ hk=>hk.1)⟩
 have n1_:Aside0 (Kd.R (Kd.int .i64) 3 ((((w18.setCell ⟨gb117,0,none⟩ (.slice Ao19 t104.length co19)).setCell ⟨gb117,1,none⟩ (.slice Ao23 t107.length co23)).setCell ⟨gb117,2,none⟩ (.slice Ao24 t110.length co24)).setCell ⟨gb117,3,none⟩ (.slice Ao25 t113.length co25)) w.heap.size (fun _=>True) (.slice Ao23 t107.length co23) t107):=⟨by (with_reducible repeat (first | apply Kd.R_alloc | apply Kd.R_drewN | apply Kd.R_drew));exact Kd.R_mono (Kd.R_far (p:=⟨gb117,3,none⟩) (Kd.R_far (p:=⟨gb117,2,none⟩) (Kd.R_far (p:=⟨gb117,1,none⟩) (Kd.R_far (p:=⟨gb117,0,none⟩) (Kd.R_types HO109.out BK117.out d_c) (fun _ hk=>hk.2) (.slice Ao19 t104.length co19)) (fun _ hk=>hk.2) (.slice Ao23 t107.length co23)) (fun _ hk=>hk.2) (.slice Ao24 t110.length co24)) (fun _ hk=>hk.2) (.slice Ao25 t113.length co25)) (fun _ hk=>trivial)⟩
 have n2_:Aside0 (Kd.S (Kd.slice 3 (Kd.int .i64)) 40 ((((w18.setCell ⟨gb117,0,none⟩ (.slice Ao19 t104.length co19)).setCell ⟨gb117,1,none⟩ (.slice Ao23 t107.length co23)).setCell ⟨gb117,2,none⟩ (.slice Ao24 t110.length co24)).setCell ⟨gb117,3,none⟩ (.slice Ao25 t113.length co25)) w.heap.size (fun k_=>some k_ ≠ (.slice Ao23 t107.length co23:Value).ownBlock) (.slice Ao24 t110.length co24) t110):=⟨by (with_reducible repeat (first | apply Kd.S_alloc | apply Kd.S_drewN | apply Kd.S_drew));exact Kd.S_mono (Kd.S_far (p:=⟨gb117,3,none⟩) (Kd.S_far (p:=⟨gb117,2,none⟩) (Kd.S_far (p:=⟨gb117,1,none⟩) (Kd.S_far (p:=⟨gb117,0,none⟩) (Kd.S_types HO112.out BK117.out d_c) (fun _ hk=>hk.2) (.slice Ao19 t104.length co19)) (fun _ hk=>hk.2) (.slice Ao23 t107.length co23)) (fun _ hk=>hk.2) (.slice Ao24 t110.length co24)) (fun _ hk=>hk.2) (.slice Ao25 t113.length co25)) (fun _ hk=>hk.1)⟩
 have n3_:Aside0 (Kd.R Kd.string 9 ((((w18.setCell ⟨gb117,0,none⟩ (.slice Ao19 t104.length co19)).setCell ⟨gb117,1,none⟩ (.slice Ao23 t107.length co23)).setCell ⟨gb117,2,none⟩ (.slice Ao24 t110.length co24)).setCell ⟨gb117,3,none⟩ (.slice Ao25 t113.length co25)) w.heap.size (fun k_=>some k_ ≠ (.slice Ao19 t104.length co19:Value).ownBlock) (.slice Ao25 t113.length co25) t113):=⟨by (with_reducible repeat (first | apply Kd.R_alloc | apply Kd.R_drewN | apply Kd.R_drew));exact Kd.R_mono (Kd.R_far (p:=⟨gb117,3,none⟩) (Kd.R_far (p:=⟨gb117,2,none⟩) (Kd.R_far (p:=⟨gb117,1,none⟩) (Kd.R_far (p:=⟨gb117,0,none⟩) (Kd.R_types HO115.out BK117.out d_c) (fun _ hk=>hk.2) (.slice Ao19 t104.length co19)) (fun _ hk=>hk.2) (.slice Ao23 t107.length co23)) (fun _ hk=>hk.2) (.slice Ao24 t110.length co24)) (fun _ hk=>hk.2) (.slice Ao25 t113.length co25)) (fun _ hk=>hk.1)⟩
 have n4_:Aside0 (((((w18.setCell ⟨gb117,0,none⟩ (.slice Ao19 t104.length co19)).setCell ⟨gb117,1,none⟩ (.slice Ao23 t107.length co23)).setCell ⟨gb117,2,none⟩ (.slice Ao24 t110.length co24)).setCell ⟨gb117,3,none⟩ (.slice Ao25 t113.length co25)).heap[gb101]? = some (.cells #[.string a0_0,.string a0_1,.int .i64 a0_2] 30 (0,0))):=⟨aq37⟩
 have n5_:Aside0 (((((w18.setCell ⟨gb117,0,none⟩ (.slice Ao19 t104.length co19)).setCell ⟨gb117,1,none⟩ (.slice Ao23 t107.length co23)).setCell ⟨gb117,2,none⟩ (.slice Ao24 t110.length co24)).setCell ⟨gb117,3,none⟩ (.slice Ao25 t113.length co25)).heap[gb102]? = some (.cells #[.slice none 0 0,.slice none 0 0,.slice none 0 0,.slice none 0 0] 59 (0,0))):=⟨aq36⟩
 have n6_:Aside0 (((((w18.setCell ⟨gb117,0,none⟩ (.slice Ao19 t104.length co19)).setCell ⟨gb117,1,none⟩ (.slice Ao23 t107.length co23)).setCell ⟨gb117,2,none⟩ (.slice Ao24 t110.length co24)).setCell ⟨gb117,3,none⟩ (.slice Ao25 t113.length co25)).heap[gb117]? = some (.cells #[.slice Ao19 t104.length co19,.slice Ao23 t107.length co23,.slice Ao24 t110.length co24,.slice Ao25 t113.length co25] 59 (0,0))):=⟨by (with_reducible repeat (first | refine blk_drewN ?_ _ | refine blk_drew ?_ | refine blk_alloc ?_ _));refine blk_put (cs:=#[.slice Ao19 t104.length co19,.slice Ao23 t107.length co23,.slice Ao24 t110.length co24,.slice none 0 0]) ?_ 3 _ rfl;(with_reducible repeat (first | refine blk_drewN ?_ _ | refine blk_drew ?_ | refine blk_alloc ?_ _));refine blk_put (cs:=#[.slice Ao19 t104.length co19,.slice Ao23 t107.length co23,.slice none 0 0,.slice none 0 0]) ?_ 2 _ rfl;(with_reducible repeat (first | refine blk_drewN ?_ _ | refine blk_drew ?_ | refine blk_alloc ?_ _));refine blk_put (cs:=#[.slice Ao19 t104.length co19,.slice none 0 0,.slice none 0 0,.slice none 0 0]) ?_ 1 _ rfl;(with_reducible repeat (first | refine blk_drewN ?_ _ | refine blk_drew ?_ | refine blk_alloc ?_ _));refine blk_put (cs:=#[.slice none 0 0,.slice none 0 0,.slice none 0 0,.slice none 0 0]) ?_ 0 _ rfl;(with_reducible repeat (first | refine blk_drewN ?_ _ | refine blk_drew ?_ | refine blk_alloc ?_ _));exact BK117.out⟩
 have n7_:Aside0 (Below w.heap.size w ((((w18.setCell ⟨gb117,0,none⟩ (.slice Ao19 t104.length co19)).setCell ⟨gb117,1,none⟩ (.slice Ao23 t107.length co23)).setCell ⟨gb117,2,none⟩ (.slice Ao24 t110.length co24)).setCell ⟨gb117,3,none⟩ (.slice Ao25 t113.length co25))):=⟨aq15⟩
 (try clear HO106)
 (try clear HO109)
 (try clear HO112)
 (try clear HO115)
 (try clear BK101)
 (try clear BK102)
 (try clear BK117)
 (try clear HB)
 generalize ((((w18.setCell ⟨gb117,0,none⟩ (.slice Ao19 t104.length co19)).setCell ⟨gb117,1,none⟩ (.slice Ao23 t107.length co23)).setCell ⟨gb117,2,none⟩ (.slice Ao24 t110.length co24)).setCell ⟨gb117,3,none⟩ (.slice Ao25 t113.length co25)) = w26 at n0_ n1_ n2_ n3_ n4_ n5_ n6_ n7_ ⊢
 have HO106:=n0_
 have HO109:=n1_
 have HO112:=n2_
 have HO115:=n3_
 have BK101:=n4_
 have BK102:=n5_
 have BK117:=n6_
 have HB:=n7_
 clear n0_ n1_ n2_ n3_ n4_ n5_ n6_ n7_
 replace HO106:=am (Kd.R_drew HO106.out)
 replace HO109:=am (Kd.R_drew HO109.out)
 replace HO112:=am (Kd.S_drew HO112.out)
 replace HO115:=am (Kd.R_drew HO115.out)
 replace BK101:=am (blk_drew BK101.out)
 replace BK102:=am (blk_drew BK102.out)
 replace BK117:=am (blk_drew BK117.out)
 replace HB:=am (below_drew1 HB.out)
 refine start_ (n:=8) (S:=fun w'=>w'.cell? ⟨gb117,0,none⟩ = some (.slice Ao19 t104.length co19) ∧ w'.cell? ⟨gb117,1,none⟩ = some (.slice Ao23 t107.length co23) ∧ w'.cell? ⟨gb117,2,none⟩ = some (.slice Ao24 t110.length co24) ∧ w'.cell? ⟨gb117,3,none⟩ = some (.slice Ao25 t113.length co25) ∧ w'.cell? ⟨gb101,0,none⟩ = some (.string a0_0) ∧ w'.cell? ⟨gb101,1,none⟩ = some (.string a0_1) ∧ w'.cell? ⟨gb101,2,none⟩ = some (.int .i64 a0_2)) (ds:=[]) (bm 8 0) k_r rfl rfl ⟨bk BK117 0,bk BK117 1,bk BK117 2,bk BK117 3,bk BK101 0,bk BK101 1,bk BK101 2⟩ (fun hHeld=>?_);refine with_tabW impl_solution.tab6 impl_solution.bits6 (fun HT_ HW_=>?_)
 generalize w26.drew = w27 at HO106 HO109 HO112 HO115 BK101 BK102 BK117 HB hHeld ⊢
 refine py (i:=1) (N:=some 22) (bm 8 2) ?_
 refine py (i:=4) (N:=some 25) (bm 8 18) ?_
 refine tk7 (i:=0) (N:=some 21) (bm 8 19) hHeld ?_
 refine tk7 (i:=2) (N:=some 23) (bm 8 23) hHeld ?_
 refine tk7 (i:=5) (N:=some 26) (bm 8 55) hHeld ?_
 refine one_ (i:=3) (N:=some 24) (bm 8 63) rfl rfl (one_of HT_.out k_r) d_c (fun K hK=>?_)
 refine goes_ Tryz.func50 k_r rfl #[.agg #[.slice Ao19 t104.length co19,.slice Ao23 t107.length co23,.slice Ao24 t110.length co24,.slice Ao25 t113.length co25],.string a0_1] (by rfl) rfl rfl aq3 ?_
 with_reducible refine (impl_reach_cells.calls k _ _ t104 _ _ t107 _ _ t110 _ _ t113 a0_1 t118 _ ?side1 ?side2 ?side3 ?side4 ?side5 ?side6 ?side7 ?side8 A6.out).mono ?_
 (case side1=>exact aq28)
 (case side2=>exact aq111)
 (case side3=>exact aq93)
 (case side4=>exact (Kd.R_reads' HO109.out).2.1)
 (case side5=>exact aq90)
 (case side6=>exact (Kd.S_reads' HO112.out).2.1)
 (case side7=>exact aq49)
 (case side8=>exact (Kd.R_reads' HO115.out).2.1)
 rintro e w28 ⟨v119,rfl,ho0,hb⟩
 refine ⟨_,rfl,?_⟩
 replace HO106:=am (Kd.R_below aq18 hb)
 replace HO112:=am (Kd.S_elder' aq39 (Kd.R_base ho0) hb)
 replace HO115:=am (Kd.R_below aq41 hb)
 have HO120:=am (Kd.R_lower (Kd.R_new' ho0 (Kd.R_lt aq42)) (below_size aq15))
 replace HO109:=am (Kd.R_elder' aq42 (Kd.R_base ho0) hb)
 replace BK101:=am (bb BK101 hb)
 replace BK102:=am (bb BK102 hb)
 replace BK117:=am (bb BK117 hb)
 replace HB:=am (below_step aq15 hb)
 (try clear hb)
 (try clear ho0)
 obtain ⟨Ao29,co29,eo29⟩:=Kd.R_slice HO120.out
 (first | subst eo29 | (injection eo29 with f1_ f2_ f3_;have f4_:=f1_.symm;have f5_:=f3_.symm;clear f1_ f2_ f3_;subst f4_;subst f5_))
 refine hK.out _ _ ⟨bk BK117 0,bk BK117 1,bk BK117 2,bk BK117 3,bk BK101 0,bk BK101 1,bk BK101 2⟩ (fun hHeld=>?_)
 clear hK K
 refine nm (some 24) ?_
 refine one_ (i:=6) (N:=some 27) (bm 8 127) rfl rfl (one_of HT_.out k_r) d_c (fun K hK=>?_)
 refine goes_ Tryz.func52 k_r rfl #[.slice Ao29 t118.length co29,.int .i64 a0_2] (by rfl) rfl rfl aq3 ?_
 with_reducible refine (slices_Index_int_int.calls k _ _ t118 a0_2 t121 _ ?side1 ?side2 A7.out).mono ?_
 (case side1=>exact aq92)
 (case side2=>exact (Kd.R_reads' HO120.out).2.1)
 rintro e w' ⟨rfl,⟨nd,rfl⟩⟩
 refine ⟨_,rfl,?_⟩
 refine hK.out _ _ ⟨bk BK117 0,bk BK117 1,bk BK117 2,bk BK117 3,bk BK101 0,bk BK101 1,bk BK101 2⟩ (fun hHeld=>?_)
 clear hK K
 refine nm (some 27) ?_
 refine py (i:=7) (N:=some 7) (bm 8 255) ?_
 refine done_ (done_of HT_.out k_r) ?_
 try go_wp2
 (try (rw [drewN_self w28];generalize hq_:World.drewN w28 _ = w28;have n0_:Aside0 (Kd.R Kd.string 9 w28 w.heap.size (fun k_=>some k_ ≠ (.slice Ao25 t113.length co25:Value).ownBlock) (.slice Ao19 t104.length co19) t104):=⟨by rw [← hq_];exact aq18⟩;have n1_:Aside0 (Kd.R (Kd.int .i64) 3 w28 w.heap.size (fun k_=>some k_ ≠ (.slice Ao29 t118.length co29:Value).ownBlock) (.slice Ao23 t107.length co23) t107):=⟨aq97⟩;have n2_:Aside0 (Kd.S (Kd.slice 3 (Kd.int .i64)) 40 w28 w.heap.size (fun k_=>some k_ ≠ (.slice Ao23 t107.length co23:Value).ownBlock ∧ some k_ ≠ (.slice Ao29 t118.length co29:Value).ownBlock) (.slice Ao24 t110.length co24) t110):=⟨by rw [← hq_];exact aq39⟩;have n3_:Aside0 (Kd.R Kd.string 9 w28 w.heap.size (fun k_=>some k_ ≠ (.slice Ao19 t104.length co19:Value).ownBlock) (.slice Ao25 t113.length co25) t113):=⟨by rw [← hq_];exact aq41⟩;have n4_:Aside0 (Kd.R (Kd.int .i64) 3 w28 w.heap.size (fun k_=>some k_ ≠ (.slice Ao23 t107.length co23:Value).ownBlock) (.slice Ao29 t118.length co29) t118):=⟨aq96⟩;have n5_:Aside0 (w28.heap[gb101]? = some (.cells #[.string a0_0,.string a0_1,.int .i64 a0_2] 30 (0,0))):=⟨by rw [← hq_];exact aq1⟩;have n6_:Aside0 (w28.heap[gb102]? = some (.cells #[.slice none 0 0,.slice none 0 0,.slice none 0 0,.slice none 0 0] 59 (0,0))):=⟨by rw [← hq_];exact aq9⟩;have n7_:Aside0 (w28.heap[gb117]? = some (.cells #[.slice Ao19 t104.length co19,.slice Ao23 t107.length co23,.slice Ao24 t110.length co24,.slice Ao25 t113.length co25] 59 (0,0))):=⟨by rw [← hq_];exact aq57⟩;have n8_:Aside0 (Below w.heap.size w w28):=⟨by rw [← hq_];exact aq15⟩;clear HO106 HO109 HO112 HO115 HO120 BK101 BK102 BK117 HB hq_;have HO106:=n0_;have HO109:=n1_;have HO112:=n2_;have HO115:=n3_;have HO120:=n4_;have BK101:=n5_;have BK102:=n6_;have BK117:=n7_;have HB:=n8_;clear n0_ n1_ n2_ n3_ n4_ n5_ n6_ n7_ n8_))
 replace HO106:=am (Kd.R_drew HO106.out)
 replace HO109:=am (Kd.R_drew HO109.out)
 replace HO112:=am (Kd.S_drew HO112.out)
 replace HO115:=am (Kd.R_drew HO115.out)
 replace HO120:=am (Kd.R_drew HO120.out)
 replace BK101:=am (blk_drew BK101.out)
 replace BK102:=am (blk_drew BK102.out)
 replace BK117:=am (blk_drew BK117.out)
 replace HB:=am (below_drew1 HB.out)
 have p122:0 ≤ (t121:Int):=of_decide_eq_true aq6
 have q122:t121 < (t107.length:Int):=of_decide_eq_true aq6
 obtain ⟨ad122,e122,hx122_0⟩:=Kd.at_int (Kd.R_reads' HO109.out).2.2 t121 p122 q122
 cases e122
 replace p122:=eq_true p122
 replace q122:=eq_true q122
 refine start_ (n:=15) (S:=fun w'=>w'.cell? ⟨gb117,0,none⟩ = some (.slice Ao19 t104.length co19) ∧ w'.cell? ⟨gb117,1,none⟩ = some (.slice (some ad122) t107.length co23) ∧ w'.cell? ⟨gb117,2,none⟩ = some (.slice Ao24 t110.length co24) ∧ w'.cell? ⟨gb117,3,none⟩ = some (.slice Ao25 t113.length co25) ∧ w'.cell? (ad122.add (t121).toNat) = some (.int .i64 (rd t107 t121))) (ds:=[]) (bm 15 0) k_r rfl rfl ⟨bk BK117 0,bk BK117 1,bk BK117 2,bk BK117 3,hx122_0⟩ (fun hHeld=>?_);refine with_tabW impl_solution.tab7 impl_solution.bits7 (fun HT_ HW_=>?_)
 generalize w28.drew = w30 at HO106 HO109 HO112 HO115 HO120 BK101 BK102 BK117 HB hx122_0 hHeld ⊢
 refine py (i:=1) (N:=some 29) (bm 15 2) ?_
 refine py (i:=2) (N:=some 30) (bm 15 6) ?_
 refine py (i:=3) (N:=some 31) (bm 15 14) ?_
 refine py (i:=4) (N:=some 32) (bm 15 30) ?_
 refine py (i:=5) (N:=some 33) (bm 15 62) ?_
 refine py (i:=7) (N:=some 35) (bm 15 190) ?_
 refine tk5 (i:=0) (N:=some 28) (bm 15 191) hHeld ?_
 refine tk5 (i:=6) (N:=some 34) (bm 15 255) hHeld ?_
 refine py (i:=8) (N:=some 36) (bm 15 511) ?_
 refine tk5 (i:=9) (N:=some 37) (bm 15 1023) hHeld ?_
 refine py (i:=10) (N:=some 38) (bm 15 2047) ?_
 refine py (i:=11) (N:=some 39) (bm 15 4095) ?_
 refine one_ (i:=12) (N:=none) (bm 15 8191) rfl rfl (one_of HT_.out k_r) d_c (fun K hK=>?_)
 have hs31:w30.cell? ⟨gb102,0,none⟩ = some (.slice none 0 0):=(blk_cell BK102.out 0).trans rfl
 have hfs31:=blk_frozen BK102.out 0
 have hns31_0:=NB101_102.out
 have hns31_2:=NB117_102.out
 have hms31_0:=NB102_101.out
 have hms31_2:=NB102_117.out
 have hs32:w30.cell? ⟨gb102,1,none⟩ = some (.slice none 0 0):=(blk_cell BK102.out 1).trans rfl
 have hfs32:=blk_frozen BK102.out 1
 have hns32_0:=NB101_102.out
 have hns32_2:=NB117_102.out
 have hms32_0:=NB102_101.out
 have hms32_2:=NB102_117.out
 have hs33:w30.cell? ⟨gb102,2,none⟩ = some (.slice none 0 0):=(blk_cell BK102.out 2).trans rfl
 have hfs33:=blk_frozen BK102.out 2
 have hns33_0:=NB101_102.out
 have hns33_2:=NB117_102.out
 have hms33_0:=NB102_101.out
 have hms33_2:=NB102_117.out
 have hs34:w30.cell? ⟨gb102,3,none⟩ = some (.slice none 0 0):=(blk_cell BK102.out 3).trans rfl
 have hfs34:=blk_frozen BK102.out 3
 have hns34_0:=NB101_102.out
 have hns34_2:=NB117_102.out
 have hms34_0:=NB102_101.out
 have hms34_2:=NB102_117.out
 refine skip_ (w1:=?_) (by rfl) rfl ?_ ?_
 rotate_left
 ·go_simp
  rfl
 refine hK.out _ _ ⟨((cell_far (p:=⟨gb102,_,none⟩) NB117_102.out _).trans (((cell_far (p:=⟨gb102,_,none⟩) NB117_102.out _).trans (((cell_far (p:=⟨gb102,_,none⟩) NB117_102.out _).trans (((cell_far (p:=⟨gb102,_,none⟩) NB117_102.out _).trans (hHeld.1)))))))),((cell_far (p:=⟨gb102,_,none⟩) NB117_102.out _).trans (((cell_far (p:=⟨gb102,_,none⟩) NB117_102.out _).trans (((cell_far (p:=⟨gb102,_,none⟩) NB117_102.out _).trans (((cell_far (p:=⟨gb102,_,none⟩) NB117_102.out _).trans (hHeld.2.1)))))))),((cell_far (p:=⟨gb102,_,none⟩) NB117_102.out _).trans (((cell_far (p:=⟨gb102,_,none⟩) NB117_102.out _).trans (((cell_far (p:=⟨gb102,_,none⟩) NB117_102.out _).trans (((cell_far (p:=⟨gb102,_,none⟩) NB117_102.out _).trans (hHeld.2.2.1)))))))),((cell_far (p:=⟨gb102,_,none⟩) NB117_102.out _).trans (((cell_far (p:=⟨gb102,_,none⟩) NB117_102.out _).trans (((cell_far (p:=⟨gb102,_,none⟩) NB117_102.out _).trans (((cell_far (p:=⟨gb102,_,none⟩) NB117_102.out _).trans (hHeld.2.2.2.1)))))))),((cell_far (p:=⟨gb102,_,none⟩) aq26 _).trans (((cell_far (p:=⟨gb102,_,none⟩) aq26 _).trans (((cell_far (p:=⟨gb102,_,none⟩) aq26 _).trans (((cell_far (p:=⟨gb102,_,none⟩) aq26 _).trans (hHeld.2.2.2.2))))))))⟩ (fun hHeld=>?_)
 clear hK K
 refine py (i:=13) (N:=some 3) (bm 15 16383) ?_
 refine py (i:=14) (N:=some 4) (bm 15 32767) ?_
 refine done_ (done_of HT_.out k_r) ?_
 try go_wp2
 refine bodyPost_ret (results_ctt rfl _ _ gb102 59 #[.slice Ao19 t104.length co19,.slice (some ad122) t107.length co23,.slice Ao24 t110.length co24,.slice Ao25 t113.length co25] (0,0) _ rfl (by (with_reducible repeat (first | refine blk_drewN ?_ _ | refine blk_drew ?_ | refine blk_alloc ?_ _));refine blk_put (cs:=#[.slice Ao19 t104.length co19,.slice (some ad122) t107.length co23,.slice Ao24 t110.length co24,.slice none 0 0]) ?_ 3 _ rfl;(with_reducible repeat (first | refine blk_drewN ?_ _ | refine blk_drew ?_ | refine blk_alloc ?_ _));refine blk_put (cs:=#[.slice Ao19 t104.length co19,.slice (some ad122) t107.length co23,.slice none 0 0,.slice none 0 0]) ?_ 2 _ rfl;(with_reducible repeat (first | refine blk_drewN ?_ _ | refine blk_drew ?_ | refine blk_alloc ?_ _));refine blk_put (cs:=#[.slice Ao19 t104.length co19,.slice none 0 0,.slice none 0 0,.slice none 0 0]) ?_ 1 _ rfl;(with_reducible repeat (first | refine blk_drewN ?_ _ | refine blk_drew ?_ | refine blk_alloc ?_ _));refine blk_put (cs:=#[.slice none 0 0,.slice none 0 0,.slice none 0 0,.slice none 0 0]) ?_ 0 _ rfl;(with_reducible repeat (first | refine blk_drewN ?_ _ | refine blk_drew ?_ | refine blk_alloc ?_ _));exact BK102.out) Tryz.underlying59 rfl k_r) rfl ?_
 exact ⟨_,_,_,_,aq7,by (with_reducible repeat (first | apply Kd.R_alloc | apply Kd.R_drewN | apply Kd.R_drew));exact Kd.R_mono (Kd.R_far (p:=⟨gb102,3,none⟩) (Kd.R_far (p:=⟨gb102,2,none⟩) (Kd.R_far (p:=⟨gb102,1,none⟩) (Kd.R_far (p:=⟨gb102,0,none⟩) (Kd.R_types HO106.out BK102.out d_c) (fun _ hk=>hk.2) (.slice Ao19 t104.length co19)) (fun _ hk=>hk.2) (.slice (some ad122) t107.length co23)) (fun _ hk=>hk.2) (.slice Ao24 t110.length co24)) (fun _ hk=>hk.2) (.slice Ao25 t113.length co25)) (fun _ hk=>hk.1),by (with_reducible repeat (first | apply Kd.R_alloc | apply Kd.R_drewN | apply Kd.R_drew));exact Kd.R_mono (Kd.R_far (p:=⟨gb102,3,none⟩) (Kd.R_far (p:=⟨gb102,2,none⟩) (Kd.R_far (p:=⟨gb102,1,none⟩) (Kd.R_far (p:=⟨gb102,0,none⟩) (Kd.R_types HO109.out BK102.out d_c) (fun _ hk=>hk.2) (.slice Ao19 t104.length co19)) (fun _ hk=>hk.2) (.slice (some ad122) t107.length co23)) (fun _ hk=>hk.2) (.slice Ao24 t110.length co24)) (fun _ hk=>hk.2) (.slice Ao25 t113.length co25)) (fun _ hk=>trivial),by (with_reducible repeat (first | apply Kd.S_alloc | apply Kd.S_drewN | apply Kd.S_drew));exact Kd.S_mono (Kd.S_far (p:=⟨gb102,3,none⟩) (Kd.S_far (p:=⟨gb102,2,none⟩) (Kd.S_far (p:=⟨gb102,1,none⟩) (Kd.S_far (p:=⟨gb102,0,none⟩) (Kd.S_types HO112.out BK102.out d_c) (fun _ hk=>hk.2) (.slice Ao19 t104.length co19)) (fun _ hk=>hk.2) (.slice (some ad122) t107.length co23)) (fun _ hk=>hk.2) (.slice Ao24 t110.length co24)) (fun _ hk=>hk.2) (.slice Ao25 t113.length co25)) (fun _ hk=>hk.1.1),by (with_reducible repeat (first | apply Kd.R_alloc | apply Kd.R_drewN | apply Kd.R_drew));exact Kd.R_mono (Kd.R_far (p:=⟨gb102,3,none⟩) (Kd.R_far (p:=⟨gb102,2,none⟩) (Kd.R_far (p:=⟨gb102,1,none⟩) (Kd.R_far (p:=⟨gb102,0,none⟩) (Kd.R_types HO115.out BK102.out d_c) (fun _ hk=>hk.2) (.slice Ao19 t104.length co19)) (fun _ hk=>hk.2) (.slice (some ad122) t107.length co23)) (fun _ hk=>hk.2) (.slice Ao24 t110.length co24)) (fun _ hk=>hk.2) (.slice Ao25 t113.length co25)) (fun _ hk=>hk.1),aq15⟩
end Go.Proofs.YtldhkbiomingbaaGreatDoor.F

namespace Go.Proofs.YtldhkbiomingbaaGreatDoor.F
open Go.Proofs.YtldhkbiomingbaaGreatDoor
open Go.RowKit Go.YW.PrintWords Go.YW.PrintMore
theorem placeI_read {w h:Nat} {c:List Int} (v:Vg (w,h,c)):impl_read.f (textB (w,h,c)) = some ((w:Int),(h:Int),c):=impl_read_eq _ (grid_textB v)
theorem cells_l0 {w h:Nat} {s:RS} {n:ByteArray} (hn:n.size = 1) (hv:∀ c ∈ s.T,Vg (w,h,c)) (hl:s.T.length ≤ 300):∀ (d i:Nat),i + d = s.T.length →
  Ev (fun k=>impl_reach_cells.l0 k n ((cellsI s (bt n 0)).take i) (rT w h s) ((rT w h s).length:Int) i) (cellsI s (bt n 0))
 | 0,i,hi=>by
  refine Ev.step (f:=fun _=>some (cellsI s (bt n 0))) (fun k=>?_) (Ev.now _)
  rw [impl_reach_cells.l0,if_neg (by rw [rT_len];omega),List.take_of_length_le (by rw [cellsI_len];omega)]
 | d + 1,i,hi=>by
  have hlt:i < s.T.length:=by omega
  have ih:=cells_l0 hn hv hl d (i + 1) o_m
  have hvi:=hv _ (getD_mem (d:=([]:List Int)) hlt)
  have hrd:rdOf ByteArray.empty (rT w h s) (i:Int) = textB (w,h,s.T.getD i []):=by
   unfold rdOf rT
   rw [Int.toNat_natCast,List.getD_eq_getElem?_getD,List.getElem?_map,List.getElem?_eq_getElem hlt,getD_lt hlt];rfl
  have hll:=(tray_small hvi).2
  simp only at hll
  have hix:=index_l0 (cs:=s.T.getD i []) o_m (bt n 0) _ 0 (Nat.zero_add _) (fun j hj=>by omega)
  have htk:(cellsI s (bt n 0)).take i ++ [placeI (bt n 0) (s.T.getD i [])] = (cellsI s (bt n 0)).take (i + 1):=by
   rw [List.take_succ_eq_append_getElem (by rw [cellsI_len];exact hlt),← cellsI_get s (bt n 0) hlt,getD_lt (by rw [cellsI_len];exact hlt)]
  refine Ev.step (f:=fun k=>(slices_Index_byte_byte.f k (s.T.getD i []) (bt n 0)).bind fun t111=>(if ((cellsI s (bt n 0)).take i).length < 17592186044416 then (impl_reach_cells.l0 k n ((cellsI s (bt n 0)).take i ++ [t111]) (rT w h s) ((rT w h s).length:Int) (wrap64 ((i:Int) + 1))) else none)) (fun k=>?_) ?_
  ·rw [impl_reach_cells.l0,if_pos (by rw [rT_len];omega),if_pos o_m,if_pos (by rw [rT_len];omega),hrd,placeI_read hvi,Option.bind_some,if_pos o_m]
  ·refine Ev.bind hix (Ev.congr (fun k=>?_) ih)
   rw [if_pos (by rw [List.length_take];omega)]
   show impl_reach_cells.l0 k n (_ ++ [placeI (bt n 0) (s.T.getD i [])]) _ _ _ = _
   rw [htk,show (i:Int) + 1 = ((i + 1:Nat):Int) by omega,w64t o_m]
theorem cells_ev {w h:Nat} {s:RS} {n:ByteArray} (hn:n.size = 1) (hv:∀ c ∈ s.T,Vg (w,h,c)) (hl:s.T.length ≤ 300) (l1:List Int) (l2:List (List Int)) (l3:List ByteArray) :
  Ev (fun k=>impl_reach_cells.f k (rT w h s) l1 l2 l3 n) (cellsI s (bt n 0)):=cells_l0 hn hv hl s.T.length 0 (Nat.zero_add _)
theorem indexI_l0 {l:List Int} (hl:l.length ≤ 1000) (c:Int):∀ (d i:Nat),i + d = l.length → (∀ j,j < i → l.getD j 0 ≠ c) →
  Ev (fun k=>slices_Index_int_int.l0 k l c (l.length:Int) i) (if l.findIdx (fun x=>decide (x = c)) < l.length then (l.findIdx (fun x=>decide (x = c)):Int) else -1)
 | 0,i,hi,hn=>by
  obtain rfl:i = l.length:=by omega
  have:l.findIdx (fun x=>decide (x = c)) = l.length:=List.findIdx_eq_length.2 (fun x hx=>by
   obtain ⟨j,hj,rfl⟩:=List.mem_iff_getElem.1 hx
   have:=hn j hj
   rw [getD_lt hj] at this
   simpa using this)
  rw [this,if_neg (Nat.lt_irrefl _)]
  refine Ev.step (f:=fun _=>some (-1)) (fun k=>?_) (Ev.now _)
  rw [slices_Index_int_int.l0,if_neg o_m]
 | d + 1,i,hi,hn=>by
  have hlt:i < l.length:=by omega
  have hrd:rd l (i:Int) = l.getD i 0:=by unfold rd;rw [Int.toNat_natCast]
  by_cases he:c = l.getD i 0
  rotate_left
  ·have ih:=indexI_l0 hl c d (i + 1) o_m (fun j hj=>by
    by_cases e:j = i
    ·subst e;exact fun h=>he h.symm
    ·exact hn j o_m)
   refine Ev.step (fun k=>?_) ih
   rw [slices_Index_int_int.l0,if_pos o_m,if_pos o_m,if_pos o_m,hrd,if_neg he,show (i:Int) + 1 = ((i + 1:Nat):Int) by omega,w64t o_m]
  have hf:l.findIdx (fun x=>decide (x = c)) = i:=by
   rw [List.findIdx_eq hlt]
   refine ⟨by rw [he,getD_lt hlt];simp,fun j hj=>?_⟩
   have:=hn j hj
   rw [getD_lt o_m] at this
   simpa using this
  rw [hf,if_pos hlt]
  refine Ev.step (f:=fun _=>some (i:Int)) (fun k=>?_) (Ev.now _)
  rw [slices_Index_int_int.l0,if_pos o_m,if_pos o_m,if_pos o_m,hrd,if_pos he]
end Go.Proofs.YtldhkbiomingbaaGreatDoor.F

namespace Go.Proofs.YtldhkbiomingbaaGreatDoor.F
open Go.Proofs.YtldhkbiomingbaaGreatDoor
open Go.RowKit Go.YW.PrintWords Go.YW.PrintLast Go.YW.PrintMore
attribute [local go_sem] max2_int min2_int max_two min_two max_three min_three max_four min_four
def impl_SolutionOf.f (k:Nat) (a0_0:ByteArray) (a0_1:ByteArray) (a0_2:Int):Option (ByteArray × Bool):=(impl_solution.f k a0_0 a0_1 a0_2).bind fun bt102=>(if bt102.2.2.2.2.2 = true then (if 0 ≤ bt102.2.2.2.2.1 then (if bt102.2.2.2.2.1 < (bt102.2.2.2.1.length:Int) then (some (rdOf ByteArray.empty bt102.2.2.2.1 bt102.2.2.2.2.1,true)) else (none)) else (none)) else (some ((⟨#[]⟩:ByteArray),false)))
theorem impl_SolutionOf.mono:∀ a0 a1 a2 k,LeO (impl_SolutionOf.f k a0 a1 a2) (impl_SolutionOf.f (k + 1) a0 a1 a2):=by
 intro a0 a1 a2 k
 unfold impl_SolutionOf.f
 have im0:=@impl_solution.mono;exact mo
theorem impl_SolutionOf.calls (k:Nat) (a0_0:ByteArray) (a0_1:ByteArray) (a0_2:Int) (r1:ByteArray) (r2:Bool) (w:World) (h:impl_SolutionOf.f k a0_0 a0_1 a0_2 = some (r1,r2)) :
  Calls Tryz.prog 21 #[.agg #[.string a0_0,.string a0_1,.int .i64 a0_2]] w fun e w'=>e = .returned (.tuple #[.string r1,.bool r2]) ∧ Below w.heap.size w w':=by
 have hu30:=Tryz.underlying30
 have hu59:=Tryz.underlying59
 have HB:=am (Below.refl w.heap.size w)
 have H:((impl_solution.f k a0_0 a0_1 a0_2).bind fun bt102=>(if bt102.2.2.2.2.2 = true then (if 0 ≤ bt102.2.2.2.2.1 then (if bt102.2.2.2.2.1 < (bt102.2.2.2.1.length:Int) then (some (rdOf ByteArray.empty bt102.2.2.2.1 bt102.2.2.2.2.1,true)) else (none)) else (none)) else (some ((⟨#[]⟩:ByteArray),false)))) = some (r1,r2):=h
 clear h
 replace H:=Option.bind_eq_some_iff.mp H
 obtain ⟨⟨t102,t105,t108,t111,t114,t115⟩,A20,H⟩:=H
 replace H:(if t115 = true then (if 0 ≤ t114 then (if t114 < (t111.length:Int) then (some (rdOf ByteArray.empty t111 t114,true)) else (none)) else (none)) else (some ((⟨#[]⟩:ByteArray),false))) = some (r1,r2):=H
 have A2:=am A20
 clear A20
 by_cases c3:t115 = true
 rotate_left
 ·replace c3:=Bool.eq_false_iff.mpr c3
  subst c3
  rw [if_neg Bool.false_ne_true] at H
  simp only [Option.some.injEq,Prod.mk.injEq] at H
  obtain ⟨rfl,rfl⟩:=H
  go_enter Tryz.func21,Tryz.ntmps21
  go_wp2_with (first | (refine bx 1 #[.string a0_0,.string a0_1,.int .i64 a0_2] 30 ?_;intro gb101 hg w16 hbox hb;have BK101:=am (hbox);have GW101:=am ((by rw [hg];exact (below_size aq2):w.heap.size ≤ gb101));have GE101:=GW101;replace HB:=am (below_step aq2 hb);clear hb hbox hg;obtain ⟨hcz17_0,hcz17_1,hcz17_2,hfz17_0,hfz17_1,hfz17_2⟩:=blk3_ BK101.out) | ((with_reducible refine gate_callee (f:=55) rfl ?_);refine goesL_ (some 9) rfl rfl Tryz.func55 k_r rfl #[.agg #[.string a0_0,.string a0_1,.int .i64 a0_2]] rfl aq3 ?_;(with_reducible refine (impl_solution.calls k a0_0 a0_1 a0_2 t102 t105 t108 t111 t114 false _ A2.out).mono ?_);rintro e w18 ⟨v103,v106,v109,v112,rfl,ho0,ho1,ho2,ho3,hb⟩;refine ⟨_,rfl,?_⟩;have HO104:=am (Kd.R_lower ho0 (below_size aq0));have HO107:=am (Kd.R_lower ho1 (below_size aq0));have HO110:=am (Kd.S_lower ho2 (below_size aq0));have HO113:=am (Kd.R_lower ho3 (below_size aq0));replace BK101:=am (bb BK101 hb);replace HB:=am (below_step aq0 hb);(try clear hb);(try clear ho0);(try clear ho1);(try clear ho2);(try clear ho3)) | (refine bx 4 #[.slice none 0 0,.slice none 0 0,.slice none 0 0,.slice none 0 0] 59 ?_;intro gb116 hg w19 hbox hb;replace HO104:=am (Kd.R_below aq46 hb);replace HO107:=am (Kd.R_below aq64 hb);replace HO110:=am (Kd.S_below (by (with_reducible repeat (first | apply Kd.S_alloc | apply Kd.S_drewN | apply Kd.S_drew));exact HO110.out) hb);replace HO113:=am (Kd.R_below (by (with_reducible repeat (first | apply Kd.R_alloc | apply Kd.R_drewN | apply Kd.R_drew));exact HO113.out) hb);have BK116:=am (hbox);have GW116:=am ((by rw [hg];exact (below_size aq0):w.heap.size ≤ gb116));have GE116:=GW116;replace HB:=am (below_step aq0 hb);have NB101_116:=am ((by rw [hg];exact Nat.ne_of_lt (blk_lt (g:=gb101) (o:=.cells #[.string a0_0,.string a0_1,.int .i64 a0_2] 30 (0,0)) aq1):gb101 ≠ gb116));have NB116_101:=am ((by rw [hg];exact Nat.ne_of_gt (blk_lt (g:=gb101) (o:=.cells #[.string a0_0,.string a0_1,.int .i64 a0_2] 30 (0,0)) aq1):gb116 ≠ gb101));replace BK101:=am (bb BK101 hb);clear hb hbox hg;obtain ⟨Ao20,co20,eo20⟩:=Kd.R_slice HO104.out;subst eo20;have hnb21:=NB116_101.out;have hnc21:=NB101_116.out;obtain ⟨hcz22_0,hcz22_1,hcz22_2,hcz22_3,hfz22_0,hfz22_1,hfz22_2,hfz22_3⟩:=blk4_ BK116.out;obtain ⟨Ao23,co23,eo23⟩:=Kd.R_slice HO107.out;subst eo23;obtain ⟨Ao24,co24,eo24⟩:=Kd.S_slice HO110.out;subst eo24;obtain ⟨Ao25,co25,eo25⟩:=Kd.R_slice HO113.out;subst eo25))
  go_ret2
  exact ⟨aq7,aq83⟩
 subst c3
 rw [if_pos rfl] at H
 replace H:=gd H
 obtain ⟨c4,H⟩:=H
 have c4b0:=decide_eq_true c4
 clear c4
 replace H:=gd H
 obtain ⟨c5,H⟩:=H
 have c5b0:=decide_eq_true c5
 clear c5
 simp only [Option.some.injEq,Prod.mk.injEq] at H
 obtain ⟨rfl,rfl⟩:=H
 go_enter Tryz.func21,Tryz.ntmps21
 go_wp2_with (first | (refine bx 1 #[.string a0_0,.string a0_1,.int .i64 a0_2] 30 ?_;intro gb101 hg w6 hbox hb;have BK101:=am (hbox);have GW101:=am ((by rw [hg];exact (below_size aq2):w.heap.size ≤ gb101));have GE101:=GW101;replace HB:=am (below_step aq2 hb);clear hb hbox hg;obtain ⟨hcz7_0,hcz7_1,hcz7_2,hfz7_0,hfz7_1,hfz7_2⟩:=blk3_ BK101.out) | ((with_reducible refine gate_callee (f:=55) rfl ?_);refine goesL_ (some 9) rfl rfl Tryz.func55 k_r rfl #[.agg #[.string a0_0,.string a0_1,.int .i64 a0_2]] rfl aq3 ?_;(with_reducible refine (impl_solution.calls k a0_0 a0_1 a0_2 t102 t105 t108 t111 t114 true _ A2.out).mono ?_);rintro e w8 ⟨v103,v106,v109,v112,rfl,ho0,ho1,ho2,ho3,hb⟩;refine ⟨_,rfl,?_⟩;have HO104:=am (Kd.R_lower ho0 (below_size aq0));have HO107:=am (Kd.R_lower ho1 (below_size aq0));have HO110:=am (Kd.S_lower ho2 (below_size aq0));have HO113:=am (Kd.R_lower ho3 (below_size aq0));replace BK101:=am (bb BK101 hb);replace HB:=am (below_step aq0 hb);(try clear hb);(try clear ho0);(try clear ho1);(try clear ho2);(try clear ho3)) | (refine bx 4 #[.slice none 0 0,.slice none 0 0,.slice none 0 0,.slice none 0 0] 59 ?_;intro gb116 hg w9 hbox hb;replace HO104:=am (Kd.R_below aq46 hb);replace HO107:=am (Kd.R_below aq64 hb);replace HO110:=am (Kd.S_below (by (with_reducible repeat (first | apply Kd.S_alloc | apply Kd.S_drewN | apply Kd.S_drew));exact HO110.out) hb);replace HO113:=am (Kd.R_below (by (with_reducible repeat (first | apply Kd.R_alloc | apply Kd.R_drewN | apply Kd.R_drew));exact HO113.out) hb);have BK116:=am (hbox);have GW116:=am ((by rw [hg];exact (below_size aq0):w.heap.size ≤ gb116));have GE116:=GW116;replace HB:=am (below_step aq0 hb);have NB101_116:=am ((by rw [hg];exact Nat.ne_of_lt (blk_lt (g:=gb101) (o:=.cells #[.string a0_0,.string a0_1,.int .i64 a0_2] 30 (0,0)) aq1):gb101 ≠ gb116));have NB116_101:=am ((by rw [hg];exact Nat.ne_of_gt (blk_lt (g:=gb101) (o:=.cells #[.string a0_0,.string a0_1,.int .i64 a0_2] 30 (0,0)) aq1):gb116 ≠ gb101));replace BK101:=am (bb BK101 hb);clear hb hbox hg;obtain ⟨Ao10,co10,eo10⟩:=Kd.R_slice HO104.out;subst eo10;have hnb11:=NB116_101.out;have hnc11:=NB101_116.out;obtain ⟨hcz12_0,hcz12_1,hcz12_2,hcz12_3,hfz12_0,hfz12_1,hfz12_2,hfz12_3⟩:=blk4_ BK116.out;obtain ⟨Ao13,co13,eo13⟩:=Kd.R_slice HO107.out;subst eo13;obtain ⟨Ao14,co14,eo14⟩:=Kd.S_slice HO110.out;subst eo14;obtain ⟨Ao15,co15,eo15⟩:=Kd.R_slice HO113.out;subst eo15;have p117:0 ≤ (t114:Int):=of_decide_eq_true aq6;have q117:t114 < (t111.length:Int):=of_decide_eq_true aq6;obtain ⟨ad117,e117,hx117_0⟩:=Kd.at_string (Kd.R_reads' HO113.out).2.2 t114 p117 q117;cases e117;have hn117_0:ad117.block ≠ gb116:=Kd.own_blk (Kd.R_ne HO113.out BK116.out d_c);have hn117_1:ad117.block ≠ gb116:=Kd.own_blk (Kd.R_ne HO113.out BK116.out d_c);have hn117_2:ad117.block ≠ gb116:=Kd.own_blk (Kd.R_ne HO113.out BK116.out d_c);have hn117_3:ad117.block ≠ gb116:=Kd.own_blk (Kd.R_ne HO113.out BK116.out d_c);replace hx117_0:=(cell_far (p:=⟨gb116,0,none⟩) (by first | (rw [add_block];exact hn117_0) | (show (Addr.add _ _).block ≠ _;rw [add_block];exact hn117_0) | exact hn117_0) (.slice Ao10 t102.length co10)).trans hx117_0;replace hx117_0:=(cell_far (p:=⟨gb116,1,none⟩) (by first | (rw [add_block];exact hn117_1) | (show (Addr.add _ _).block ≠ _;rw [add_block];exact hn117_1) | exact hn117_1) (.slice Ao13 t105.length co13)).trans hx117_0;replace hx117_0:=(cell_far (p:=⟨gb116,2,none⟩) (by first | (rw [add_block];exact hn117_2) | (show (Addr.add _ _).block ≠ _;rw [add_block];exact hn117_2) | exact hn117_2) (.slice Ao14 t108.length co14)).trans hx117_0;replace hx117_0:=(cell_far (p:=⟨gb116,3,none⟩) (by first | (rw [add_block];exact hn117_3) | (show (Addr.add _ _).block ≠ _;rw [add_block];exact hn117_3) | exact hn117_3) (.slice (some ad117) t111.length co15)).trans hx117_0;clear hn117_0 hn117_1 hn117_2 hn117_3;replace p117:=eq_true p117;replace q117:=eq_true q117))
 go_ret2
 exact ⟨aq7,aq83⟩
def impl_LengthOf.f (k:Nat) (a0_0:ByteArray) (a0_1:ByteArray) (a0_2:Int):Option (Int × Bool):=(impl_SolutionOf.f k a0_0 a0_1 a0_2).bind fun bt102=>(some ((bt102.1.size:Int),bt102.2))
theorem impl_LengthOf.mono:∀ a0 a1 a2 k,LeO (impl_LengthOf.f k a0 a1 a2) (impl_LengthOf.f (k + 1) a0 a1 a2):=by
 intro a0 a1 a2 k
 unfold impl_LengthOf.f
 have im0:=@impl_SolutionOf.mono;exact mo
theorem impl_LengthOf.calls (k:Nat) (a0_0:ByteArray) (a0_1:ByteArray) (a0_2:Int) (r1:Int) (r2:Bool) (w:World) (h:impl_LengthOf.f k a0_0 a0_1 a0_2 = some (r1,r2)) :
  Calls Tryz.prog 19 #[.agg #[.string a0_0,.string a0_1,.int .i64 a0_2]] w fun e w'=>e = .returned (.tuple #[.int .i64 r1,.bool r2]) ∧ Below w.heap.size w w':=by
 have hu30:=Tryz.underlying30
 have HB:=am (Below.refl w.heap.size w)
 have H:((impl_SolutionOf.f k a0_0 a0_1 a0_2).bind fun bt102=>(some ((bt102.1.size:Int),bt102.2))) = some (r1,r2):=h
 clear h
 replace H:=Option.bind_eq_some_iff.mp H
 obtain ⟨⟨t102,t103⟩,A20,H⟩:=H
 replace H:(some ((t102.size:Int),t103)) = some (r1,r2):=H
 have A2:=am A20
 clear A20
 simp only [Option.some.injEq,Prod.mk.injEq] at H
 obtain ⟨rfl,rfl⟩:=H
 go_enter Tryz.func19,Tryz.ntmps19
 go_wp2_with (first | (refine bx 1 #[.string a0_0,.string a0_1,.int .i64 a0_2] 30 ?_;intro gb101 hg w3 hbox hb;have BK101:=am (hbox);have GW101:=am ((by rw [hg];exact (below_size aq2):w.heap.size ≤ gb101));have GE101:=GW101;replace HB:=am (below_step aq2 hb);clear hb hbox hg;obtain ⟨hcz4_0,hcz4_1,hcz4_2,hfz4_0,hfz4_1,hfz4_2⟩:=blk3_ BK101.out) | ((with_reducible refine gate_callee (f:=21) rfl ?_);refine goesL_ (some 8) rfl rfl Tryz.func21 k_r rfl #[.agg #[.string a0_0,.string a0_1,.int .i64 a0_2]] rfl aq3 ?_;(with_reducible refine (impl_SolutionOf.calls k a0_0 a0_1 a0_2 t102 t103 _ A2.out).mono ?_);rintro e w5 ⟨rfl,hb⟩;refine ⟨_,rfl,?_⟩;replace BK101:=am (bb BK101 hb);replace HB:=am (below_step aq0 hb);(try clear hb)))
 go_ret2
 exact ⟨aq7,aq0⟩
end Go.Proofs.YtldhkbiomingbaaGreatDoor.F

namespace Go.Proofs.YtldhkbiomingbaaGreatDoor.F
open Go.Proofs.YtldhkbiomingbaaGreatDoor
open Go.RowKit Go.YW.PrintWords Go.YW.PrintMore
def solI (t n:ByteArray) (goal:Int):ByteArray × Bool:=match puS t n goal with
 | none=>((⟨#[]⟩:ByteArray),false)
 | some q=>if q.2.2.1.F.getD q.2.2.2 0 ≤ 40 then (txtW (q.2.2.1.W.getD q.2.2.2 []),true) else ((⟨#[]⟩:ByteArray),false)
theorem puzB_name {t n:ByteArray} {goal:Int} (h:puzB t n goal = true):n.size = 1:=by
 unfold puzB at h
 split at h
 ·cases h
 ·split at h
  ·rename_i hc
   have:=hc.1
   unfold oneName at this
   rw [Bool.and_eq_true] at this
   exact of_decide_eq_true this.1
  ·cases h
theorem reachOf_some {t:ByteArray} {w h:Nat} {s:RS} (ht:t.size < 4294967281) (hs:srch t = some (w,h,s)):impl_reachOf.f t = some (rT w h s,castsI s.F,s.N.map castsI,rW s,true):=by
 unfold impl_reachOf.f
 rw [if_pos ht,hs]
theorem reachOf_none {t:ByteArray} (ht:t.size < 4294967281) (hs:srch t = none):impl_reachOf.f t = some ([],[],[],[],false):=by
 unfold impl_reachOf.f
 rw [if_pos ht,hs]
theorem impl_SolutionOf_ev (t n:ByteArray) (goal:Int) (ht:t.size < 4294967281):Ev (fun k=>impl_SolutionOf.f k t n goal) (solI t n goal):=by
 have hP:=impl_IsPuzzle_ev t n goal ht
 unfold impl_SolutionOf.f impl_solution.f solI puS
 by_cases hp:puzB t n goal = true
 rotate_left
 ·rw [if_neg hp]
  rw [Bool.not_eq_true] at hp
  rw [hp] at hP
  exact Ev.bind (a:=(([]:List ByteArray),([]:List Int),([]:List (List Int)),([]:List ByteArray),(0:Int),false)) (Ev.bind hP (Ev.congr (fun k=>if_neg Bool.false_ne_true) (Ev.now _))) (Ev.congr (fun k=>if_neg Bool.false_ne_true) (Ev.now _))
 have hn:=puzB_name hp
 rw [if_pos hp]
 rw [hp] at hP
 cases hs:srch t with
 | none =>
  refine Ev.bind (a:=(([]:List ByteArray),([]:List Int),([]:List (List Int)),([]:List ByteArray),(0:Int),false)) (Ev.bind hP (Ev.congr (fun k=>?_) (Ev.now _))) (Ev.congr (fun k=>if_neg Bool.false_ne_true) (Ev.now _))
  rw [if_pos rfl,reachOf_none ht hs,Option.bind_some]
  exact if_neg Bool.false_ne_true
 | some q =>
  obtain ⟨w,h,s⟩:=q
  obtain ⟨cs,_,_,_,_,o⟩:=srch_some hs
  have o:=o.ok
  have hm:=o.most
  have hc:=cells_ev (w:=w) (h:=h) (s:=s) hn o.tray hm (castsI s.F) (s.N.map castsI) (rW s)
  have hi:=indexI_l0 (l:=cellsI s (bt n 0)) (by rw [cellsI_len];omega) goal _ 0 (Nat.zero_add _) (fun j hj=>by omega)
  rw [Option.bind_some]
  simp only
  by_cases hl:goalAt s (bt n 0) goal < s.T.length
  rotate_left
  ·rw [if_neg hl]
   simp only
   have hi2:Ev (fun k=>slices_Index_int_int.f k (cellsI s (bt n 0)) goal) (-1):=by
    have h:=hi
    rw [if_neg (show ¬ (cellsI s (bt n 0)).findIdx (fun x=>decide (x = goal)) < (cellsI s (bt n 0)).length by rw [cellsI_len];exact hl)] at h
    exact h
   refine Ev.bind (a:=(rT w h s,castsI s.F,s.N.map castsI,rW s,(-1:Int),false)) (Ev.bind hP (Ev.congr (fun k=>by rw [if_pos rfl,reachOf_some ht hs,Option.bind_some];exact if_pos rfl) (Ev.bind hc (Ev.bind hi2 (Ev.congr (fun k=>if_neg (show ¬ ((-1:Int) ≥ 0) by omega)) (Ev.now _)))))) (Ev.congr (fun k=>if_neg Bool.false_ne_true) (Ev.now _))
  rw [if_pos hl]
  simp only
  have hi2:Ev (fun k=>slices_Index_int_int.f k (cellsI s (bt n 0)) goal) ((goalAt s (bt n 0) goal:Nat):Int):=by
   have h:=hi
   rw [if_pos (show (cellsI s (bt n 0)).findIdx (fun x=>decide (x = goal)) < (cellsI s (bt n 0)).length by rw [cellsI_len];exact hl)] at h
   exact h
  generalize goalAt s (bt n 0) goal = i at *
  have hfar:rd (castsI s.F) (i:Int) = ((s.F.getD i 0:Nat):Int):=by
   have hF:i < s.F.length:=by rw [o.lF];exact hl
   unfold rd
   rw [Int.toNat_natCast,List.getD_eq_getElem?_getD,castsI_getD _ _ hF,getD_lt hF];rfl
  refine Ev.bind (a:=(rT w h s,castsI s.F,s.N.map castsI,rW s,(i:Int),decide (s.F.getD i 0 ≤ 40))) (Ev.bind hP (Ev.congr (fun k=>by rw [if_pos rfl,reachOf_some ht hs,Option.bind_some];exact if_pos rfl) (Ev.bind hc (Ev.bind hi2 (Ev.congr (fun k=>?_) (Ev.now _)))))) (Ev.congr (fun k=>?_) (Ev.now _))
  ·refine (if_pos (show ((i:Nat):Int) ≥ 0 by omega)).trans ((if_pos (show 0 ≤ ((i:Nat):Int) by omega)).trans ((if_pos (show ((i:Nat):Int) < ((castsI s.F).length:Int) by rw [castsI_length,o.lF];omega)).trans ?_))
   show some (rT w h s,castsI s.F,s.N.map castsI,rW s,(i:Int),decide (rd (castsI s.F) (i:Int) ≤ 40)) = _
   rw [hfar,decide_eq_decide.2 (show ((s.F.getD i 0:Nat):Int) ≤ 40 ↔ s.F.getD i 0 ≤ 40 by omega)]
  ·by_cases hf:s.F.getD i 0 ≤ 40
   rotate_left
   ·rw [if_neg hf]
    exact if_neg (by simpa using hf)
   rw [if_pos hf]
   refine (if_pos (decide_eq_true hf)).trans ((if_pos (show 0 ≤ ((i:Nat):Int) by omega)).trans ((if_pos (show ((i:Nat):Int) < ((rW s).length:Int) by rw [rW_len,o.lW];omega)).trans ?_))
   have hW:i < s.W.length:=by rw [o.lW];exact hl
   have:rdOf ByteArray.empty (rW s) (i:Int) = txtW (s.W.getD i []):=by
    unfold rdOf rW
    rw [Int.toNat_natCast,List.getD_eq_getElem?_getD,List.getElem?_map,List.getElem?_eq_getElem hW,getD_lt hW];rfl
   show some (rdOf ByteArray.empty (rW s) (i:Int),true) = _
   rw [this]
theorem solI_len (t n:ByteArray) (goal:Int):(((solI t n goal).1.size:Nat):Int) = (if (puFar t n goal).2 = true then (puFar t n goal).1 else 0) ∧ (solI t n goal).2 = (puFar t n goal).2:=by
 unfold solI puFar
 cases e:puS t n goal with
 | none=>exact ⟨rfl,rfl⟩
 | some q =>
  obtain ⟨w,h,s,i⟩:=q
  obtain ⟨_,hs,_,hi⟩:=puS_some e
  obtain ⟨cs,_,_,_,_,o⟩:=srch_some hs
  simp only
  by_cases hf:s.F.getD i 0 ≤ 40
  rotate_left
  ·rw [if_neg hf,if_neg (by simpa using hf)]
   exact ⟨rfl,(decide_eq_false hf).symm⟩
  rw [if_pos hf,if_pos (decide_eq_true hf)]
  exact ⟨by rw [txtW_size,o.ok.far i hi],(decide_eq_true hf).symm⟩
end Go.Proofs.YtldhkbiomingbaaGreatDoor.F

namespace Go.Proofs.YtldhkbiomingbaaGreatDoor.F
open Go.Proofs.YtldhkbiomingbaaGreatDoor
open Go.RowKit Go.YW.PrintWords Go.YW.PrintLast Go.YW.PrintMore Go.Lib
attribute [local go_sem] max2_int min2_int
theorem place_call {W:World} {Ag:Option Addr} {cg:Nat} {cs:List Int} (hl:cs.length ≤ 1000) (hc:cs.length ≤ cg) (hC:(Kd.int .u8).C W Ag cs.length cs) (w h n:Int) :
  Calls Tryz.prog 56 #[.agg #[.int .i64 w,.int .i64 h,.slice Ag cs.length cg],.int .u8 n] W fun e w'=>e = .returned (.int .i64 (placeI n cs)) ∧ Below W.heap.size W w':=by
 obtain ⟨K,hK⟩:=tiPlace_ev hl w h n
 exact spec_tiPlace.calls K w h Ag cg cs n _ W hC hc (hK K (Nat.le_refl _))
def StateC (W:World) (b o i:Nat) (w h:Nat) (s:RS):Prop:=∃ p Ag cg Ax cx,W.cell? ⟨b,o + i,none⟩ = some (.pointer (some ⟨p,0,none⟩)) ∧
 W.cell? ⟨p,0,none⟩ = some (.int .i64 w) ∧ W.cell? ⟨p,1,none⟩ = some (.int .i64 h) ∧ W.cell? ⟨p,2,none⟩ = some (.slice Ag (s.T.getD i []).length cg) ∧ W.cell? ⟨p,3,none⟩ = some (.string (textB (w,h,s.T.getD i []))) ∧ W.cell? ⟨p,4,none⟩ = some (.int .i64 ((s.F.getD i 0:Nat):Int)) ∧
 W.cell? ⟨p,5,none⟩ = some (.int .i64 ((waysL s).getD i 0)) ∧ W.cell? ⟨p,8,none⟩ = some (.slice Ax (s.N.getD i []).length cx) ∧
 (s.T.getD i []).length ≤ cg ∧ (Kd.int .u8).C W Ag (s.T.getD i []).length (s.T.getD i []) ∧ (Kd.int .i64).C W Ax (s.N.getD i []).length (castsI (s.N.getD i [])) ∧ (s.T.getD i []).length ≤ 1000
theorem nodesOf_get {w h:Nat} {s:RS} {i:Nat} (hi:i < (nodesOf w h s).length):(nodesOf w h s)[i] = nodeF (txG w h) w h s (waysL s) [] i:=nodesL_get hi
theorem state_of {W:World} {b o i w h:Nat} {cs:List Int} {s:RS} (o2:RS.Ok2 w h cs s.T.length s) (hi:i < (nodesOf w h s).length) (hn:NodeC W b o i ((nodesOf w h s)[i]'hi)):StateC W b o i w h s:=by
 rw [nodesOf_get] at hn
 have hil:i < s.T.length:=by rw [nodesOf_len] at hi;exact hi
 obtain ⟨p,Ag,cg,Ax,cx,zp,z0,z1,z2,z3,z4,z5,z6,z7,z8,h1,h2,h3,h4⟩:=hn
 have hnx:(nodeF (txG w h) w h s (waysL s) [] i).next = castsI (s.N.getD i []):=by
  show castsI (if i < s.N.length then s.N.getD i [] else if i = s.N.length then [] else []) = _
  rw [if_pos (by rw [o2.lN];exact hil)]
 rw [hnx,castsI_length] at z8 h4
 have v:=o2.ok.tray _ (getD_mem (d:=([]:List Int)) hil)
 have hs:=(tray_small v).2
 exact ⟨p,Ag,cg,Ax,cx,zp,z0,z1,z2,z3,z4,z5,z8,h1,h2,h4,Nat.le_trans hs d_c⟩
theorem states_open {w1:World} {base:Nat} {v:Value} {w h:Nat} {cs:List Int} {s:RS} (o2:RS.Ok2 w h cs s.T.length s) (hR:Kd.R (ptrK 77 nodeK) 73 w1 base (fun _=>True) v (nodesOf w h s)) :
  ∃ b o c,v = .slice (some ⟨b,o,none⟩) s.T.length c ∧ s.T.length ≤ c ∧ ∀ W',Below w1.heap.size w1 W' → ∀ i,i < s.T.length → StateC W' b o i w h s:=by
 obtain ⟨b,o,c,e,hc,_,hat⟩:=nodes_open hR (nodesOf_ne o2.ok)
 rw [nodesOf_len] at e hc
 exact ⟨b,o,c,e,hc,fun W' hB i hi=>state_of o2 (by rw [nodesOf_len];exact hi) (hat W' hB i (by rw [nodesOf_len];exact hi))⟩
def PuAns (t n:ByteArray) (goal:Int) (v:Value) (w':World) (base:Nat):Prop :=
 (puS t n goal = none ∧ v = .slice none 0 0) ∨ ∃ w h s i,puS t n goal = some (w,h,s,i) ∧ Kd.R (ptrK 77 nodeK) 73 w' base (fun _=>True) v (nodesOf w h s)
theorem name_byte {n:ByteArray} (h:oneName n = true):n.size = 1:=by
 unfold oneName at h
 rw [Bool.and_eq_true] at h
 exact of_decide_eq_true h.1
theorem puz_name {t n:ByteArray} {goal:Int} (h:puzB t n goal = true):oneName n = true:=by
 unfold puzB at h
 split at h
 ·cases h
 ·split at h
  ·rename_i hh;exact hh.1
  ·cases h
theorem puStates_calls (t nm:ByteArray) (goal r1:Int) (r2:Bool) (hr:puFar t nm goal = (r1,r2)) (w:World) :
  Calls Tryz.prog 53 #[.agg #[.string t,.string nm,.int .i64 goal]] w fun e w'=>∃ v,e = .returned (.tuple #[v,.int .i64 r1,.bool r2]) ∧ PuAns t nm goal v w' w.heap.size ∧ Below w.heap.size w w':=by
 obtain ⟨K,hK⟩:=spec_puGood_ev t nm goal
 have HGD:=am (hK K (Nat.le_refl _))
 have HB:=am (Below.refl w.heap.size w)
 have HR:=am hr
 clear hK hr
 cases hp:puzB t nm goal with
 | false =>
  rw [hp] at HGD
  have HN:=am (show puS t nm goal = none by unfold puS;rw [hp];rfl)
  obtain ⟨rfl,rfl⟩:0 = r1 ∧ false = r2:=by have h:=HR.out;unfold puFar at h;rw [HN.out] at h;injection h with h1 h2;exact ⟨h1,h2⟩
  go_enter Tryz.func53,Tryz.ntmps53
  go_wp2_with (first
   | (refine bx 1 #[.string t,.string nm,.int .i64 goal] 30 ?_;intro b1 hg1 w1 hbox1 hb1;have z0:w1.cell? ⟨b1,0,none⟩ = some (.string t):=(blk_cell hbox1 0).trans rfl;have z1:w1.cell? ⟨b1,1,none⟩ = some (.string nm):=(blk_cell hbox1 1).trans rfl;have z2:w1.cell? ⟨b1,2,none⟩ = some (.int .i64 goal):=(blk_cell hbox1 2).trans rfl;have HB1:=am (below_step HB.out hb1);clear hg1 hbox1 hb1)
   | (go_at_call 92;refine (spec_puGood.calls K t nm goal _ _ HGD.out).mono ?_;rintro e w2 ⟨rfl,hb2⟩;have HB2:=am (below_step HB1.out hb2);clear hb2 z0 z1 z2))
  go_ret3
  exact ⟨_,rfl,.inl ⟨HN.out,rfl⟩,HB2.out⟩
 | true =>
  rw [hp] at HGD
  have HP:=am hp
  have HSZ:=am (name_byte (puz_name hp))
  clear hp
  cases hs:srch t with
  | none =>
   have HN:=am (show puS t nm goal = none by unfold puS;rw [if_pos HP.out,hs];rfl)
   have HS:=am (show (srch t).isSome = false by rw [hs];rfl)
   obtain ⟨rfl,rfl⟩:0 = r1 ∧ false = r2:=by have h:=HR.out;unfold puFar at h;rw [HN.out] at h;injection h with h1 h2;exact ⟨h1,h2⟩
   clear hs
   go_enter Tryz.func53,Tryz.ntmps53
   go_wp2_with (first
    | (refine bx 1 #[.string t,.string nm,.int .i64 goal] 30 ?_;intro b1 hg1 w1 hbox1 hb1;have z0:w1.cell? ⟨b1,0,none⟩ = some (.string t):=(blk_cell hbox1 0).trans rfl;have z1:w1.cell? ⟨b1,1,none⟩ = some (.string nm):=(blk_cell hbox1 1).trans rfl;have z2:w1.cell? ⟨b1,2,none⟩ = some (.int .i64 goal):=(blk_cell hbox1 2).trans rfl;have X1:=am hbox1;have HB1:=am (below_step HB.out hb1);clear hg1 hbox1 hb1)
    | (go_at_call 92;refine (spec_puGood.calls K t nm goal _ _ HGD.out).mono ?_;rintro e w2 ⟨rfl,hb2⟩;have y0:w2.cell? ⟨b1,0,none⟩ = some (.string t):=(blk_cell (blk_below X1.out hb2) 0).trans rfl;have HB2:=am (below_step HB1.out hb2);clear hb2 z0 z1 z2)
    | (go_at_call 72;refine (reAll_calls t false HS.out _).mono ?_;rintro e w3 ⟨v3,rfl,ha3,hb3⟩;have HB3:=am (below_step HB2.out hb3);clear ha3 hb3))
   go_ret3
   exact ⟨_,rfl,.inl ⟨HN.out,rfl⟩,HB3.out⟩
  | some q =>
   obtain ⟨gw,gh,s⟩:=q
   obtain ⟨cs,_,_,_,_,o2⟩:=srch_some hs
   have HS:=am (show (srch t).isSome = true by rw [hs];rfl)
   have HSR:=am hs
   have HO2:=am o2
   have hnm:(0:Int) < (nm.size:Int):=by have:=HSZ.out;omega
   have hnm2:0 < nm.size:=by have:=HSZ.out;omega
   have hbt:∀ h:0 < nm.size,((nm[0]'h).toNat:Int) = bt nm 0:=bt_at nm 0
   have hq0:((0:Int) < (nm.size:Int)) = True:=eq_true hnm
   clear hs o2
   go_enter Tryz.func53,Tryz.ntmps53
   go_wp2_with (first
    | (refine bx 1 #[.string t,.string nm,.int .i64 goal] 30 ?_;intro b1 hg1 w1 hbox1 hb1;have z0:w1.cell? ⟨b1,0,none⟩ = some (.string t):=(blk_cell hbox1 0).trans rfl;have z1:w1.cell? ⟨b1,1,none⟩ = some (.string nm):=(blk_cell hbox1 1).trans rfl;have z2:w1.cell? ⟨b1,2,none⟩ = some (.int .i64 goal):=(blk_cell hbox1 2).trans rfl;have X1:=am hbox1;have HB1:=am (below_step HB.out hb1);clear hg1 hbox1 hb1)
    | (go_at_call 92;refine (spec_puGood.calls K t nm goal _ _ HGD.out).mono ?_;rintro e w2 ⟨rfl,hb2⟩;have y0:w2.cell? ⟨b1,0,none⟩ = some (.string t):=(blk_cell (blk_below X1.out hb2) 0).trans rfl;have X2:=am (blk_below X1.out hb2);have HB2:=am (below_step HB1.out hb2);clear hb2 z0 z1 z2)
    | (go_at_call 72;refine (reAll_calls t true HS.out _).mono ?_;rintro e w3 ⟨v3,rfl,ha3,hb3⟩;have HA3:=am ha3;have X3:=am (blk_below X2.out hb3);have HB3:=am (below_step HB2.out hb3);have HW2:=am HB2.out.size;clear ha3 hb3 y0;obtain ⟨b,o,c,hv3,hst⟩:∃ b o c,v3 = .slice (some ⟨b,o,none⟩) s.T.length c ∧ ((∀ W',Below w3.heap.size w3 W' → ∀ i,i < s.T.length → StateC W' b o i gw gh s) ∧ Kd.R (ptrK 77 nodeK) 73 w3 w.heap.size (fun _=>True) v3 (nodesOf gw gh s)):=(by rcases HA3.out with ⟨h,_⟩ | ⟨w',h',s',h,hR⟩;exact absurd (h.symm.trans HSR.out) (by simp);rw [HSR.out] at h;injection h with h;injection h with h1 h2;injection h2 with h2 h3;subst h1 h2 h3;obtain ⟨b,o,c,e,_,hat⟩:=states_open HO2.out hR;exact ⟨b,o,c,e,hat,Kd.R_lower hR HW2.out⟩);subst hv3;have HST:=am hst;clear hst HA3 HW2))
   go_loopw [22] (fun v22 wr=>∃ i:Nat,i ≤ s.T.length ∧ v22 = .int .i64 i ∧ Aside0 (∀ j,j < i → j < s.T.length → placeI (bt nm 0) (s.T.getD j []) ≠ goal) ∧ Aside0 (Below w3.heap.size w3 wr)) (fun v22 _=>s.T.length - (intOf v22).toNat)
   case atStart=>exact ⟨0,Nat.zero_le _,rfl,⟨fun j hj=>absurd hj (Nat.not_lt_zero j)⟩,⟨Below.refl _ _⟩⟩
   case round =>
    obtain ⟨i,hi,rfl,HF,HQ⟩:=hrel
    by_cases hlt:i < s.T.length
    rotate_left
    ·have hge:¬ (i:Int) < (s.T.length:Int):=by omega
     obtain rfl:i = s.T.length:=by omega
     have hno:=goalAt_none (fun j hj=>HF.out j hj hj)
     have HN:=am (show puS t nm goal = none by
      unfold puS
      rw [if_pos HP.out,HSR.out]
      show (if goalAt s (bt nm 0) goal < s.T.length then _ else none) = none
      rw [if_neg (by rw [hno];omega)])
     obtain ⟨rfl,rfl⟩:0 = r1 ∧ false = r2:=by have h:=HR.out;unfold puFar at h;rw [HN.out] at h;injection h with h1 h2;exact ⟨h1,h2⟩
     clear hno
     go_wp2
     go_ret3
     exact ⟨_,rfl,.inl ⟨HN.out,rfl⟩,below_step HB3.out HQ.out⟩
    have hltI:(i:Int) < (s.T.length:Int):=by omega
    obtain ⟨p,Ag,cg,Ax,cx,zp,z0,z1,z2,_,z4,_,_,hcg,hCg,_,hl⟩:=HST.out.1 wr HQ.out i hlt
    have y1:wr.cell? ⟨b1,1,none⟩ = some (.string nm):=(blk_cell (blk_below X3.out HQ.out) 1).trans rfl
    have y2:wr.cell? ⟨b1,2,none⟩ = some (.int .i64 goal):=(blk_cell (blk_below X3.out HQ.out) 2).trans rfl
    have HL:=am hlt
    have HCG:=am (And.intro hcg (And.intro hCg hl))
    have hw1:IntKind.i64.wrap ((i:Int) + 1) = ((i + 1:Nat):Int):=by rw [IntKind.wrap_i64];have:=HO2.out.ok.most;omega
    obtain ⟨cg0,hcg0⟩:∃ c,s.T.getD i [] = c:=⟨_,rfl⟩
    obtain ⟨fi,hfi⟩:∃ f,s.F.getD i 0 = f:=⟨_,rfl⟩
    rw [hcg0] at z2 HCG
    rw [hfi] at z4
    have HC0:=am hcg0
    have HFI:=am hfi
    clear hcg hCg hl hlt hi hcg0 hfi
    have hz:wr.cell? ⟨p,0,none⟩ = some (.int .i64 gw) ∧ wr.cell? ⟨p,1,none⟩ = some (.int .i64 gh) ∧ wr.cell? ⟨p,2,none⟩ = some (.slice Ag cg0.length cg) ∧ wr.cell? ⟨b1,1,none⟩ = some (.string nm) ∧ wr.cell? ⟨b1,2,none⟩ = some (.int .i64 goal):=⟨z0,z1,z2,y1,y2⟩
    have HZ:=am hz
    have HZ4:=am z4
    clear hz z0 z1 z2 y1 y2 z4
    go_wp2
    go_region_held3 (fun w'=>w'.cell? ⟨p,0,none⟩ = some (.int .i64 gw) ∧ w'.cell? ⟨p,1,none⟩ = some (.int .i64 gh) ∧ w'.cell? ⟨p,2,none⟩ = some (.slice Ag cg0.length cg) ∧ w'.cell? ⟨b1,1,none⟩ = some (.string nm) ∧ w'.cell? ⟨b1,2,none⟩ = some (.int .i64 goal)) (first | exact HZ.out | exact HZ1.out | go_keep)
     ((first
      | (go_simp;go_at_call 56;refine (place_call HCG.out.2.2 HCG.out.1 (by exact HCG.out.2.1) _ _ _).mono ?_;rintro e w4 ⟨rfl,hb4⟩;have HB4:=am (show Below wr.heap.size wr w4 from ⟨hb4.os,hb4.tape,hb4.output,hb4.size,hb4.block⟩);have HZ1:Aside0 (_ ∧ _ ∧ _ ∧ _ ∧ _):=⟨by have hh:=HZ.out;exact ⟨(HB4.out.cell (World.block_lt_of_cell? wr _ hh.1)).trans hh.1,(HB4.out.cell (World.block_lt_of_cell? wr _ hh.2.1)).trans hh.2.1,(HB4.out.cell (World.block_lt_of_cell? wr _ hh.2.2.1)).trans hh.2.2.1,(HB4.out.cell (World.block_lt_of_cell? wr _ hh.2.2.2.1)).trans hh.2.2.2.1,(HB4.out.cell (World.block_lt_of_cell? wr _ hh.2.2.2.2)).trans hh.2.2.2.2⟩⟩;clear hb4)))
    have HQ4:=am (below_step HQ.out HB4.out)
    obtain ⟨pl,hpl⟩:∃ pl,placeI (bt nm 0) cg0 = pl:=⟨_,rfl⟩
    rw [hpl]
    by_cases he:pl = goal
    rotate_left
    ·have heb:(pl == goal) = false:=beq_eq_false_iff_ne.2 he
     have HNO:=am (fun j hj hjl=>by
      by_cases e:j = i
      ·subst e;rw [HC0.out,hpl];exact he
      ·exact HF.out j o_m hjl:∀ j,j < i + 1 → j < s.T.length → placeI (bt nm 0) (s.T.getD j []) ≠ goal)
     clear hpl he
     go_wp2
     go_roundw
     case rel=>exact ⟨i + 1,HL.out,by first | rfl | simp,HNO,HQ4⟩
     case measure=>have:=HL.out;simp [intOf];omega
    have heb:(pl == goal) = true:=beq_iff_eq.2 he
    have z4:w4.cell? ⟨p,4,none⟩ = some (.int .i64 (fi:Int)):=(HB4.out.cell (World.block_lt_of_cell? wr _ HZ4.out)).trans HZ4.out
    have hat:goalAt s (bt nm 0) goal = i:=goalAt_of HF.out HL.out (by rw [HC0.out,hpl,he])
    have HPS:=am (show puS t nm goal = some (gw,gh,s,i) by
     unfold puS
     rw [if_pos HP.out,HSR.out]
     show (if goalAt s (bt nm 0) goal < s.T.length then some (gw,gh,s,goalAt s (bt nm 0) goal) else none) = _
     rw [hat,if_pos HL.out])
    obtain ⟨rfl,rfl⟩:(fi:Int) = r1 ∧ decide (fi ≤ 40) = r2:=by
     have h:=HR.out
     unfold puFar at h
     rw [HPS.out] at h
     simp only at h
     rw [HFI.out] at h
     injection h with h1 h2
     exact ⟨h1,h2⟩
    clear hpl he hat
    have HDC:=am (show decide ((fi:Int) ≤ 40) = decide (fi ≤ 40) from by by_cases h:fi ≤ 40 <;> simp [h] <;> omega)
    go_wp2
    go_region_held3 (fun w'=>w'.cell? ⟨p,4,none⟩ = some (.int .i64 (fi:Int))) (first | go_keep) ((first | fail))
    go_wp2
    go_ret3
    refine ⟨.slice (some ⟨b,o,none⟩) s.T.length c,by rw [← HDC.out];rfl,.inr ⟨gw,gh,s,i,HPS.out,Kd.R_drew (Kd.R_below HST.out.2 HQ4.out)⟩,below_drew1 (below_step HB3.out HQ4.out)⟩
def spec_LengthOf.f (t n:ByteArray) (goal:Int):Option (Int × Bool):=some (if (puFar t n goal).2 = true then ((puFar t n goal).1,true) else (0,false))
theorem spec_LengthOf.calls (a0_0 a0_1:ByteArray) (a0_2:Int) (r1:Int) (r2:Bool) (w:World) (h:spec_LengthOf.f a0_0 a0_1 a0_2 = some (r1,r2)) :
  Calls Tryz.prog 17 #[.agg #[.string a0_0,.string a0_1,.int .i64 a0_2]] w fun e w'=>e = .returned (.tuple #[.int .i64 r1,.bool r2]) ∧ Below w.heap.size w w':=by
 obtain ⟨⟨q1,q2⟩,hq⟩:∃ q,puFar a0_0 a0_1 a0_2 = q:=⟨_,rfl⟩
 have hc:=fun W=>puStates_calls a0_0 a0_1 a0_2 q1 q2 hq W
 have HCALL:=am hc
 unfold spec_LengthOf.f at h
 rw [hq] at h
 have HB:=am (Below.refl w.heap.size w)
 have h':=Option.some.inj h
 clear hc hq h
 cases q2 with
 | false =>
  obtain ⟨rfl,rfl⟩:0 = r1 ∧ false = r2:=by rw [if_neg Bool.false_ne_true] at h';injection h' with h1 h2;exact ⟨h1,h2⟩
  clear h'
  go_enter Tryz.func17,Tryz.ntmps17
  go_wp2_with (first
   | (refine bx 1 #[.string a0_0,.string a0_1,.int .i64 a0_2] 30 ?_;intro b1 hg1 w1 hbox1 hb1;have z0:w1.cell? ⟨b1,0,none⟩ = some (.string a0_0):=(blk_cell hbox1 0).trans rfl;have z1:w1.cell? ⟨b1,1,none⟩ = some (.string a0_1):=(blk_cell hbox1 1).trans rfl;have z2:w1.cell? ⟨b1,2,none⟩ = some (.int .i64 a0_2):=(blk_cell hbox1 2).trans rfl;have HB1:=am (below_step HB.out hb1);clear hg1 hbox1 hb1)
   | (go_at_call 53;refine (HCALL.out _).mono ?_;rintro e w2 ⟨v2,rfl,_,hb2⟩;have HB2:=am (below_step HB1.out hb2);clear hb2 z0 z1 z2))
  go_ret2
  exact ⟨rfl,HB2.out⟩
 | true =>
  obtain ⟨rfl,rfl⟩:q1 = r1 ∧ true = r2:=by rw [if_pos rfl] at h';injection h' with h1 h2;exact ⟨h1,h2⟩
  clear h'
  go_enter Tryz.func17,Tryz.ntmps17
  go_wp2_with (first
   | (refine bx 1 #[.string a0_0,.string a0_1,.int .i64 a0_2] 30 ?_;intro b1 hg1 w1 hbox1 hb1;have z0:w1.cell? ⟨b1,0,none⟩ = some (.string a0_0):=(blk_cell hbox1 0).trans rfl;have z1:w1.cell? ⟨b1,1,none⟩ = some (.string a0_1):=(blk_cell hbox1 1).trans rfl;have z2:w1.cell? ⟨b1,2,none⟩ = some (.int .i64 a0_2):=(blk_cell hbox1 2).trans rfl;have HB1:=am (below_step HB.out hb1);clear hg1 hbox1 hb1)
   | (go_at_call 53;refine (HCALL.out _).mono ?_;rintro e w2 ⟨v2,rfl,_,hb2⟩;have HB2:=am (below_step HB1.out hb2);clear hb2 z0 z1 z2))
  go_ret2
  exact ⟨rfl,HB2.out⟩
end Go.Proofs.YtldhkbiomingbaaGreatDoor.F

namespace Go.Proofs.YtldhkbiomingbaaGreatDoor.F
open Go.Proofs.YtldhkbiomingbaaGreatDoor
open Go.RowKit Go.YW.PrintWords Go.YW.PrintLast Go.YW.PrintMore
attribute [local go_sem] max2_int min2_int max_two min_two max_three min_three max_four min_four
def laws_szPuzzle.f (a0_0:ByteArray) (a0_1:ByteArray) (a0_2:Int) (a1:Int):Option (Int):=if (wrap64 (a1 - (a0_0.size:Int))) < 0 then (some (-1)) else (if (wrap64 ((wrap64 (a1 - (a0_0.size:Int))) - (a0_1.size:Int))) < 0 then (some (-1)) else (some (wrap64 ((wrap64 (a1 - (a0_0.size:Int))) - (a0_1.size:Int)))))
theorem laws_szPuzzle.calls (a0_0:ByteArray) (a0_1:ByteArray) (a0_2:Int) (a1:Int) (r:Int) (w:World) (h:laws_szPuzzle.f a0_0 a0_1 a0_2 a1 = some r) :
  Calls Tryz.prog 16 #[.agg #[.string a0_0,.string a0_1,.int .i64 a0_2],.int .i64 a1] w fun e w'=>e = .returned (.int .i64 r) ∧ Below w.heap.size w w':=by
 have hu26:=Tryz.underlying26
 have HB:=am (Below.refl w.heap.size w)
 have H:(if (wrap64 (a1 - (a0_0.size:Int))) < 0 then (some (-1)) else (if (wrap64 ((wrap64 (a1 - (a0_0.size:Int))) - (a0_1.size:Int))) < 0 then (some (-1)) else (some (wrap64 ((wrap64 (a1 - (a0_0.size:Int))) - (a0_1.size:Int)))))) = some r:=h
 clear h
 by_cases c3:(wrap64 (a1 - (a0_0.size:Int))) < 0
 ·rw [if_pos c3] at H
  have c3b0:=decide_eq_true c3
  clear c3
  obtain rfl:=Option.some.inj H
  go_enter Tryz.func16,Tryz.ntmps16
  go_wp2_with (first | (refine bx 2 #[.string a0_0,.string a0_1,.int .i64 a0_2] 26 ?_;intro gb101 hg w4 hbox hb;have BK101:=am (hbox);have GW101:=am ((by rw [hg];exact (below_size aq2):w.heap.size ≤ gb101));have GE101:=GW101;replace HB:=am (below_step aq2 hb);clear hb hbox hg;obtain ⟨hcz5_0,hcz5_1,hcz5_2,hfz5_0,hfz5_1,hfz5_2⟩:=blk3_ BK101.out))
  go_ret
  exact ⟨aq7,aq0⟩
 rw [if_neg c3] at H
 have c3b0:=decide_eq_false c3
 clear c3
 by_cases c6:(wrap64 ((wrap64 (a1 - (a0_0.size:Int))) - (a0_1.size:Int))) < 0
 rotate_left
 ·rw [if_neg c6] at H
  have c6b0:=decide_eq_false c6
  clear c6
  obtain rfl:=Option.some.inj H
  go_enter Tryz.func16,Tryz.ntmps16
  go_wp2_with (first | (refine bx 2 #[.string a0_0,.string a0_1,.int .i64 a0_2] 26 ?_;intro gb101 hg w9 hbox hb;have BK101:=am (hbox);have GW101:=am ((by rw [hg];exact (below_size aq2):w.heap.size ≤ gb101));have GE101:=GW101;replace HB:=am (below_step aq2 hb);clear hb hbox hg;obtain ⟨hcz10_0,hcz10_1,hcz10_2,hfz10_0,hfz10_1,hfz10_2⟩:=blk3_ BK101.out))
  go_ret
  exact ⟨aq7,aq0⟩
 rw [if_pos c6] at H
 have c6b0:=decide_eq_true c6
 clear c6
 obtain rfl:=Option.some.inj H
 go_enter Tryz.func16,Tryz.ntmps16
 go_wp2_with (first | (refine bx 2 #[.string a0_0,.string a0_1,.int .i64 a0_2] 26 ?_;intro gb101 hg w7 hbox hb;have BK101:=am (hbox);have GW101:=am ((by rw [hg];exact (below_size aq2):w.heap.size ≤ gb101));have GE101:=GW101;replace HB:=am (below_step aq2 hb);clear hb hbox hg;obtain ⟨hcz8_0,hcz8_1,hcz8_2,hfz8_0,hfz8_1,hfz8_2⟩:=blk3_ BK101.out))
 go_ret
 exact ⟨aq7,aq0⟩
def laws_toPuzzle.f (a0_0:ByteArray) (a0_1:ByteArray) (a0_2:Int):Option (ByteArray × ByteArray × Int):=some (a0_0,a0_1,a0_2)
theorem laws_toPuzzle.calls (a0_0:ByteArray) (a0_1:ByteArray) (a0_2:Int) (r1:ByteArray) (r2:ByteArray) (r3:Int) (w:World) (h:laws_toPuzzle.f a0_0 a0_1 a0_2 = some (r1,r2,r3)) :
  Calls Tryz.prog 18 #[.agg #[.string a0_0,.string a0_1,.int .i64 a0_2]] w fun e w'=>e = .returned (.agg #[.string r1,.string r2,.int .i64 r3]) ∧ Below w.heap.size w w':=by
 have hu26:=Tryz.underlying26
 have hu30:=Tryz.underlying30
 have HB:=am (Below.refl w.heap.size w)
 have H:(some (a0_0,a0_1,a0_2)) = some (r1,r2,r3):=h
 clear h
 simp only [Option.some.injEq,Prod.mk.injEq] at H
 obtain ⟨rfl,rfl,rfl⟩:=H
 go_enter Tryz.func18,Tryz.ntmps18
 go_wp2_with (first | (refine bx 1 #[.string a0_0,.string a0_1,.int .i64 a0_2] 26 ?_;intro gb101 hg w2 hbox hb;have BK101:=am (hbox);have GW101:=am ((by rw [hg];exact (below_size aq2):w.heap.size ≤ gb101));have GE101:=GW101;replace HB:=am (below_step aq2 hb);clear hb hbox hg) | (refine bx 2 #[.string (⟨#[]⟩:ByteArray),.string (⟨#[]⟩:ByteArray),.int .i64 0] 30 ?_;intro gb102 hg w3 hbox hb;have BK102:=am (hbox);have GW102:=am ((by rw [hg];exact (below_size aq0):w.heap.size ≤ gb102));have GE102:=GW102;replace HB:=am (below_step aq0 hb);have NB101_102:=am ((by rw [hg];exact Nat.ne_of_lt (blk_lt (g:=gb101) (o:=.cells #[.string a0_0,.string a0_1,.int .i64 a0_2] 26 (0,0)) aq1):gb101 ≠ gb102));have NB102_101:=am ((by rw [hg];exact Nat.ne_of_gt (blk_lt (g:=gb101) (o:=.cells #[.string a0_0,.string a0_1,.int .i64 a0_2] 26 (0,0)) aq1):gb102 ≠ gb101));replace BK101:=am (bb BK101 hb);clear hb hbox hg) | (refine bx 3 #[.string (⟨#[]⟩:ByteArray),.string (⟨#[]⟩:ByteArray),.int .i64 0] 30 ?_;intro gb103 hg w4 hbox hb;have BK103:=am (hbox);have GW103:=am ((by rw [hg];exact (below_size aq4):w.heap.size ≤ gb103));have GE103:=GW103;replace HB:=am (below_step aq4 hb);have NB101_103:=am ((by rw [hg];exact Nat.ne_of_lt (blk_lt (g:=gb101) (o:=.cells #[.string a0_0,.string a0_1,.int .i64 a0_2] 26 (0,0)) aq1):gb101 ≠ gb103));have NB103_101:=am ((by rw [hg];exact Nat.ne_of_gt (blk_lt (g:=gb101) (o:=.cells #[.string a0_0,.string a0_1,.int .i64 a0_2] 26 (0,0)) aq1):gb103 ≠ gb101));replace BK101:=am (bb BK101 hb);have NB102_103:=am ((by rw [hg];exact Nat.ne_of_lt (blk_lt (g:=gb102) (o:=.cells #[.string (⟨#[]⟩:ByteArray),.string (⟨#[]⟩:ByteArray),.int .i64 0] 30 (0,0)) aq9):gb102 ≠ gb103));have NB103_102:=am ((by rw [hg];exact Nat.ne_of_gt (blk_lt (g:=gb102) (o:=.cells #[.string (⟨#[]⟩:ByteArray),.string (⟨#[]⟩:ByteArray),.int .i64 0] 30 (0,0)) aq9):gb103 ≠ gb102));replace BK102:=am (blk_below (g:=gb102) (o:=.cells #[.string (⟨#[]⟩:ByteArray),.string (⟨#[]⟩:ByteArray),.int .i64 0] 30 (0,0)) aq9 hb);clear hb hbox hg;have hnb5:=NB101_102.out;have hnc5:=NB102_101.out;have hnb6:=NB101_103.out;have hnc6:=NB103_101.out;obtain ⟨hcz7_0,hcz7_1,hcz7_2,hfz7_0,hfz7_1,hfz7_2⟩:=blk3_ BK101.out;have hnb8:=NB103_102.out;have hnc8:=NB102_103.out;obtain ⟨hcz9_0,hcz9_1,hcz9_2,hfz9_0,hfz9_1,hfz9_2⟩:=blk3_ BK103.out;obtain ⟨hcz10_0,hcz10_1,hcz10_2,hfz10_0,hfz10_1,hfz10_2⟩:=blk3_ BK102.out))
 refine bodyPost_ret (results_cell_row rfl _ _ gb102 30 #[.string a0_0,.string a0_1,.int .i64 a0_2] (0,0) _ rfl (by (with_reducible repeat (first | refine blk_drewN ?_ _ | refine blk_drew ?_ | refine blk_alloc ?_ _));refine blk_put (cs:=#[.string a0_0,.string a0_1,.int .i64 0]) ?_ 2 _ rfl;(with_reducible repeat (first | refine blk_drewN ?_ _ | refine blk_drew ?_ | refine blk_alloc ?_ _));refine blk_put (cs:=#[.string a0_0,.string (⟨#[]⟩:ByteArray),.int .i64 0]) ?_ 1 _ rfl;(with_reducible repeat (first | refine blk_drewN ?_ _ | refine blk_drew ?_ | refine blk_alloc ?_ _));refine blk_put (cs:=#[.string (⟨#[]⟩:ByteArray),.string (⟨#[]⟩:ByteArray),.int .i64 0]) ?_ 0 _ rfl;(with_reducible repeat (first | refine blk_drewN ?_ _ | refine blk_drew ?_ | refine blk_alloc ?_ _));refine blk_far ?_ NB102_103.out _;(with_reducible repeat (first | refine blk_drewN ?_ _ | refine blk_drew ?_ | refine blk_alloc ?_ _));refine blk_far ?_ NB102_103.out _;(with_reducible repeat (first | refine blk_drewN ?_ _ | refine blk_drew ?_ | refine blk_alloc ?_ _));refine blk_far ?_ NB102_103.out _;(with_reducible repeat (first | refine blk_drewN ?_ _ | refine blk_drew ?_ | refine blk_alloc ?_ _));exact BK102.out) Tryz.underlying30 rfl k_r) rfl ?_
 exact ⟨aq7,by repeat (first | (with_reducible first | exact HB.out | apply below_alloc | apply pw_below_drewN | apply below_drew1 | refine below_set ?_ GE101.out | refine below_set ?_ GE102.out | refine below_set ?_ GE103.out) | exact HB.out)⟩
def laws_FnExactLengthOf.f (k:Nat) (a0_0:ByteArray) (a0_1:ByteArray) (a0_2:Int):Option (Bool):=(laws_szPuzzle.f a0_0 a0_1 a0_2 1048576).bind fun t102=>(if t102 < 0 then (some true) else ((laws_toPuzzle.f a0_0 a0_1 a0_2).bind fun bt103=>((spec_LengthOf.f bt103.1 bt103.2.1 bt103.2.2).bind fun bt106=>((laws_toPuzzle.f a0_0 a0_1 a0_2).bind fun bt108=>((impl_LengthOf.f k bt108.1 bt108.2.1 bt108.2.2).bind fun bt111=>(if bt111.1 = bt106.1 then (if (bt111.2 != bt106.2) = true then (some false) else (some true)) else (some false)))))))
theorem laws_FnExactLengthOf.calls (k:Nat) (a0_0:ByteArray) (a0_1:ByteArray) (a0_2:Int) (r:Bool) (w:World) (h:laws_FnExactLengthOf.f k a0_0 a0_1 a0_2 = some r) :
  Calls Tryz.prog 4 #[.agg #[.string a0_0,.string a0_1,.int .i64 a0_2]] w fun e w'=>e = .returned (.bool r) ∧ Below w.heap.size w w':=by
 have hu26:=Tryz.underlying26
 have HB:=am (Below.refl w.heap.size w)
 have H:((laws_szPuzzle.f a0_0 a0_1 a0_2 1048576).bind fun t102=>(if t102 < 0 then (some true) else ((laws_toPuzzle.f a0_0 a0_1 a0_2).bind fun bt103=>((spec_LengthOf.f bt103.1 bt103.2.1 bt103.2.2).bind fun bt106=>((laws_toPuzzle.f a0_0 a0_1 a0_2).bind fun bt108=>((impl_LengthOf.f k bt108.1 bt108.2.1 bt108.2.2).bind fun bt111=>(if bt111.1 = bt106.1 then (if (bt111.2 != bt106.2) = true then (some false) else (some true)) else (some false)))))))) = some r:=h
 clear h
 obtain ⟨t102,A2,H⟩:=bn H
 by_cases c3:t102 < 0
 ·rw [if_pos c3] at H
  have c3b0:=decide_eq_true c3
  clear c3
  obtain rfl:=Option.some.inj H
  go_enter Tryz.func4,Tryz.ntmps4
  go_wp2_with (first | (refine bx 1 #[.string a0_0,.string a0_1,.int .i64 a0_2] 26 ?_;intro gb101 hg w4 hbox hb;have BK101:=am (hbox);have GW101:=am ((by rw [hg];exact (below_size aq2):w.heap.size ≤ gb101));have GE101:=GW101;replace HB:=am (below_step aq2 hb);clear hb hbox hg;obtain ⟨hcz5_0,hcz5_1,hcz5_2,hfz5_0,hfz5_1,hfz5_2⟩:=blk3_ BK101.out) | ((with_reducible refine gate_callee (f:=16) rfl ?_);refine goesL_ (some 10) rfl rfl Tryz.func16 k_r rfl #[.agg #[.string a0_0,.string a0_1,.int .i64 a0_2],.int .i64 1048576] rfl aq3 ?_;(with_reducible refine (laws_szPuzzle.calls a0_0 a0_1 a0_2 1048576 t102 _ A2.out).mono ?_);rintro e w6 ⟨rfl,hb⟩;refine ⟨_,rfl,?_⟩;replace BK101:=am (bb BK101 hb);replace HB:=am (below_step aq0 hb);(try clear hb)))
  go_ret
  exact ⟨aq7,aq0⟩
 rw [if_neg c3] at H
 have c3b0:=decide_eq_false c3
 clear c3
 replace H:=Option.bind_eq_some_iff.mp H
 obtain ⟨⟨t103,t104,t105⟩,A70,H⟩:=H
 replace H:((spec_LengthOf.f t103 t104 t105).bind fun bt106=>((laws_toPuzzle.f a0_0 a0_1 a0_2).bind fun bt108=>((impl_LengthOf.f k bt108.1 bt108.2.1 bt108.2.2).bind fun bt111=>(if bt111.1 = bt106.1 then (if (bt111.2 != bt106.2) = true then (some false) else (some true)) else (some false))))) = some r:=H
 have A7:=am A70
 clear A70
 replace H:=Option.bind_eq_some_iff.mp H
 obtain ⟨⟨t106,t107⟩,A80,H⟩:=H
 replace H:((laws_toPuzzle.f a0_0 a0_1 a0_2).bind fun bt108=>((impl_LengthOf.f k bt108.1 bt108.2.1 bt108.2.2).bind fun bt111=>(if bt111.1 = t106 then (if (bt111.2 != t107) = true then (some false) else (some true)) else (some false)))) = some r:=H
 have A8:=am A80
 clear A80
 replace H:=Option.bind_eq_some_iff.mp H
 obtain ⟨⟨t108,t109,t110⟩,A90,H⟩:=H
 replace H:((impl_LengthOf.f k t108 t109 t110).bind fun bt111=>(if bt111.1 = t106 then (if (bt111.2 != t107) = true then (some false) else (some true)) else (some false))) = some r:=H
 have A9:=am A90
 clear A90
 replace H:=Option.bind_eq_some_iff.mp H
 obtain ⟨⟨t111,t112⟩,A100,H⟩:=H
 replace H:(if t111 = t106 then (if (t112 != t107) = true then (some false) else (some true)) else (some false)) = some r:=H
 have A10:=am A100
 clear A100
 by_cases c11:t111 = t106
 rotate_left
 ·rw [if_neg c11] at H
  have c11b0:=beq_eq_false_iff_ne.mpr c11
  have c11b1:=bne_iff_ne.mpr c11
  obtain rfl:=Option.some.inj H
  go_enter Tryz.func4,Tryz.ntmps4
  go_wp2_with (first | (refine bx 1 #[.string a0_0,.string a0_1,.int .i64 a0_2] 26 ?_;intro gb101 hg w31 hbox hb;have BK101:=am (hbox);have GW101:=am ((by rw [hg];exact (below_size aq2):w.heap.size ≤ gb101));have GE101:=GW101;replace HB:=am (below_step aq2 hb);clear hb hbox hg;obtain ⟨hcz32_0,hcz32_1,hcz32_2,hfz32_0,hfz32_1,hfz32_2⟩:=blk3_ BK101.out) | ((with_reducible refine gate_callee (f:=16) rfl ?_);refine goesL_ (some 10) rfl rfl Tryz.func16 k_r rfl #[.agg #[.string a0_0,.string a0_1,.int .i64 a0_2],.int .i64 1048576] rfl aq3 ?_;(with_reducible refine (laws_szPuzzle.calls a0_0 a0_1 a0_2 1048576 t102 _ A2.out).mono ?_);rintro e w33 ⟨rfl,hb⟩;refine ⟨_,rfl,?_⟩;replace BK101:=am (bb BK101 hb);replace HB:=am (below_step aq0 hb);(try clear hb);obtain ⟨hcz34_0,hcz34_1,hcz34_2,hfz34_0,hfz34_1,hfz34_2⟩:=blk3_ BK101.out) | ((with_reducible refine gate_callee (f:=18) rfl ?_);refine goesL_ (some 15) rfl rfl Tryz.func18 k_r rfl #[.agg #[.string a0_0,.string a0_1,.int .i64 a0_2]] rfl aq3 ?_;(with_reducible refine (laws_toPuzzle.calls a0_0 a0_1 a0_2 t103 t104 t105 _ A7.out).mono ?_);rintro e w35 ⟨rfl,hb⟩;refine ⟨_,rfl,?_⟩;replace BK101:=am (bb BK101 hb);replace HB:=am (below_step aq0 hb);(try clear hb)) | ((with_reducible refine gate_callee (f:=17) rfl ?_);refine goesL_ (some 16) rfl rfl Tryz.func17 k_r rfl #[.agg #[.string t103,.string t104,.int .i64 t105]] rfl aq3 ?_;(with_reducible refine (spec_LengthOf.calls t103 t104 t105 t106 t107 _ A8.out).mono ?_);rintro e w36 ⟨rfl,hb⟩;refine ⟨_,rfl,?_⟩;replace BK101:=am (bb BK101 hb);replace HB:=am (below_step aq0 hb);(try clear hb);obtain ⟨hcz37_0,hcz37_1,hcz37_2,hfz37_0,hfz37_1,hfz37_2⟩:=blk3_ BK101.out) | ((with_reducible refine gate_callee (f:=18) rfl ?_);refine goesL_ (some 21) rfl rfl Tryz.func18 k_r rfl #[.agg #[.string a0_0,.string a0_1,.int .i64 a0_2]] rfl aq3 ?_;(with_reducible refine (laws_toPuzzle.calls a0_0 a0_1 a0_2 t108 t109 t110 _ A9.out).mono ?_);rintro e w38 ⟨rfl,hb⟩;refine ⟨_,rfl,?_⟩;replace BK101:=am (bb BK101 hb);replace HB:=am (below_step aq0 hb);(try clear hb)) | ((with_reducible refine gate_callee (f:=19) rfl ?_);refine goesL_ (some 22) rfl rfl Tryz.func19 k_r rfl #[.agg #[.string t108,.string t109,.int .i64 t110]] rfl aq3 ?_;(with_reducible refine (impl_LengthOf.calls k t108 t109 t110 t111 t112 _ A10.out).mono ?_);rintro e w39 ⟨rfl,hb⟩;refine ⟨_,rfl,?_⟩;replace BK101:=am (bb BK101 hb);replace HB:=am (below_step aq0 hb);(try clear hb)))
  go_ret
  exact ⟨aq7,aq0⟩
 rw [if_pos c11] at H
 have c11b0:=beq_iff_eq.mpr c11
 have c11b1:=bne_eq_false_iff_eq.mpr c11
 clear c11
 by_cases c12:(t112 != t107) = true
 rotate_left
 ·rw [if_neg c12] at H
  have c12b0:(t112 != t107) = false:=by simpa using c12
  (try (have c12b1:decide (t112 = t107) = true:=by simpa using c12))
  (try (have c12b2:(t112 == t107) = true:=by simpa using c12))
  clear c12
  obtain rfl:=Option.some.inj H
  go_enter Tryz.func4,Tryz.ntmps4
  go_wp2_with (first | (refine bx 1 #[.string a0_0,.string a0_1,.int .i64 a0_2] 26 ?_;intro gb101 hg w22 hbox hb;have BK101:=am (hbox);have GW101:=am ((by rw [hg];exact (below_size aq2):w.heap.size ≤ gb101));have GE101:=GW101;replace HB:=am (below_step aq2 hb);clear hb hbox hg;obtain ⟨hcz23_0,hcz23_1,hcz23_2,hfz23_0,hfz23_1,hfz23_2⟩:=blk3_ BK101.out) | ((with_reducible refine gate_callee (f:=16) rfl ?_);refine goesL_ (some 10) rfl rfl Tryz.func16 k_r rfl #[.agg #[.string a0_0,.string a0_1,.int .i64 a0_2],.int .i64 1048576] rfl aq3 ?_;(with_reducible refine (laws_szPuzzle.calls a0_0 a0_1 a0_2 1048576 t102 _ A2.out).mono ?_);rintro e w24 ⟨rfl,hb⟩;refine ⟨_,rfl,?_⟩;replace BK101:=am (bb BK101 hb);replace HB:=am (below_step aq0 hb);(try clear hb);obtain ⟨hcz25_0,hcz25_1,hcz25_2,hfz25_0,hfz25_1,hfz25_2⟩:=blk3_ BK101.out) | ((with_reducible refine gate_callee (f:=18) rfl ?_);refine goesL_ (some 15) rfl rfl Tryz.func18 k_r rfl #[.agg #[.string a0_0,.string a0_1,.int .i64 a0_2]] rfl aq3 ?_;(with_reducible refine (laws_toPuzzle.calls a0_0 a0_1 a0_2 t103 t104 t105 _ A7.out).mono ?_);rintro e w26 ⟨rfl,hb⟩;refine ⟨_,rfl,?_⟩;replace BK101:=am (bb BK101 hb);replace HB:=am (below_step aq0 hb);(try clear hb)) | ((with_reducible refine gate_callee (f:=17) rfl ?_);refine goesL_ (some 16) rfl rfl Tryz.func17 k_r rfl #[.agg #[.string t103,.string t104,.int .i64 t105]] rfl aq3 ?_;(with_reducible refine (spec_LengthOf.calls t103 t104 t105 t106 t107 _ A8.out).mono ?_);rintro e w27 ⟨rfl,hb⟩;refine ⟨_,rfl,?_⟩;replace BK101:=am (bb BK101 hb);replace HB:=am (below_step aq0 hb);(try clear hb);obtain ⟨hcz28_0,hcz28_1,hcz28_2,hfz28_0,hfz28_1,hfz28_2⟩:=blk3_ BK101.out) | ((with_reducible refine gate_callee (f:=18) rfl ?_);refine goesL_ (some 21) rfl rfl Tryz.func18 k_r rfl #[.agg #[.string a0_0,.string a0_1,.int .i64 a0_2]] rfl aq3 ?_;(with_reducible refine (laws_toPuzzle.calls a0_0 a0_1 a0_2 t108 t109 t110 _ A9.out).mono ?_);rintro e w29 ⟨rfl,hb⟩;refine ⟨_,rfl,?_⟩;replace BK101:=am (bb BK101 hb);replace HB:=am (below_step aq0 hb);(try clear hb)) | ((with_reducible refine gate_callee (f:=19) rfl ?_);refine goesL_ (some 22) rfl rfl Tryz.func19 k_r rfl #[.agg #[.string t108,.string t109,.int .i64 t110]] rfl aq3 ?_;(with_reducible refine (impl_LengthOf.calls k t108 t109 t110 t111 t112 _ A10.out).mono ?_);rintro e w30 ⟨rfl,hb⟩;refine ⟨_,rfl,?_⟩;replace BK101:=am (bb BK101 hb);replace HB:=am (below_step aq0 hb);(try clear hb)))
  go_ret
  exact ⟨aq7,aq0⟩
 rw [if_pos c12] at H
 have c12b0:(t112 != t107) = true:=c12
 (try (have c12b1:decide (t112 = t107) = false:=by simpa using c12))
 (try (have c12b2:(t112 == t107) = false:=by simpa using c12))
 (try (have c12b3:¬ (t112 = t107):=by simpa using c12))
 clear c12
 obtain rfl:=Option.some.inj H
 go_enter Tryz.func4,Tryz.ntmps4
 go_wp2_with (first | (refine bx 1 #[.string a0_0,.string a0_1,.int .i64 a0_2] 26 ?_;intro gb101 hg w13 hbox hb;have BK101:=am (hbox);have GW101:=am ((by rw [hg];exact (below_size aq2):w.heap.size ≤ gb101));have GE101:=GW101;replace HB:=am (below_step aq2 hb);clear hb hbox hg;obtain ⟨hcz14_0,hcz14_1,hcz14_2,hfz14_0,hfz14_1,hfz14_2⟩:=blk3_ BK101.out) | ((with_reducible refine gate_callee (f:=16) rfl ?_);refine goesL_ (some 10) rfl rfl Tryz.func16 k_r rfl #[.agg #[.string a0_0,.string a0_1,.int .i64 a0_2],.int .i64 1048576] rfl aq3 ?_;(with_reducible refine (laws_szPuzzle.calls a0_0 a0_1 a0_2 1048576 t102 _ A2.out).mono ?_);rintro e w15 ⟨rfl,hb⟩;refine ⟨_,rfl,?_⟩;replace BK101:=am (bb BK101 hb);replace HB:=am (below_step aq0 hb);(try clear hb);obtain ⟨hcz16_0,hcz16_1,hcz16_2,hfz16_0,hfz16_1,hfz16_2⟩:=blk3_ BK101.out) | ((with_reducible refine gate_callee (f:=18) rfl ?_);refine goesL_ (some 15) rfl rfl Tryz.func18 k_r rfl #[.agg #[.string a0_0,.string a0_1,.int .i64 a0_2]] rfl aq3 ?_;(with_reducible refine (laws_toPuzzle.calls a0_0 a0_1 a0_2 t103 t104 t105 _ A7.out).mono ?_);rintro e w17 ⟨rfl,hb⟩;refine ⟨_,rfl,?_⟩;replace BK101:=am (bb BK101 hb);replace HB:=am (below_step aq0 hb);(try clear hb)) | ((with_reducible refine gate_callee (f:=17) rfl ?_);refine goesL_ (some 16) rfl rfl Tryz.func17 k_r rfl #[.agg #[.string t103,.string t104,.int .i64 t105]] rfl aq3 ?_;(with_reducible refine (spec_LengthOf.calls t103 t104 t105 t106 t107 _ A8.out).mono ?_);rintro e w18 ⟨rfl,hb⟩;refine ⟨_,rfl,?_⟩;replace BK101:=am (bb BK101 hb);replace HB:=am (below_step aq0 hb);(try clear hb);obtain ⟨hcz19_0,hcz19_1,hcz19_2,hfz19_0,hfz19_1,hfz19_2⟩:=blk3_ BK101.out) | ((with_reducible refine gate_callee (f:=18) rfl ?_);refine goesL_ (some 21) rfl rfl Tryz.func18 k_r rfl #[.agg #[.string a0_0,.string a0_1,.int .i64 a0_2]] rfl aq3 ?_;(with_reducible refine (laws_toPuzzle.calls a0_0 a0_1 a0_2 t108 t109 t110 _ A9.out).mono ?_);rintro e w20 ⟨rfl,hb⟩;refine ⟨_,rfl,?_⟩;replace BK101:=am (bb BK101 hb);replace HB:=am (below_step aq0 hb);(try clear hb)) | ((with_reducible refine gate_callee (f:=19) rfl ?_);refine goesL_ (some 22) rfl rfl Tryz.func19 k_r rfl #[.agg #[.string t108,.string t109,.int .i64 t110]] rfl aq3 ?_;(with_reducible refine (impl_LengthOf.calls k t108 t109 t110 t111 t112 _ A10.out).mono ?_);rintro e w21 ⟨rfl,hb⟩;refine ⟨_,rfl,?_⟩;replace BK101:=am (bb BK101 hb);replace HB:=am (below_step aq0 hb);(try clear hb)))
 go_ret
 exact ⟨aq7,aq0⟩
end Go.Proofs.YtldhkbiomingbaaGreatDoor.F

namespace Go.Proofs.YtldhkbiomingbaaGreatDoor.F
open Go.RowKit Go.Proofs.YtldhkbiomingbaaGreatDoor Go.YW.PrintWords Go.YW.PrintMore
theorem szPuzzle_ok {t n:ByteArray} {g:Int} (ht:t.size ≤ 9223372036854775807) (hn:n.size ≤ 9223372036854775807):∃ r,laws_szPuzzle.f t n g 1048576 = some r ∧ (0 ≤ r → t.size ≤ 1048576 ∧ n.size ≤ 1048576):=by
 unfold laws_szPuzzle.f
 have e1:wrap64 (1048576 - (t.size:Int)) = 1048576 - (t.size:Int):=w64 o_m o_m
 rw [e1]
 by_cases h1:1048576 - (t.size:Int) < 0
 ·rw [if_pos h1]
  exact ⟨-1,rfl,fun h=>by omega⟩
 rw [if_neg h1]
 have e2:wrap64 (1048576 - (t.size:Int) - (n.size:Int)) = 1048576 - (t.size:Int) - (n.size:Int):=w64 o_m o_m
 rw [e2]
 by_cases h2:1048576 - (t.size:Int) - (n.size:Int) < 0
 rotate_left
 ·rw [if_neg h2]
  exact ⟨_,rfl,fun h=>by omega⟩
 rw [if_pos h2]
 exact ⟨-1,rfl,fun h=>by omega⟩
theorem FnExactLengthOf (t n:ByteArray) (g:Int) (ht:t.size ≤ 9223372036854775807) (hn:n.size ≤ 9223372036854775807) (hg:(Lit.int .i64 g).wf = true):∃ k,laws_FnExactLengthOf.f k t n g = some true:=by
 refine Ev.rounds (g:=fun k=>laws_FnExactLengthOf.f k t n g) ?_
 unfold laws_FnExactLengthOf.f
 obtain ⟨r,hr,hrs⟩:=szPuzzle_ok (g:=g) ht hn
 refine Ev.congr (fun k=>by rw [hr,Option.bind_some]) ?_
 by_cases h0:r < 0
 ·exact Ev.congr (fun k=>if_pos h0) (Ev.now _)
 obtain ⟨h1,h2⟩:=hrs o_m
 refine Ev.congr (fun k=>if_neg h0) ?_
 obtain ⟨l1,l2⟩:=solI_len t n g
 have hI:=impl_SolutionOf_ev t n g o_m
 have hL:Ev (fun k=>impl_LengthOf.f k t n g) ((((solI t n g).1.size:Nat):Int),(solI t n g).2):=Ev.bind hI (Ev.now _)
 rw [l1,l2] at hL
 have hS:spec_LengthOf.f t n g = some ((if (puFar t n g).2 = true then (puFar t n g).1 else 0),(puFar t n g).2):=by
  unfold spec_LengthOf.f
  cases (puFar t n g).2 <;> rfl
 refine Ev.congr (fun k=>by rw [show laws_toPuzzle.f t n g = some (t,n,g) from rfl,Option.bind_some,hS,Option.bind_some,Option.bind_some]) ?_
 refine Ev.bind hL (Ev.congr (fun k=>if_pos rfl) (Ev.congr (fun k=>?_) (Ev.now _)))
 rw [bne_self_eq_false];rfl
end Go.Proofs.YtldhkbiomingbaaGreatDoor.F

namespace Go.Proofs.YtldhkbiomingbaaGreatDoor.F
open Go.Proofs.YtldhkbiomingbaaGreatDoor
open Go.RowKit Go.YW.PrintWords Go.YW.PrintLast Go.YW.PrintMore Go.Lib
attribute [local go_sem] max2_int min2_int
def needB (w h:Nat) (cs:List Int) (n:ByteArray) (g far:Int) (i:Nat):Bool:=decide (cs.getD i 0 = 35) && ((puFar (textB (w,h,cs.set i 46)) n g).2 && decide ((puFar (textB (w,h,cs.set i 46)) n g).1 = far))
def needL (w h:Nat) (cs:List Int) (n:ByteArray) (g far:Int) (m:Nat):List Int:=((List.range m).filter (needB w h cs n g far)).map Int.ofNat
theorem needL_succ (w h:Nat) (cs:List Int) (n:ByteArray) (g far:Int) (m:Nat):needL w h cs n g far (m + 1) = if needB w h cs n g far m = true then needL w h cs n g far m ++ [(m:Int)] else needL w h cs n g far m:=by
 unfold needL
 rw [List.range_succ,List.filter_append,List.map_append]
 by_cases e:needB w h cs n g far m = true
 rotate_left
 ·rw [if_neg e,List.filter_cons_of_neg e];exact List.append_nil _
 rw [if_pos e,List.filter_cons_of_pos e];rfl
theorem needL_len (w h:Nat) (cs:List Int) (n:ByteArray) (g far:Int) (m:Nat):(needL w h cs n g far m).length ≤ m:=by
 unfold needL
 rw [List.length_map]
 exact Nat.le_trans (List.length_filter_le _ _) (by rw [List.length_range];exact Nat.le_refl _)
def needA (t n:ByteArray) (g:Int):List Int × Bool:=if (puFar t n g).2 = true then (match tyGrid (bytesOf t) with
 | none=>[]
 | some q=>needL q.1 q.2.1 q.2.2 n g (puFar t n g).1 q.2.2.length,true) else ([],false)
def spec_NeedlessWalls.f (t n:ByteArray) (g:Int):Option (List Int × Bool):=some (needA t n g)
theorem copyT_eq (a b:Int) {cs:List Int} (hl:cs.length ≤ 1000):spec_tyCopy.f a b cs = some (a,b,cs):=by
 unfold spec_tyCopy.f
 rw [Option.bind_some,if_pos (by simp;omega),List.nil_append]
theorem spec_NeedlessWalls.calls (a0_0 a0_1:ByteArray) (a0_2:Int) (r1:List Int) (r2:Bool) (w:World) (h:spec_NeedlessWalls.f a0_0 a0_1 a0_2 = some (r1,r2)) :
  Calls Tryz.prog 29 #[.agg #[.string a0_0,.string a0_1,.int .i64 a0_2]] w fun e w'=>∃ v0_:Value,e = .returned (.tuple #[v0_,.bool r2]) ∧ Kd.R (Kd.int .i64) 3 w' w.heap.size (fun _=>True) v0_ r1 ∧ Below w.heap.size w w':=by
 have HR:=am (show needA a0_0 a0_1 a0_2 = (r1,r2) from Option.some.inj h)
 have HB:=am (Below.refl w.heap.size w)
 clear h
 obtain ⟨⟨q1,q2⟩,hq⟩:∃ q,puFar a0_0 a0_1 a0_2 = q:=⟨_,rfl⟩
 have HP:=am (fun W=>puStates_calls a0_0 a0_1 a0_2 q1 q2 hq W)
 cases q2 with
 | false =>
  obtain ⟨rfl,rfl⟩:[] = r1 ∧ false = r2:=by have h:=HR.out;unfold needA at h;rw [hq] at h;exact Prod.mk.inj h
  clear hq
  go_enter Tryz.func29,Tryz.ntmps29
  go_wp2_with (first
   | (refine bx 1 #[.string a0_0,.string a0_1,.int .i64 a0_2] 30 ?_;intro b1 hg1 w1 hbox1 hb1;have z0:w1.cell? ⟨b1,0,none⟩ = some (.string a0_0):=(blk_cell hbox1 0).trans rfl;have z1:w1.cell? ⟨b1,1,none⟩ = some (.string a0_1):=(blk_cell hbox1 1).trans rfl;have z2:w1.cell? ⟨b1,2,none⟩ = some (.int .i64 a0_2):=(blk_cell hbox1 2).trans rfl;have HB1:=am (below_step HB.out hb1);clear hg1 hbox1 hb1)
   | (go_at_call 53;refine (HP.out _).mono ?_;rintro e w2 ⟨v2,rfl,_,hb2⟩;have HB2:=am (below_step HB1.out hb2);clear hb2 z0 z1 z2))
  go_ret2
  exact ⟨_,rfl,Kd.R_nil _ _ _ _ _,HB2.out⟩
 | true =>
  obtain ⟨gw,gh,cs,hgr,vg,etx⟩:∃ gw gh cs,tyGrid (bytesOf a0_0) = some (gw,gh,cs) ∧ Vg (gw,gh,cs) ∧ textB (gw,gh,cs) = a0_0:=by
   unfold puFar at hq
   cases e:puS a0_0 a0_1 a0_2 with
   | none=>rw [e] at hq;cases (Prod.mk.inj hq).2
   | some q =>
    obtain ⟨qw,qh,s,i⟩:=q
    exact puzB_grid (puS_some e).1
  obtain ⟨rfl,rfl⟩:needL gw gh cs a0_1 a0_2 q1 cs.length = r1 ∧ true = r2:=by
   have h:=HR.out
   unfold needA at h
   rw [hq,hgr] at h
   exact Prod.mk.inj h
  obtain ⟨K,hK⟩:=spec_tyRead_ev a0_0
  have hread:=hK K (Nat.le_refl _)
  rw [hgr] at hread
  have HRD:=am hread
  have hlen:=vg.len
  have hsml:=(tray_small vg).2
  have hpos:=(tray_small vg).1
  have HV:=am vg
  have HL36:=am (show cs.length ≤ 36 from hsml)
  have HPOS:=am (show 1 ≤ cs.length from hpos)
  clear hK hread hq hgr vg etx HR hlen hsml hpos
  go_enter Tryz.func29,Tryz.ntmps29
  go_wp2_with (first
   | (refine bx 1 #[.string a0_0,.string a0_1,.int .i64 a0_2] 30 ?_;intro b1 hg1 w1 hbox1 hb1;have z0:w1.cell? ⟨b1,0,none⟩ = some (.string a0_0):=(blk_cell hbox1 0).trans rfl;have z1:w1.cell? ⟨b1,1,none⟩ = some (.string a0_1):=(blk_cell hbox1 1).trans rfl;have z2:w1.cell? ⟨b1,2,none⟩ = some (.int .i64 a0_2):=(blk_cell hbox1 2).trans rfl;have X1:=am hbox1;have HB1:=am (below_step HB.out hb1);clear hg1 hbox1 hb1)
   | (go_at_call 53;refine (HP.out _).mono ?_;rintro e w2 ⟨v2,rfl,_,hb2⟩;have HB2:=am (below_step HB1.out hb2);have X2:=am (blk_below X1.out hb2);clear z0 z1 z2;have z0:w2.cell? ⟨b1,0,none⟩ = some (.string a0_0):=(blk_cell X2.out 0).trans rfl;clear hb2)
   | (go_at_call 63;refine (spec_tyRead.calls K a0_0 _ _ _ _ _ HRD.out).mono ?_;rintro e w3 ⟨v3,rfl,ho3,hb3⟩;obtain ⟨A3,c3,rfl⟩:=Kd.R_slice ho3;have HO3:=am (Kd.R_lower ho3 HB2.out.size);have HB3:=am (below_step HB2.out hb3);have X3:=am (blk_below X2.out hb3);clear ho3 hb3 z0)
   | (refine bx 7 #[.int .i64 0,.int .i64 0,.slice none 0 0] 75 ?_;intro b7 hg7 w4 hbox4 hb4;have y0:w4.cell? ⟨b7,0,none⟩ = some (.int .i64 0):=(blk_cell hbox4 0).trans rfl;have y1:w4.cell? ⟨b7,1,none⟩ = some (.int .i64 0):=(blk_cell hbox4 1).trans rfl;have y2:w4.cell? ⟨b7,2,none⟩ = some (.slice none 0 0):=(blk_cell hbox4 2).trans rfl;have f0:=blk_frozen hbox4 0;have f1:=blk_frozen hbox4 1;have f2:=blk_frozen hbox4 2;have Y4:=am hbox4;have G7:=am (show w.heap.size ≤ b7 by rw [hg7];exact HB3.out.size);have HB4:=am (below_step HB3.out hb4);have X4:=am (blk_below X3.out hb4);have HO4:=am (Kd.R_below HO3.out hb4);have N17:=am (show b1 ≠ b7 by have:=blk_lt X3.out;omega);clear hg7 hbox4 hb4)
   | ((with_reducible refine gate_store (t:=75) (p:=7) rfl ?_);refine store_event (t:=75) (p:=7) (v:=?vo) (w1:=(((w4.setCell ⟨b7,0,none⟩ (.int .i64 gw)).setCell ⟨b7,1,none⟩ (.int .i64 gh)).setCell ⟨b7,2,none⟩ (.slice A3 cs.length c3))) ?hg ?ho ?hn ?hr ?_;(case ho=>rfl);(case hg=>rfl);(case hn=>rfl);(case hr=>first | (go_simp;done) | (go_simp;rfl));intro w5 hw5;have HB5:=am (show Below w.heap.size w w5 by rw [hw5];exact below_set3 HB4.out G7.out _ _ _);have x5:w5.heap[b7]? = some (.cells #[.int .i64 gw,.int .i64 gh,.slice A3 cs.length c3] 75 (0,0)):=(by rw [hw5];exact blk_set3 Y4.out _ _ _);have HO5:=am (show Kd.R (Kd.int .u8) 5 w5 w.heap.size (fun _=>True) (.slice A3 cs.length c3) cs by rw [hw5];exact R_off3 HO4.out Y4.out d_c _ _ _);have X5:=am (show w5.heap[b1]? = some (.cells #[.string a0_0,.string a0_1,.int .i64 a0_2] 30 (0,0)) by rw [hw5];exact blk_far (blk_far (blk_far X4.out N17.out _) N17.out _) N17.out _);have z2:w5.cell? ⟨b7,2,none⟩ = some (.slice A3 cs.length c3):=(blk_cell x5 2).trans rfl;have Y5:=am x5;clear hw5 x5 y0 y1 y2 f0 f1 f2))
  obtain ⟨bc,oc,hAc,hbc,hcs⟩:=C_place (Kd.R_reads' HO5.out).2.2 (by have:=HPOS.out;omega)
  subst hAc
  have HCS:=am (And.intro hbc hcs)
  clear hbc hcs z2 HB1 HB2 HB3 HB4 X1 X2 X3 X4 Y4 HO3 HO4
  go_loopw [9,33] (fun v9 v33 wr=>∃ i:Nat,i ≤ cs.length ∧ v33 = .int .i64 i ∧ Aside0 (Kd.R (Kd.int .i64) 3 wr w5.heap.size (fun _=>True) v9 (needL gw gh cs a0_1 a0_2 q1 i)) ∧ Aside0 (Below w5.heap.size w5 wr)) (fun _ v33 _=>cs.length - (intOf v33).toNat)
  case atStart=>exact ⟨0,Nat.zero_le _,rfl,⟨by rw [show needL gw gh cs a0_1 a0_2 q1 0 = [] from rfl];exact Kd.R_nil _ _ _ _ _⟩,⟨Below.refl _ _⟩⟩
  case round =>
   obtain ⟨i,hi,rfl,HS,HQ⟩:=hrel
   by_cases hlt:i < cs.length
   rotate_left
   ·have hge:¬ (i:Int) < (cs.length:Int):=by omega
    obtain rfl:i = cs.length:=by omega
    go_wp2
    go_ret2
    exact ⟨_,rfl,Kd.R_lower HS.out HB5.out.size,below_step HB5.out HQ.out⟩
   have hltI:(i:Int) < (cs.length:Int):=by omega
   have hc0:wr.cell? ⟨bc,oc + i,none⟩ = some (.int .u8 (cs.getD i 0)):=(HQ.out.cell (p:=⟨bc,oc + i,none⟩) HCS.out.1).trans (HCS.out.2 i _ (by rw [List.getElem?_eq_getElem hlt,getD_lt hlt]))
   have HL:=am hlt
   have hw1:IntKind.i64.wrap ((i:Int) + 1) = ((i + 1:Nat):Int):=by rw [IntKind.wrap_i64];have:=HL36.out;omega
   have HSU:=am (needL_succ gw gh cs a0_1 a0_2 q1 i)
   have HNB:=am (show needB gw gh cs a0_1 a0_2 q1 i = (decide (cs.getD i 0 = 35) && ((puFar (textB (gw,gh,cs.set i 46)) a0_1 a0_2).2 && decide ((puFar (textB (gw,gh,cs.set i 46)) a0_1 a0_2).1 = q1))) from rfl)
   obtain ⟨ci,hci⟩:∃ c,cs.getD i 0 = c:=⟨_,rfl⟩
   rw [hci] at hc0 HNB
   obtain ⟨NL,hNL⟩:∃ l,needL gw gh cs a0_1 a0_2 q1 i = l:=⟨_,rfl⟩
   have HAL:=am (show (NL.length + 1) * 8 ≤ 140737488355328 by rw [← hNL];have:=needL_len gw gh cs a0_1 a0_2 q1 i;have:=HL36.out;omega)
   rw [hNL] at HS HSU
   obtain ⟨A9,c9,rfl⟩:=Kd.R_slice HS.out
   clear hlt hi hci hNL
   by_cases hcw:ci = 35
   rotate_left
   ·have hcw1:(ci == 35) = false:=beq_eq_false_iff_ne.2 hcw
    have hcw2:(ci != 35) = true:=by rw [bne,hcw1];rfl
    have HSU2:=am (show needL gw gh cs a0_1 a0_2 q1 (i + 1) = NL by rw [HSU.out,HNB.out,decide_eq_false hcw,Bool.false_and];exact if_neg Bool.false_ne_true)
    clear hcw
    go_wp2
    go_roundw
    case rel=>exact ⟨i + 1,HL.out,by first | rfl | simp,⟨by rw [HSU2.out];exact HS.out⟩,HQ⟩
    case measure=>have:=HL.out;simp [intOf];omega
   have hcw1:(ci == 35) = true:=beq_iff_eq.2 hcw
   have hcw2:(ci != 35) = false:=by rw [bne,hcw1];rfl
   have y0:wr.cell? ⟨b7,0,none⟩ = some (.int .i64 gw):=(blk_cell (blk_below Y5.out HQ.out) 0).trans rfl
   have y1:wr.cell? ⟨b7,1,none⟩ = some (.int .i64 gh):=(blk_cell (blk_below Y5.out HQ.out) 1).trans rfl
   have y2:wr.cell? ⟨b7,2,none⟩ = some (.slice (some ⟨bc,oc,none⟩) cs.length c3):=(blk_cell (blk_below Y5.out HQ.out) 2).trans rfl
   have vg':VG gw gh cs:=HV.out
   have hl2:(cs.set i 46).length = gw * gh:=by rw [List.length_set];exact vg'.len
   obtain ⟨KT,hKT⟩:=spec_text_ev (cs:=cs.set i 46) (w:=gw) (h:=gh) (by have:=vg'.w7;omega) (by have:=vg'.h7;omega) hl2
   have HTX:=am (hKT KT (Nat.le_refl _))
   obtain ⟨tx,htx⟩:∃ t,textB (gw,gh,cs.set i 46) = t:=⟨_,rfl⟩
   rw [htx] at HTX HNB
   obtain ⟨⟨p1,p2⟩,hp⟩:∃ q,puFar tx a0_1 a0_2 = q:=⟨_,rfl⟩
   have HPU:=am (fun W=>puStates_calls tx a0_1 a0_2 p1 p2 hp W)
   rw [hp] at HNB
   have HNB2:=am (show needB gw gh cs a0_1 a0_2 q1 i = (p2 && decide (p1 = q1)) by rw [HNB.out,decide_eq_true hcw,Bool.true_and])
   have HCP:=am (copyT_eq (gw:Int) (gh:Int) (cs:=cs) (by have:=HL36.out;omega))
   have HRC:=am (Kd.C_below (Kd.R_reads' HO5.out).2.2 HQ.out)
   have HRL:=am (Kd.R_reads' HO5.out).2.1
   clear hKT hp htx vg' hl2 hcw
   go_wp2_with (first
    | (go_at_call 64;refine (spec_tyCopy.calls gw gh (some ⟨bc,oc,none⟩) c3 cs gw gh cs _ HRC.out HRL.out HCP.out).mono ?_;rintro e w6 ⟨v6,rfl,ho6,hb6⟩;obtain ⟨g6,c6,rfl,hg6b,hg6l,_⟩:=Kd.R_form ho6 (by have:=HPOS.out;omega);have HO6:=am ho6;have HB6:=am hb6;have HG6:=am hg6l;have HGB:=am hg6b;clear ho6 hb6 hg6b hg6l y0 y1 y2)
    | (refine bx 12 #[.int .i64 0,.int .i64 0,.slice none 0 0] 75 ?_;intro b12 hg12 w7 hbox7 hb7;have y0:w7.cell? ⟨b12,0,none⟩ = some (.int .i64 0):=(blk_cell hbox7 0).trans rfl;have y1:w7.cell? ⟨b12,1,none⟩ = some (.int .i64 0):=(blk_cell hbox7 1).trans rfl;have y2:w7.cell? ⟨b12,2,none⟩ = some (.slice none 0 0):=(blk_cell hbox7 2).trans rfl;have f0:=blk_frozen hbox7 0;have f1:=blk_frozen hbox7 1;have f2:=blk_frozen hbox7 2;have Y7:=am hbox7;have G12:=am hg12;have HB7:=am (below_step HB6.out hb7);have HO7:=am (Kd.R_below HO6.out hb7);clear hg12 hbox7 hb7)
    | ((with_reducible refine gate_store (t:=75) (p:=12) rfl ?_);refine store_event (t:=75) (p:=12) (v:=?vo2) (w1:=(((w7.setCell ⟨b12,0,none⟩ (.int .i64 gw)).setCell ⟨b12,1,none⟩ (.int .i64 gh)).setCell ⟨b12,2,none⟩ (.slice (some ⟨g6,0,none⟩) cs.length c6))) ?hg ?ho ?hn ?hr ?_;(case ho=>rfl);(case hg=>rfl);(case hn=>rfl);(case hr=>first | (go_simp;done) | (go_simp;rfl));intro w8 hw8;have HGW:=am (show wr.heap.size ≤ b12 by rw [G12.out];exact HB6.out.size);have HB8:=am (show Below wr.heap.size wr w8 by rw [hw8];exact below_set3 HB7.out HGW.out _ _ _);have x8:w8.heap[b12]? = some (.cells #[.int .i64 gw,.int .i64 gh,.slice (some ⟨g6,0,none⟩) cs.length c6] 75 (0,0)):=(by rw [hw8];exact blk_set3 Y7.out _ _ _);have HO8:=am (show Kd.R (Kd.int .u8) 5 w8 wr.heap.size (fun _=>True) (.slice (some ⟨g6,0,none⟩) cs.length c6) cs by rw [hw8];exact R_off3 HO7.out Y7.out d_c _ _ _);have z2:w8.cell? ⟨b12,2,none⟩ = some (.slice (some ⟨g6,0,none⟩) cs.length c6):=(blk_cell x8 2).trans rfl;obtain ⟨hsa,hsf⟩:=Kd.R_celln 0 HO8.out (i:Int) o_m hltI;rw [Int.toNat_natCast] at hsa hsf;have Y8:=am x8;clear hw8 x8 y0 y1 y2 f0 f1 f2)
    | ((with_reducible refine gate_store (t:=5) (p:=45) rfl ?_);refine store_event (t:=5) (p:=45) (v:=?vo3) (w1:=(w8.setCell ⟨g6,i,none⟩ (.int .u8 46))) ?hg ?ho ?hn ?hr ?_;(case ho=>rfl);(case hg=>rfl);(case hn=>rfl);(case hr=>first | (go_simp;done) | (go_simp;rfl));intro w9 hw9;have hne:b12 ≠ g6:=(by have:=HG6.out;rw [G12.out];omega);have HB9:=am (show Below wr.heap.size wr w9 by rw [hw9];exact HB8.out.setCell (p:=⟨g6,i,none⟩) HGB.out _);have Y9:=am (show w9.heap[b12]? = some (.cells #[.int .i64 gw,.int .i64 gh,.slice (some ⟨g6,0,none⟩) cs.length c6] 75 (0,0)) by rw [hw9];exact blk_far Y8.out hne _);have HO9:=am (show Kd.R (Kd.int .u8) 5 w9 wr.heap.size (fun _=>True) (.slice (some ⟨g6,0,none⟩) cs.length c6) (cs.set i 46) by rw [hw9];have h:=Kd.R_putn HO8.out (i:Int) (46:Int);rw [Int.toNat_natCast] at h;exact h);clear hw9 hne z2 hsa hsf))
   have hQ9:Below w5.heap.size w5 _:=below_step HQ.out HB9.out
   have HQ9:=am hQ9
   have HS9:=am (Kd.R_below HS.out HB9.out)
   have HX9:=am (blk_below (blk_below X5.out HQ.out) HB9.out)
   have z0:=(blk_cell Y9.out 0).trans (show _ = some (.int .i64 gw) from rfl)
   have z1:=(blk_cell Y9.out 1).trans (show _ = some (.int .i64 gh) from rfl)
   have z2:=(blk_cell Y9.out 2).trans (show _ = some (.slice (some ⟨g6,0,none⟩) cs.length c6) from rfl)
   have z3:=(blk_cell HX9.out 1).trans (show _ = some (.string a0_1) from rfl)
   have z4:=(blk_cell HX9.out 2).trans (show _ = some (.int .i64 a0_2) from rfl)
   clear hQ9
   refine start_ (n:=15) (S:=fun w'=>w'.cell? ⟨b12,0,none⟩ = some (.int .i64 gw) ∧ w'.cell? ⟨b12,1,none⟩ = some (.int .i64 gh) ∧ w'.cell? ⟨b12,2,none⟩ = some (.slice (some ⟨g6,0,none⟩) cs.length c6) ∧ w'.cell? ⟨b1,1,none⟩ = some (.string a0_1) ∧ w'.cell? ⟨b1,2,none⟩ = some (.int .i64 a0_2)) (ds:=[]) (bm 15 0) k_r rfl rfl ⟨z0,z1,z2,z3,z4⟩ (fun hHeld=>?_)
   refine take_ (i:=0) (N:=some 47) (v:=?_) (a':=?_) (bm 15 1) rfl rfl k_r (fun _ _ _ h=>h) (Or.inl ⟨by rfl,?_⟩) hHeld ?_ ?_
   rotate_left
   ·rintro w' ⟨s_0,s_1,s_2,s_3,s_4⟩
    go_simp
    try with_reducible rfl
   rotate_left
   ·simp only [Act.put,ac_]
    rfl
   refine take_ (i:=2) (N:=some 49) (v:=?_) (a':=?_) (bm 15 5) rfl rfl k_r (fun _ _ _ h=>h) (Or.inl ⟨by rfl,?_⟩) hHeld ?_ ?_
   rotate_left
   ·rintro w' ⟨s_0,s_1,s_2,s_3,s_4⟩
    go_simp
    try with_reducible rfl
   rotate_left
   ·simp only [Act.put,ac_]
    rfl
   refine take_ (i:=3) (N:=some 50) (v:=?_) (a':=?_) (bm 15 13) rfl rfl k_r (fun _ _ _ h=>h) (Or.inl ⟨by rfl,?_⟩) hHeld ?_ ?_
   rotate_left
   ·rintro w' ⟨s_0,s_1,s_2,s_3,s_4⟩
    go_simp
    try with_reducible rfl
   rotate_left
   ·simp only [Act.put,ac_]
    rfl
   refine take_ (i:=4) (N:=some 51) (v:=?_) (a':=?_) (bm 15 29) rfl rfl k_r (fun _ _ _ h=>h) (Or.inl ⟨by rfl,?_⟩) hHeld ?_ ?_
   rotate_left
   ·rintro w' ⟨s_0,s_1,s_2,s_3,s_4⟩
    go_simp
    try with_reducible rfl
   rotate_left
   ·simp only [Act.put,ac_]
    rfl
   refine take_ (i:=5) (N:=some 52) (v:=?_) (a':=?_) (bm 15 61) rfl rfl k_r (fun _ _ _ h=>h) (Or.inl ⟨by rfl,?_⟩) hHeld ?_ ?_
   rotate_left
   ·rintro w' ⟨s_0,s_1,s_2,s_3,s_4⟩
    go_simp
    try with_reducible rfl
   rotate_left
   ·simp only [Act.put,ac_]
    rfl
   refine one_ (i:=1) (N:=some 48) (bm 15 63) rfl rfl k_r d_c (fun K' hK'=>?_)
   refine goes_ Tryz.func65 k_r rfl #[.agg #[.int .i64 gw,.int .i64 gh,.slice (some ⟨g6,0,none⟩) cs.length c6]] (by rfl) rfl rfl (by (try simp only [List.map_toArray,List.map_cons,List.map_nil]);first | done | rfl) ?_
   refine (show Calls Tryz.prog 65 #[.agg #[.int .i64 gw,.int .i64 gh,.slice (some ⟨g6,0,none⟩) cs.length c6]] _ (fun e w'=>e = .returned (.string tx) ∧ Below _ _ w') from by
    have h:=spec_tyText.calls KT gw gh (some ⟨g6,0,none⟩) c6 (cs.set i 46) tx _ (Kd.R_reads' (Kd.R_drew HO9.out)).2.2 (by rw [List.length_set];exact (Kd.R_reads' HO9.out).2.1) HTX.out
    rw [List.length_set] at h
    exact h).mono ?_
   rintro e w10 ⟨rfl,hb10⟩
   have HX10:=am (blk_below (blk_drew HX9.out) hb10)
   have HY10:=am (blk_below (blk_drew Y9.out) hb10)
   have HQ10:=am (below_step (below_drew1 HQ9.out) hb10)
   have HS10:=am (Kd.R_below (Kd.R_drew HS9.out) hb10)
   refine ⟨_,rfl,?_⟩
   refine hK'.out _ _ ⟨(blk_cell HY10.out 0).trans rfl,(blk_cell HY10.out 1).trans rfl,(blk_cell HY10.out 2).trans rfl,(blk_cell HX10.out 1).trans rfl,(blk_cell HX10.out 2).trans rfl⟩ (fun hHeld=>?_)
   clear hK' K' hb10 z0 z1 z2 z3 z4
   refine nm (some 48) ?_
   refine take_ (i:=6) (N:=some 53) (v:=?_) (a':=?_) (bm 15 127) rfl rfl k_r (fun _ _ _ h=>h) (Or.inl ⟨by rfl,?_⟩) hHeld ?_ ?_
   rotate_left
   ·rintro w' ⟨s_0,s_1,s_2,s_3,s_4⟩
    go_simp
    try with_reducible rfl
   rotate_left
   ·simp only [Act.put,ac_]
    rfl
   refine one_ (i:=7) (N:=some 54) (bm 15 255) rfl rfl k_r d_c (fun K' hK'=>?_)
   refine goes_ Tryz.func53 k_r rfl #[.agg #[.string tx,.string a0_1,.int .i64 a0_2]] (by rfl) rfl rfl (by (try simp only [List.map_toArray,List.map_cons,List.map_nil]);first | done | rfl) ?_
   refine (HPU.out _).mono ?_
   rintro e w11 ⟨v11,rfl,_,hb11⟩
   have HX11:=am (blk_below HX10.out hb11)
   have HY11:=am (blk_below HY10.out hb11)
   have HQ11:=am (below_step HQ10.out hb11)
   have HS11:=am (Kd.R_below HS10.out hb11)
   refine ⟨_,rfl,?_⟩
   refine hK'.out _ _ ⟨(blk_cell HY11.out 0).trans rfl,(blk_cell HY11.out 1).trans rfl,(blk_cell HY11.out 2).trans rfl,(blk_cell HX11.out 1).trans rfl,(blk_cell HX11.out 2).trans rfl⟩ (fun hHeld=>?_)
   clear hK' K' hb11
   refine nm (some 54) ?_
   refine take_ (i:=8) (N:=some 46) (v:=?_) (a':=?_) (bm 15 511) rfl rfl k_r (fun _ _ _ h=>h) (Or.inl ⟨by rfl,?_⟩) hHeld ?_ ?_
   rotate_left
   ·rintro w' ⟨s_0,s_1,s_2,s_3,s_4⟩
    go_simp
    try with_reducible rfl
   rotate_left
   ·simp only [Act.put,ac_]
    rfl
   refine take_ (i:=9) (N:=some 55) (v:=?_) (a':=?_) (bm 15 1023) rfl rfl k_r (fun _ _ _ h=>h) (Or.inl ⟨by rfl,?_⟩) hHeld ?_ ?_
   rotate_left
   ·rintro w' ⟨s_0,s_1,s_2,s_3,s_4⟩
    go_simp
    try with_reducible rfl
   rotate_left
   ·simp only [Act.put,ac_]
    rfl
   refine take_ (i:=10) (N:=some 56) (v:=?_) (a':=?_) (bm 15 2047) rfl rfl k_r (fun _ _ _ h=>h) (Or.inl ⟨by rfl,?_⟩) hHeld ?_ ?_
   rotate_left
   ·rintro w' ⟨s_0,s_1,s_2,s_3,s_4⟩
    go_simp
    try with_reducible rfl
   rotate_left
   ·simp only [Act.put,ac_]
    rfl
   refine take_ (i:=11) (N:=some 57) (v:=?_) (a':=?_) (bm 15 4095) rfl rfl k_r (fun _ _ _ h=>h) (Or.inl ⟨by rfl,?_⟩) hHeld ?_ ?_
   rotate_left
   ·rintro w' ⟨s_0,s_1,s_2,s_3,s_4⟩
    go_simp
    try with_reducible rfl
   rotate_left
   ·simp only [Act.put,ac_]
    rfl
   refine take_ (i:=12) (N:=some 13) (v:=?_) (a':=?_) (bm 15 8191) rfl rfl k_r (fun _ _ _ h=>h) (Or.inl ⟨by rfl,?_⟩) hHeld ?_ ?_
   rotate_left
   ·rintro w' ⟨s_0,s_1,s_2,s_3,s_4⟩
    go_simp
    try with_reducible rfl
   rotate_left
   ·simp only [Act.put,ac_]
    rfl
   refine take_ (i:=13) (N:=some 14) (v:=?_) (a':=?_) (bm 15 16383) rfl rfl k_r (fun _ _ _ h=>h) (Or.inl ⟨by rfl,?_⟩) hHeld ?_ ?_
   rotate_left
   ·rintro w' ⟨s_0,s_1,s_2,s_3,s_4⟩
    go_simp
    try with_reducible rfl
   rotate_left
   ·simp only [Act.put,ac_]
    rfl
   refine take_ (i:=14) (N:=some 15) (v:=?_) (a':=?_) (bm 15 32767) rfl rfl k_r (fun _ _ _ h=>h) (Or.inl ⟨by rfl,?_⟩) hHeld ?_ ?_
   rotate_left
   ·rintro w' ⟨s_0,s_1,s_2,s_3,s_4⟩
    go_simp
    try with_reducible rfl
   rotate_left
   ·simp only [Act.put,ac_]
    rfl
   refine done_ k_r ?_
   clear hHeld HX9 HX10 HY10 HX11 HY11 Y9 HQ9 HQ10 HS9 HS10 HO9 HB9 HRC HCP HTX HPU
   cases p2 with
   | true =>
    by_cases hpq:p1 = q1
    rotate_left
    ·have hpq1:(p1 == q1) = false:=beq_eq_false_iff_ne.2 hpq
     have HSU2:=am (show needL gw gh cs a0_1 a0_2 q1 (i + 1) = NL by rw [HSU.out,HNB2.out,decide_eq_false hpq];exact if_neg Bool.false_ne_true)
     clear hpq
     go_wp2
     go_roundw
     case rel=>exact ⟨i + 1,HL.out,by first | rfl | simp,⟨by rw [HSU2.out];exact HS11.out⟩,HQ11⟩
     case measure=>have:=HL.out;simp [intOf];omega
    have hpq1:(p1 == q1) = true:=beq_iff_eq.2 hpq
    have HSU2:=am (show needL gw gh cs a0_1 a0_2 q1 (i + 1) = NL ++ [(i:Int)] by rw [HSU.out,HNB2.out,decide_eq_true hpq];exact if_pos rfl)
    clear hpq
    go_wp2_with (first
     | ((with_reducible refine gate_builtin (b:=.append) (xs:=#[.tmp 64,.tmp 66]) rfl ?_);at_builtin;refine Kd.R_append (Kd.int .i64) (w0:=w5) w5.heap.size rfl (.tmp 64) (.tmp 66) 40 3 (.int .i64 0) 8 rfl Tryz.underlying40 info3 rfl d_c o_m (.slice A9 NL.length c9) NL (i:Int) [.int .i64 i] (fun _=>True) (fun _=>False) rfl rfl ?aP (fun _ hk=>hk.elim) ?aF ?aO ?aB ?aS ?aL ?_;(case aP=>exact rfl);(case aB=>exact HQ11.out);(case aF=>exact (fun _ _=>trivial));(case aO=>exact HS11.out);(case aS=>exact HQ11.out.size);(case aL=>exact HAL.out);intro v12 w12 ho12 hb12 hg12 hat12;have HO12:=am ho12;have HB12:=am hb12;clear ho12 hb12 hg12 hat12))
    go_roundw
    case rel=>exact ⟨i + 1,HL.out,by first | rfl | simp,⟨by rw [HSU2.out];exact HO12.out⟩,HB12⟩
    case measure=>have:=HL.out;simp [intOf];omega
   | false =>
    have HSU2:=am (show needL gw gh cs a0_1 a0_2 q1 (i + 1) = NL by rw [HSU.out,HNB2.out];exact if_neg Bool.false_ne_true)
    go_wp2
    go_roundw
    case rel=>exact ⟨i + 1,HL.out,by first | rfl | simp,⟨by rw [HSU2.out];exact HS11.out⟩,HQ11⟩
    case measure=>have:=HL.out;simp [intOf];omega
end Go.Proofs.YtldhkbiomingbaaGreatDoor.F

namespace Go.Proofs.YtldhkbiomingbaaGreatDoor.F
open Go.Proofs.YtldhkbiomingbaaGreatDoor
open Go.RowKit Go.YW.PrintWords Go.YW.PrintLast Go.YW.PrintMore
attribute [local go_sem] max2_int min2_int max_two min_two max_three min_three max_four min_four
def laws_eqIntS.l0:Nat → List Int → List Int → Int → Option (Bool)
 | 0,_,_,_=>none
 | k + 1,x0,x1,x5=>if x5 < (x0.length:Int) then (if 0 ≤ x5 then (if x5 < (x1.length:Int) then (if (rd x0 x5) = (rd x1 x5) then (laws_eqIntS.l0 k x0 x1 (wrap64 (x5 + 1))) else (some false)) else (none)) else (none)) else (some true)
def laws_eqIntS.f (k:Nat) (l0:List Int) (l1:List Int):Option (Bool):=if (l0.length:Int) = (l1.length:Int) then (laws_eqIntS.l0 k l0 l1 0) else (some false)
theorem laws_eqIntS.mono_l:∀ k,(∀ y0 y1 y2,LeO (laws_eqIntS.l0 k y0 y1 y2) (laws_eqIntS.l0 (k + 1) y0 y1 y2))
 | 0=>fun _ _ _ r h=>by simp [laws_eqIntS.l0] at h
 | k + 1=>by
  have ih0:=laws_eqIntS.mono_l k
  ·intro y0 y1 y2
   unfold laws_eqIntS.l0
   exact mo
theorem laws_eqIntS.mono:∀ a0 a1 k,LeO (laws_eqIntS.f k a0 a1) (laws_eqIntS.f (k + 1) a0 a1):=by
 intro a0 a1 k
 have ih0:=laws_eqIntS.mono_l k
 unfold laws_eqIntS.f
 exact mo
theorem laws_eqIntS.calls (k:Nat) (A0:Option Addr) (c0:Nat) (l0:List Int) (A1:Option Addr) (c1:Nat) (l1:List Int) (r:Bool) (w:World) (hr0:Kd.C (Kd.int .i64) w A0 l0.length l0) (hc0:l0.length ≤ c0) (hr1:Kd.C (Kd.int .i64) w A1 l1.length l1) (hc1:l1.length ≤ c1) (h:laws_eqIntS.f k l0 l1 = some r) :
  Calls Tryz.prog 31 #[.slice A0 l0.length c0,.slice A1 l1.length c1] w fun e w'=>e = .returned (.bool r) ∧ Drawn0 w w':=by
 have HR0:=am hr0
 have HC0:=am hc0
 clear hr0 hc0
 have HR1:=am hr1
 have HC1:=am hc1
 clear hr1 hc1
 have H:(if (l0.length:Int) = (l1.length:Int) then (laws_eqIntS.l0 k l0 l1 0) else (some false)) = some r:=h
 clear h
 by_cases c3:(l0.length:Int) = (l1.length:Int)
 rotate_left
 ·rw [if_neg c3] at H
  have c3b0:=beq_eq_false_iff_ne.mpr c3
  have c3b1:=bne_iff_ne.mpr c3
  have c3b2:(l0.length == l1.length) = false:=by first | simpa using c3 | (simp at c3 ⊢;omega)
  obtain rfl:=Option.some.inj H
  go_enter Tryz.func31,Tryz.ntmps31
  go_wp2
  repeat (go_quiet (fail);try go_wp2)
  go_ret
  exact ⟨aq8,aq16⟩
 rw [if_pos c3] at H
 have c3b0:=beq_iff_eq.mpr c3
 have c3b1:=bne_eq_false_iff_eq.mpr c3
 have c3b2:(l0.length == l1.length) = true:=by first | simpa using c3 | (simp at c3 ⊢;omega)
 clear c3
 have H':=am H
 clear H
 go_enter Tryz.func31,Tryz.ntmps31
 go_wp2
 repeat (go_quiet (fail);try go_wp2)
 go_loopg [5] k (fun kq v5 w'=>∃ (x5_1:Int),v5 = .int .i64 x5_1 ∧ Aside0 (laws_eqIntS.l0 kq l0 l1 x5_1 = some r) ∧ Aside0 (kq ≤ k) ∧ Drawn0 w w')
 case atStart=>exact ⟨(0),aq8,H',⟨Nat.le_refl _⟩,aq16⟩
 case round =>
  clear H'
  try clear c1
  try clear p2
  try clear c3
  try clear c3b0
  try clear c3b1
  try clear c3b2
  obtain ⟨x5_1,rfl,HA,HK1,⟨m1,rfl⟩⟩:=hrel
  cases gk with
  | zero=>exact absurd HA.out (by simp [laws_eqIntS.l0])
  | succ k1 =>
   have H:=HA.out
   clear HA
   simp only [laws_eqIntS.l0] at H
   by_cases c4:x5_1 < (l0.length:Int)
   rotate_left
   ·rw [if_neg c4] at H
    have c4b0:=decide_eq_false c4
    clear c4
    obtain rfl:=Option.some.inj H
    go_wp2
    repeat (go_quiet (fail);try go_wp2)
    go_ret
    exact ⟨aq8,aq16⟩
   rw [if_pos c4] at H
   have c4b0:=decide_eq_true c4
   clear c4
   replace H:=gd H
   obtain ⟨c5,H⟩:=H
   have c5b0:=decide_eq_true c5
   clear c5
   replace H:=gd H
   obtain ⟨c6,H⟩:=H
   have c6b0:=decide_eq_true c6
   clear c6
   by_cases c7:(rd l0 x5_1) = (rd l1 x5_1)
   rotate_left
   ·rw [if_neg c7] at H
    have c7b0:=beq_eq_false_iff_ne.mpr c7
    have c7b1:=bne_iff_ne.mpr c7
    obtain rfl:=Option.some.inj H
    have p101:0 ≤ (x5_1:Int):=of_decide_eq_true aq6
    have q101:x5_1 < (l0.length:Int):=of_decide_eq_true aq6
    obtain ⟨ad101,e101,hx101_0⟩:=Kd.at_int HR0.out x5_1 p101 q101
    cases e101
    replace p101:=eq_true p101
    replace q101:=eq_true q101
    have p102:0 ≤ (x5_1:Int):=of_decide_eq_true aq6
    have q102:x5_1 < (l1.length:Int):=of_decide_eq_true aq6
    obtain ⟨ad102,e102,hx102_0⟩:=Kd.at_int HR1.out x5_1 p102 q102
    cases e102
    replace p102:=eq_true p102
    replace q102:=eq_true q102
    go_wp2
    repeat (go_quiet (fail);try go_wp2)
    go_ret
    exact ⟨aq8,aq16⟩
   rw [if_pos c7] at H
   have c7b0:=beq_iff_eq.mpr c7
   have c7b1:=bne_eq_false_iff_eq.mpr c7
   clear c7
   have H':=am H
   clear H
   have p101:0 ≤ (x5_1:Int):=of_decide_eq_true aq6
   have q101:x5_1 < (l0.length:Int):=of_decide_eq_true aq6
   obtain ⟨ad101,e101,hx101_0⟩:=Kd.at_int HR0.out x5_1 p101 q101
   cases e101
   replace p101:=eq_true p101
   replace q101:=eq_true q101
   have p102:0 ≤ (x5_1:Int):=of_decide_eq_true aq6
   have q102:x5_1 < (l1.length:Int):=of_decide_eq_true aq6
   obtain ⟨ad102,e102,hx102_0⟩:=Kd.at_int HR1.out x5_1 p102 q102
   cases e102
   replace p102:=eq_true p102
   replace q102:=eq_true q102
   go_wp2
   repeat (go_quiet (fail);try go_wp2)
   go_roundg k1
   case measure=>have:=HK1.out;omega
   case rel=>exact ⟨(wrap64 (x5_1 + 1)),aq8,H',⟨aq63⟩,aq16⟩
def laws_markIntS.l0:Nat → List Int → Int → Int → Option (Int × List Int)
 | 0,_,_,_=>none
 | k + 1,x0,x1,x5=>if x5 < (x0.length:Int) then (if 0 ≤ x5 then (laws_markIntS.l0 k (x0.set (x5:Int).toNat x1) (wrap64 (x1 + 1)) (wrap64 (x5 + 1))) else (none)) else (some (x1,x0))
def laws_markIntS.f (k:Nat) (l0:List Int) (a1:Int):Option (Int × List Int):=laws_markIntS.l0 k l0 a1 0
theorem laws_markIntS.mono_l:∀ k,(∀ y0 y1 y2,LeO (laws_markIntS.l0 k y0 y1 y2) (laws_markIntS.l0 (k + 1) y0 y1 y2))
 | 0=>fun _ _ _ r h=>by simp [laws_markIntS.l0] at h
 | k + 1=>by
  have ih0:=laws_markIntS.mono_l k
  ·intro y0 y1 y2
   unfold laws_markIntS.l0
   exact mo
theorem laws_markIntS.mono:∀ a0 a1 k,LeO (laws_markIntS.f k a0 a1) (laws_markIntS.f (k + 1) a0 a1):=by
 intro a0 a1 k
 have ih0:=laws_markIntS.mono_l k
 unfold laws_markIntS.f
 exact mo
theorem laws_markIntS.calls (k:Nat) (P0_:Nat → Prop) (u9000_:Value) (l0:List Int) (a1:Int) (r1:Int) (r2:List Int) (w0 w:World) (hB:Below w0.heap.size w0 w) (ho0:Kd.R (Kd.int .i64) 3 w w0.heap.size P0_ u9000_ l0) (h:laws_markIntS.f k l0 a1 = some (r1,r2)) :
  Calls Tryz.prog 32 #[u9000_,.int .i64 a1] w fun e w'=>e = .returned (.int .i64 r1) ∧ Kd.R (Kd.int .i64) 3 w' w0.heap.size (fun k_=>(P0_ k_ ∨ w.heap.size ≤ k_)) u9000_ r2 ∧ Below w0.heap.size w0 w' ∧ Kept w w' (fun k_=>P0_ k_):=by
 have HO0:=am (show Kd.R (Kd.int .i64) 3 w w0.heap.size (fun k_=>(P0_ k_ ∨ w.heap.size ≤ k_)) u9000_ l0 from Kd.R_mono ho0 (fun k_ hk=>(.inl hk)))
 have HK:=am (Kept.refl w (fun k_=>P0_ k_))
 have HW0:=am hB.size
 have HB:=am hB
 clear hB
 have H:(laws_markIntS.l0 k l0 a1 0) = some (r1,r2):=h
 clear h
 have H':=am H
 clear H
 go_enter Tryz.func32,Tryz.ntmps32
 go_wp2
 go_loopg [1,5] k (fun kq v1 v5 w'=>∃ (x0_1:List Int) (x1_1:Int) (x5_1:Int),v1 = .int .i64 x1_1 ∧ v5 = .int .i64 x5_1 ∧ Aside0 (laws_markIntS.l0 kq x0_1 x1_1 x5_1 = some (r1,r2)) ∧ Aside0 (kq ≤ k) ∧ Aside0 (Kd.R (Kd.int .i64) 3 w' w0.heap.size (fun k_=>(P0_ k_ ∨ w.heap.size ≤ k_)) u9000_ x0_1) ∧ Aside0 (Kept w w' (fun k_=>P0_ k_)) ∧ Aside0 (Below w0.heap.size w0 w'))
 case atStart=>exact ⟨(l0),(a1),(0),aq8,aq8,H',⟨Nat.le_refl _⟩,⟨by (with_reducible repeat (first | apply Kd.R_alloc | apply Kd.R_drewN | apply Kd.R_drew));exact HO0.out⟩,⟨aq44⟩,⟨aq2⟩⟩
 case round =>
  clear H'
  try clear p2
  obtain ⟨x0_1,x1_1,x5_1,rfl,rfl,HA,HK1,HO_0,HK,HB⟩:=hrel
  cases gk with
  | zero=>exact absurd HA.out (by simp [laws_markIntS.l0])
  | succ k1 =>
   have H:=HA.out
   clear HA
   simp only [laws_markIntS.l0] at H
   by_cases c3:x5_1 < (x0_1.length:Int)
   rotate_left
   ·rw [if_neg c3] at H
    have c3b0:=decide_eq_false c3
    clear c3
    simp only [Option.some.injEq,Prod.mk.injEq] at H
    obtain ⟨rfl,rfl⟩:=H
    obtain ⟨Ao9,co9,eo9⟩:=Kd.R_slice HO_0.out
    subst eo9
    go_wp2
    go_ret
    exact ⟨aq7,aq67,aq2,aq44⟩
   rw [if_pos c3] at H
   have c3b0:=decide_eq_true c3
   clear c3
   replace H:=gd H
   obtain ⟨c4,H⟩:=H
   have c4b0:=decide_eq_true c4
   clear c4
   obtain ⟨y101,hy_⟩:∃ y_:List Int,y_ = (x0_1.set (x5_1:Int).toNat x1_1):=⟨_,rfl⟩
   replace H:(laws_markIntS.l0 k1 y101 (wrap64 (x1_1 + 1)) (wrap64 (x5_1 + 1))) = some (r1,r2):=aq5
   have Ny101:=am hy_
   clear hy_
   have H':=am H
   clear H
   obtain ⟨Ao6,co6,eo6⟩:=Kd.R_slice HO_0.out
   subst eo6
   have p5:0 ≤ (x5_1:Int):=of_decide_eq_true aq6
   have q5:(x5_1:Int) < ((x0_1.length:Int):Int):=of_decide_eq_true aq6
   obtain ⟨go5,co5,eo5,gb5,gl5,cl5,HG5⟩:=Kd.R_form HO_0.out o_m
   (first | cases eo5 | (injection eo5 with ea_ en_ ec_;(first | subst ea_ | (injection ea_ with ea_;subst ea_));subst ec_;clear en_))
   have GB5:=am gb5
   have GG5:=am HG5
   clear gb5 gl5 HG5
   have HMgo5:=am (show (P0_ go5 ∨ w.heap.size ≤ go5) from (HO_0.out.1 _ rfl))
   obtain ⟨hx5_0,hf5_0⟩:=Kd.R_celln 0 HO_0.out (x5_1:Int) p5 q5
   replace p5:=eq_true p5
   replace q5:=eq_true q5
   have HP7:=Kd.R_putg HO_0.out (x5_1:Int) x1_1
   go_wp2_with (first | ((with_reducible refine gate_store (t:=3) (p:=15) rfl ?_);refine store_event (t:=3) (p:=15) (v:=?vo_w8) (w1:=(wr.setCell ⟨go5,(x5_1:Int).toNat,none⟩ (.int .i64 x1_1))) ?hg ?ho ?hn ?hr ?_;(case ho=>rfl);(case hg=>rfl);(case hn=>rfl);(case hr=>exact aq12);intro w8 hw;have hg:wr.grownBy w8 (some go5):=(by rw [hw];exact HP7.2);have hp_:Kd.R (Kd.int .i64) 3 w8 w0.heap.size (fun k_=>(P0_ k_ ∨ w.heap.size ≤ k_)) (.slice (some ⟨go5,0,none⟩) x0_1.length co6) y101:=(by rw [hw,Ny101.out];exact HP7.1);clear HP7;replace HB:=am ((by rw [hw];exact below_set (HB.out) GB5.out:Below w0.heap.size w0 w8));replace HK:=am (Kept.of_grown (S:=(fun k_=>P0_ k_)) hg aq44 (fun k_ e_=>(HO_0.out.1 k_ e_)));replace HO_0:=am (hp_);clear hg hw hp_))
   go_roundg k1
   case measure=>have:=HK1.out;omega
   case rel=>exact ⟨(y101),(wrap64 (x1_1 + 1)),(wrap64 (x5_1 + 1)),aq8,aq8,H',⟨aq63⟩,⟨aq67⟩,⟨aq44⟩,⟨aq2⟩⟩
def laws_heldIntS.l0:Nat → List Int → Int → Int → Option (Int)
 | 0,_,_,_=>none
 | k + 1,x0,x1,x5=>if x5 < (x0.length:Int) then (if 0 ≤ x5 then (if (rd x0 x5) = x1 then (laws_heldIntS.l0 k x0 (wrap64 (x1 + 1)) (wrap64 (x5 + 1))) else (some (-1))) else (none)) else (some x1)
def laws_heldIntS.f (k:Nat) (l0:List Int) (a1:Int):Option (Int):=laws_heldIntS.l0 k l0 a1 0
theorem laws_heldIntS.mono_l:∀ k,(∀ y0 y1 y2,LeO (laws_heldIntS.l0 k y0 y1 y2) (laws_heldIntS.l0 (k + 1) y0 y1 y2))
 | 0=>fun _ _ _ r h=>by simp [laws_heldIntS.l0] at h
 | k + 1=>by
  have ih0:=laws_heldIntS.mono_l k
  ·intro y0 y1 y2
   unfold laws_heldIntS.l0
   exact mo
theorem laws_heldIntS.mono:∀ a0 a1 k,LeO (laws_heldIntS.f k a0 a1) (laws_heldIntS.f (k + 1) a0 a1):=by
 intro a0 a1 k
 have ih0:=laws_heldIntS.mono_l k
 unfold laws_heldIntS.f
 exact mo
theorem laws_heldIntS.calls (k:Nat) (A0:Option Addr) (c0:Nat) (l0:List Int) (a1:Int) (r:Int) (w:World) (hr0:Kd.C (Kd.int .i64) w A0 l0.length l0) (hc0:l0.length ≤ c0) (h:laws_heldIntS.f k l0 a1 = some r) :
  Calls Tryz.prog 33 #[.slice A0 l0.length c0,.int .i64 a1] w fun e w'=>e = .returned (.int .i64 r) ∧ Drawn0 w w':=by
 have HR0:=am hr0
 have HC0:=am hc0
 clear hr0 hc0
 have H:(laws_heldIntS.l0 k l0 a1 0) = some r:=h
 clear h
 have H':=am H
 clear H
 go_enter Tryz.func33,Tryz.ntmps33
 go_wp2
 go_loopg [1,5] k (fun kq v1 v5 w'=>∃ (x1_1:Int) (x5_1:Int),v1 = .int .i64 x1_1 ∧ v5 = .int .i64 x5_1 ∧ Aside0 (laws_heldIntS.l0 kq l0 x1_1 x5_1 = some r) ∧ Aside0 (kq ≤ k) ∧ Drawn0 w w')
 case atStart=>exact ⟨(a1),(0),aq8,aq8,H',⟨Nat.le_refl _⟩,aq16⟩
 case round =>
  clear H'
  try clear p2
  obtain ⟨x1_1,x5_1,rfl,rfl,HA,HK1,⟨m1,rfl⟩⟩:=hrel
  cases gk with
  | zero=>exact absurd HA.out (by simp [laws_heldIntS.l0])
  | succ k1 =>
   have H:=HA.out
   clear HA
   simp only [laws_heldIntS.l0] at H
   by_cases c3:x5_1 < (l0.length:Int)
   rotate_left
   ·rw [if_neg c3] at H
    have c3b0:=decide_eq_false c3
    clear c3
    obtain rfl:=Option.some.inj H
    go_wp2
    go_ret
    exact ⟨aq8,aq16⟩
   rw [if_pos c3] at H
   have c3b0:=decide_eq_true c3
   clear c3
   replace H:=gd H
   obtain ⟨c4,H⟩:=H
   have c4b0:=decide_eq_true c4
   clear c4
   by_cases c5:(rd l0 x5_1) = x1_1
   rotate_left
   ·rw [if_neg c5] at H
    have c5b0:=beq_eq_false_iff_ne.mpr c5
    have c5b1:=bne_iff_ne.mpr c5
    obtain rfl:=Option.some.inj H
    have p101:0 ≤ (x5_1:Int):=of_decide_eq_true aq6
    have q101:x5_1 < (l0.length:Int):=of_decide_eq_true aq6
    obtain ⟨ad101,e101,hx101_0⟩:=Kd.at_int HR0.out x5_1 p101 q101
    cases e101
    replace p101:=eq_true p101
    replace q101:=eq_true q101
    go_wp2
    go_ret
    exact ⟨aq8,aq16⟩
   rw [if_pos c5] at H
   have c5b0:=beq_iff_eq.mpr c5
   have c5b1:=bne_eq_false_iff_eq.mpr c5
   clear c5
   have H':=am H
   clear H
   have p101:0 ≤ (x5_1:Int):=of_decide_eq_true aq6
   have q101:x5_1 < (l0.length:Int):=of_decide_eq_true aq6
   obtain ⟨ad101,e101,hx101_0⟩:=Kd.at_int HR0.out x5_1 p101 q101
   cases e101
   replace p101:=eq_true p101
   replace q101:=eq_true q101
   go_wp2
   go_roundg k1
   case measure=>have:=HK1.out;omega
   case rel=>exact ⟨(wrap64 (x1_1 + 1)),(wrap64 (x5_1 + 1)),aq8,aq8,H',⟨aq63⟩,aq16⟩
end Go.Proofs.YtldhkbiomingbaaGreatDoor.F

namespace Go.Proofs.YtldhkbiomingbaaGreatDoor.F
open Go.RowKit Go.Proofs.YtldhkbiomingbaaGreatDoor Go.YW.PrintWords Go.YW.PrintMore
theorem rdN (l:List Int) (i:Nat):rd l (i:Int) = l.getD i 0:=by unfold rd;rw [Int.toNat_natCast]
theorem eqI_l0 (l:List Int) (hl:l.length ≤ 2000000):∀ (n i:Nat),i + n = l.length → Ev (fun k=>laws_eqIntS.l0 k l l (i:Int)) true
 | 0,i,hi=>Ev.step (fun k=>by rw [laws_eqIntS.l0,if_neg o_m]) (Ev.now _)
 | n + 1,i,hi=>by
  have HW:Aside0 (wrap64 ((i:Int) + 1) = ((i + 1:Nat):Int)):=⟨by rw [w64 o_m o_m];rfl⟩
  refine Ev.step (fun k=>?_) (eqI_l0 l hl n (i + 1) o_m)
  rw [laws_eqIntS.l0,if_pos o_m,if_pos o_m,if_pos o_m,if_pos rfl,HW.out]
theorem eqI_ev (l:List Int) (hl:l.length ≤ 2000000):Ev (fun k=>laws_eqIntS.f k l l) true :=
 Ev.congr (fun k=>by rw [laws_eqIntS.f,if_pos rfl];rfl) (eqI_l0 l hl l.length 0 o_m)
def marksI (m n:Nat):List Int:=(List.range n).map fun j=>((m + j:Nat):Int)
theorem marksI_length (m n:Nat):(marksI m n).length = n:=by simp [marksI]
theorem markI_l0 (l:List Int) (m:Nat) (hl:l.length ≤ 2000000) (hm:m ≤ 5000000):∀ (n i:Nat),i + n = l.length →
  Ev (fun k=>laws_markIntS.l0 k (marksI m i ++ l.drop i) ((m + i:Nat):Int) (i:Int)) (((m + l.length:Nat):Int),marksI m l.length)
 | 0,i,hi=>by
  obtain rfl:i = l.length:=by omega
  rw [List.drop_eq_nil_of_le (Nat.le_refl _),List.append_nil]
  exact Ev.step (fun k=>by rw [laws_markIntS.l0,if_neg (by rw [marksI_length];omega)]) (Ev.now _)
 | n + 1,i,hi=>by
  have hil:i < l.length:=by omega
  have HW:Aside0 (wrap64 ((i:Int) + 1) = ((i + 1:Nat):Int)):=⟨by rw [w64 o_m o_m];rfl⟩
  have HM:Aside0 (wrap64 (((m + i:Nat):Int) + 1) = ((m + (i + 1):Nat):Int)):=⟨by rw [w64 o_m o_m];omega⟩
  have hset:(marksI m i ++ l.drop i).set i ((m + i:Nat):Int) = marksI m (i + 1) ++ l.drop (i + 1):=by
   rw [List.set_append_right _ _ (by rw [marksI_length];exact Nat.le_refl _),marksI_length,Nat.sub_self,List.drop_eq_getElem_cons hil,List.set_cons_zero]
   unfold marksI
   rw [List.range_succ,List.map_append,List.append_assoc];rfl
  have ih:=markI_l0 l m hl hm n (i + 1) o_m
  rw [← hset] at ih
  refine Ev.step (fun k=>?_) ih
  rw [laws_markIntS.l0,if_pos (by rw [List.length_append,marksI_length,List.length_drop];omega),if_pos o_m,HW.out,HM.out,Int.toNat_natCast]
theorem markI_ev (l:List Int) (m:Nat) (hl:l.length ≤ 2000000) (hm:m ≤ 5000000):Ev (fun k=>laws_markIntS.f k l (m:Int)) (((m + l.length:Nat):Int),marksI m l.length):=by
 have h0:=markI_l0 l m hl hm l.length 0 o_m
 exact h0
theorem heldI_l0 (m n:Nat) (hn:n ≤ 2000000) (hm:m ≤ 5000000):∀ (d i:Nat),i + d = n → Ev (fun k=>laws_heldIntS.l0 k (marksI m n) ((m + i:Nat):Int) (i:Int)) ((m + n:Nat):Int)
 | 0,i,hi=>by
  obtain rfl:i = n:=by omega
  exact Ev.step (fun k=>by rw [laws_heldIntS.l0,if_neg (by rw [marksI_length];omega)]) (Ev.now _)
 | d + 1,i,hi=>by
  have HW:Aside0 (wrap64 ((i:Int) + 1) = ((i + 1:Nat):Int)):=⟨by rw [w64 o_m o_m];rfl⟩
  have HM:Aside0 (wrap64 (((m + i:Nat):Int) + 1) = ((m + (i + 1):Nat):Int)):=⟨by rw [w64 o_m o_m];omega⟩
  have hget:rd (marksI m n) (i:Int) = ((m + i:Nat):Int):=by
   rw [rdN];unfold marksI
   rw [List.getD_eq_getElem?_getD,List.getElem?_map,List.getElem?_range o_m];rfl
  refine Ev.step (fun k=>?_) (heldI_l0 m n hn hm d (i + 1) o_m)
  rw [laws_heldIntS.l0,if_pos (by rw [marksI_length];omega),if_pos o_m,hget,if_pos rfl,HW.out,HM.out]
theorem heldI_ev (m n:Nat) (hn:n ≤ 2000000) (hm:m ≤ 5000000):Ev (fun k=>laws_heldIntS.f k (marksI m n) (m:Int)) ((m + n:Nat):Int):=by
 have h0:=heldI_l0 m n hn hm n 0 o_m
 exact h0
end Go.Proofs.YtldhkbiomingbaaGreatDoor.F

namespace Go.Proofs.YtldhkbiomingbaaGreatDoor.F
open Go.Proofs.YtldhkbiomingbaaGreatDoor
open Go.RowKit Go.YW.PrintWords Go.YW.PrintLast Go.YW.PrintMore
attribute [local go_sem] max2_int min2_int max_two min_two max_three min_three max_four min_four
def impl_tray_with.f (a0_0:Int) (a0_1:Int) (l0_2:List Int) (a1:Int) (a2:Int):Option (Int × Int × List Int):=(impl_tray_own.f a0_0 a0_1 l0_2).bind fun bt103=>(if 0 ≤ a1 then (if a1 < (bt103.2.2.length:Int) then (some (bt103.1,bt103.2.1,(bt103.2.2.set (a1:Int).toNat a2))) else (none)) else (none))
theorem impl_tray_with.calls (a0_0:Int) (a0_1:Int) (A0_2:Option Addr) (c0_2:Nat) (l0_2:List Int) (a1:Int) (a2:Int) (r1:Int) (r2:Int) (r3:List Int) (w:World) (hr0_2:Kd.C (Kd.int .u8) w A0_2 l0_2.length l0_2) (hc0_2:l0_2.length ≤ c0_2) (h:impl_tray_with.f a0_0 a0_1 l0_2 a1 a2 = some (r1,r2,r3)) :
  Calls Tryz.prog 66 #[.agg #[.int .i64 a0_0,.int .i64 a0_1,.slice A0_2 l0_2.length c0_2],.int .i64 a1,.int .u8 a2] w fun e w'=>∃ v2_:Value,e = .returned (.agg #[.int .i64 r1,.int .i64 r2,v2_]) ∧ Kd.R (Kd.int .u8) 5 w' w.heap.size (fun _=>True) v2_ r3 ∧ Below w.heap.size w w':=by
 have hu65:=Tryz.underlying65
 have HR0_2:=am hr0_2
 have HC0_2:=am hc0_2
 clear hr0_2 hc0_2
 have HB:=am (Below.refl w.heap.size w)
 have H:((impl_tray_own.f a0_0 a0_1 l0_2).bind fun bt103=>(if 0 ≤ a1 then (if a1 < (bt103.2.2.length:Int) then (some (bt103.1,bt103.2.1,(bt103.2.2.set (a1:Int).toNat a2))) else (none)) else (none))) = some (r1,r2,r3):=h
 clear h
 replace H:=Option.bind_eq_some_iff.mp H
 obtain ⟨⟨t103,t104,t105⟩,A40,H⟩:=H
 replace H:(if 0 ≤ a1 then (if a1 < (t105.length:Int) then (some (t103,t104,(t105.set (a1:Int).toNat a2))) else (none)) else (none)) = some (r1,r2,r3):=H
 have A4:=am A40
 clear A40
 replace H:=gd H
 obtain ⟨c5,H⟩:=H
 have c5b0:=decide_eq_true c5
 clear c5
 replace H:=gd H
 obtain ⟨c6,H⟩:=H
 have c6b0:=decide_eq_true c6
 clear c6
 obtain ⟨y109,hy_⟩:∃ y_:List Int,y_ = (t105.set (a1:Int).toNat a2):=⟨_,rfl⟩
 replace H:(some (t103,t104,y109)) = some (r1,r2,r3):=aq5
 have Ny109:=am hy_
 clear hy_
 simp only [Option.some.injEq,Prod.mk.injEq] at H
 obtain ⟨rfl,rfl,rfl⟩:=H
 go_enter Tryz.func66,Tryz.ntmps66
 go_wp2_with (first | (refine bx 3 #[.int .i64 a0_0,.int .i64 a0_1,.slice A0_2 l0_2.length c0_2] 65 ?_;intro gb101 hg w8 hbox hb;have BK101:=am (hbox);have GW101:=am ((by rw [hg];exact (below_size aq2):w.heap.size ≤ gb101));have GE101:=GW101;replace HB:=am (below_step aq2 hb);clear hb hbox hg) | (refine bx 6 #[.int .i64 0,.int .i64 0,.slice none 0 0] 65 ?_;intro gb102 hg w9 hbox hb;have BK102:=am (hbox);have GW102:=am ((by rw [hg];exact (below_size aq0):w.heap.size ≤ gb102));have GE102:=GW102;replace HB:=am (below_step aq0 hb);have NB101_102:=am ((by rw [hg];exact Nat.ne_of_lt (blk_lt (g:=gb101) (o:=.cells #[.int .i64 a0_0,.int .i64 a0_1,.slice A0_2 l0_2.length c0_2] 65 (0,0)) aq1):gb101 ≠ gb102));have NB102_101:=am ((by rw [hg];exact Nat.ne_of_gt (blk_lt (g:=gb101) (o:=.cells #[.int .i64 a0_0,.int .i64 a0_1,.slice A0_2 l0_2.length c0_2] 65 (0,0)) aq1):gb102 ≠ gb101));replace BK101:=am (bb BK101 hb);clear hb hbox hg;have hnb10:=NB101_102.out;have hnc10:=NB102_101.out;obtain ⟨hcz11_0,hcz11_1,hcz11_2,hfz11_0,hfz11_1,hfz11_2⟩:=blk3_ BK101.out) | ((with_reducible refine gate_callee (f:=98) rfl ?_);refine goesL_ (some 9) rfl rfl Tryz.func98 k_r rfl #[.agg #[.int .i64 a0_0,.int .i64 a0_1,.slice A0_2 l0_2.length c0_2]] rfl aq3 ?_;(with_reducible refine (impl_tray_own.calls a0_0 a0_1 _ _ l0_2 t103 t104 t105 _ ?side1 ?side2 A4.out).mono ?_);(case side1=>exact aq11);(case side2=>exact HC0_2.out);rintro e w12 ⟨v106,rfl,ho0,hb⟩;refine ⟨_,rfl,?_⟩;have HO107:=am (Kd.R_lower ho0 (below_size aq4));replace BK101:=am (bb BK101 hb);replace BK102:=am (bb BK102 hb);replace HB:=am (below_step aq4 hb);(try clear hb);(try clear ho0)) | (refine bx 7 #[.int .i64 0,.int .i64 0,.slice none 0 0] 65 ?_;intro gb108 hg w13 hbox hb;replace HO107:=am (Kd.R_below aq64 hb);have BK108:=am (hbox);have GW108:=am ((by rw [hg];exact (below_size aq4):w.heap.size ≤ gb108));have GE108:=GW108;replace HB:=am (below_step aq4 hb);have NB101_108:=am ((by rw [hg];exact Nat.ne_of_lt (blk_lt (g:=gb101) (o:=.cells #[.int .i64 a0_0,.int .i64 a0_1,.slice A0_2 l0_2.length c0_2] 65 (0,0)) aq1):gb101 ≠ gb108));have NB108_101:=am ((by rw [hg];exact Nat.ne_of_gt (blk_lt (g:=gb101) (o:=.cells #[.int .i64 a0_0,.int .i64 a0_1,.slice A0_2 l0_2.length c0_2] 65 (0,0)) aq1):gb108 ≠ gb101));replace BK101:=am (bb BK101 hb);have NB102_108:=am ((by rw [hg];exact Nat.ne_of_lt (blk_lt (g:=gb102) (o:=.cells #[.int .i64 0,.int .i64 0,.slice none 0 0] 65 (0,0)) aq9):gb102 ≠ gb108));have NB108_102:=am ((by rw [hg];exact Nat.ne_of_gt (blk_lt (g:=gb102) (o:=.cells #[.int .i64 0,.int .i64 0,.slice none 0 0] 65 (0,0)) aq9):gb108 ≠ gb102));replace BK102:=am (bb BK102 hb);clear hb hbox hg;have hnb14:=NB108_101.out;have hnc14:=NB101_108.out;have hnb15:=NB108_102.out;have hnc15:=NB102_108.out;obtain ⟨hcz16_0,hcz16_1,hcz16_2,hfz16_0,hfz16_1,hfz16_2⟩:=blk3_ BK108.out;obtain ⟨Ao17,co17,eo17⟩:=Kd.R_slice HO107.out;subst eo17) | ((with_reducible refine gate_store (t:=65) (p:=7) rfl ?_);refine store_event (t:=65) (p:=7) (v:=?vo_w18) (w1:=(((w13.setCell ⟨gb108,0,none⟩ (.int .i64 t103)).setCell ⟨gb108,1,none⟩ (.int .i64 t104)).setCell ⟨gb108,2,none⟩ (.slice Ao17 t105.length co17))) ?hg ?ho ?hn ?hr ?_;(case ho=>rfl);(case hg=>rfl);(case hn=>rfl);(case hr=>exact aq12);intro w18 hw;have n0_:Aside0 (Kd.R (Kd.int .u8) 5 w18 w.heap.size (fun _=>True) (.slice Ao17 t105.length co17) t105):=⟨(by rw [hw];exact (by (with_reducible repeat (first | apply Kd.R_alloc | apply Kd.R_drewN | apply Kd.R_drew));exact Kd.R_mono (Kd.R_far (p:=⟨gb108,2,none⟩) (Kd.R_far (p:=⟨gb108,1,none⟩) (Kd.R_far (p:=⟨gb108,0,none⟩) (Kd.R_types HO107.out BK108.out d_c) (fun _ hk=>hk.2) (.int .i64 t103)) (fun _ hk=>hk.2) (.int .i64 t104)) (fun _ hk=>hk.2) (.slice Ao17 t105.length co17)) (fun _ hk=>trivial)))⟩;have n1_:Aside0 (w18.heap[gb101]? = some (.cells #[.int .i64 a0_0,.int .i64 a0_1,.slice A0_2 l0_2.length c0_2] 65 (0,0))):=⟨(by rw [hw];exact aq34)⟩;have n2_:Aside0 (w18.heap[gb102]? = some (.cells #[.int .i64 0,.int .i64 0,.slice none 0 0] 65 (0,0))):=⟨(by rw [hw];exact (by (with_reducible repeat (first | refine blk_drewN ?_ _ | refine blk_drew ?_ | refine blk_alloc ?_ _));refine blk_far ?_ NB102_108.out _;(with_reducible repeat (first | refine blk_drewN ?_ _ | refine blk_drew ?_ | refine blk_alloc ?_ _));refine blk_far ?_ NB102_108.out _;(with_reducible repeat (first | refine blk_drewN ?_ _ | refine blk_drew ?_ | refine blk_alloc ?_ _));refine blk_far ?_ NB102_108.out _;(with_reducible repeat (first | refine blk_drewN ?_ _ | refine blk_drew ?_ | refine blk_alloc ?_ _));exact BK102.out))⟩;have n3_:Aside0 (w18.heap[gb108]? = some (.cells #[.int .i64 t103,.int .i64 t104,.slice Ao17 t105.length co17] 65 (0,0))):=⟨(by rw [hw];exact (by (with_reducible repeat (first | refine blk_drewN ?_ _ | refine blk_drew ?_ | refine blk_alloc ?_ _));refine blk_put (cs:=#[.int .i64 t103,.int .i64 t104,.slice none 0 0]) ?_ 2 _ rfl;(with_reducible repeat (first | refine blk_drewN ?_ _ | refine blk_drew ?_ | refine blk_alloc ?_ _));refine blk_put (cs:=#[.int .i64 t103,.int .i64 0,.slice none 0 0]) ?_ 1 _ rfl;(with_reducible repeat (first | refine blk_drewN ?_ _ | refine blk_drew ?_ | refine blk_alloc ?_ _));refine blk_put (cs:=#[.int .i64 0,.int .i64 0,.slice none 0 0]) ?_ 0 _ rfl;(with_reducible repeat (first | refine blk_drewN ?_ _ | refine blk_drew ?_ | refine blk_alloc ?_ _));exact BK108.out))⟩;have n4_:Aside0 (Below w.heap.size w w18):=⟨(by rw [hw];exact aq73)⟩;clear hw HO107 BK101 BK102 BK108 HB;have HO107:=n0_;have BK101:=n1_;have BK102:=n2_;have BK108:=n3_;have HB:=n4_;clear n0_ n1_ n2_ n3_ n4_;obtain ⟨hcz19_0,hcz19_1,hcz19_2,hfz19_0,hfz19_1,hfz19_2⟩:=blk3_ BK108.out;have p7:0 ≤ (a1:Int):=of_decide_eq_true aq6;have q7:(a1:Int) < ((t105.length:Int):Int):=of_decide_eq_true aq6;obtain ⟨go7,co7,eo7,gb7,gl7,cl7,HG7⟩:=Kd.R_form HO107.out o_m;(first | cases eo7 | (injection eo7 with ea_ en_ ec_;(first | subst ea_ | (injection ea_ with ea_;subst ea_));subst ec_;clear en_));have GB7:=am gb7;have GG7:=am HG7;clear gb7 gl7 HG7;obtain ⟨hx7_0,hf7_0⟩:=Kd.R_celln 0 HO107.out (a1:Int) p7 q7;replace p7:=eq_true p7;replace q7:=eq_true q7;obtain ⟨hy20_,hz20_⟩:=Kd.R_celln 0 HO107.out (a1:Int) (of_decide_eq_true aq6) (of_decide_eq_true aq6);have HP20:=Kd.R_putg HO107.out (a1:Int) a2) | ((with_reducible refine gate_store (t:=5) (p:=14) rfl ?_);refine store_event (t:=5) (p:=14) (v:=?vo_w21) (w1:=(w18.setCell ⟨go7,(a1:Int).toNat,none⟩ (.int .u8 a2))) ?hg ?ho ?hn ?hr ?_;(case ho=>rfl);(case hg=>rfl);(case hn=>rfl);(case hr=>exact aq12);intro w21 hw;have hg:w18.grownBy w21 (some go7):=(by rw [hw];exact HP20.2);have hp_:Kd.R (Kd.int .u8) 5 w21 w.heap.size (fun _=>True) (.slice (some ⟨go7,0,none⟩) t105.length co17) y109:=(by rw [hw,Ny109.out];exact HP20.1);clear HP20;replace BK101:=am (bg BK101 hg (Kd.R_ne HO107.out BK101.out d_c));replace BK102:=am (bg BK102 hg (Kd.R_ne HO107.out BK102.out d_c));replace BK108:=am (bg BK108 hg (Kd.R_ne HO107.out BK108.out d_c));replace HO107:=am (hp_);replace HB:=am ((by rw [hw];exact below_set (HB.out) GB7.out:Below w.heap.size w w21));clear hg hw hp_;obtain ⟨hcz22_0,hcz22_1,hcz22_2,hfz22_0,hfz22_1,hfz22_2⟩:=blk3_ BK108.out;obtain ⟨hcz23_0,hcz23_1,hcz23_2,hfz23_0,hfz23_1,hfz23_2⟩:=blk3_ BK102.out))
 refine bodyPost_ret (results_cell_row rfl _ _ gb102 65 #[.int .i64 t103,.int .i64 t104,.slice (some ⟨go7,0,none⟩) t105.length co17] (0,0) _ rfl (by (with_reducible repeat (first | refine blk_drewN ?_ _ | refine blk_drew ?_ | refine blk_alloc ?_ _));refine blk_put (cs:=#[.int .i64 t103,.int .i64 t104,.slice none 0 0]) ?_ 2 _ rfl;(with_reducible repeat (first | refine blk_drewN ?_ _ | refine blk_drew ?_ | refine blk_alloc ?_ _));refine blk_put (cs:=#[.int .i64 t103,.int .i64 0,.slice none 0 0]) ?_ 1 _ rfl;(with_reducible repeat (first | refine blk_drewN ?_ _ | refine blk_drew ?_ | refine blk_alloc ?_ _));refine blk_put (cs:=#[.int .i64 0,.int .i64 0,.slice none 0 0]) ?_ 0 _ rfl;(with_reducible repeat (first | refine blk_drewN ?_ _ | refine blk_drew ?_ | refine blk_alloc ?_ _));exact BK102.out) Tryz.underlying65 rfl k_r) rfl ?_
 exact ⟨_,aq7,by (with_reducible repeat (first | apply Kd.R_alloc | apply Kd.R_drewN | apply Kd.R_drew));exact Kd.R_mono (Kd.R_far (p:=⟨gb102,2,none⟩) (Kd.R_far (p:=⟨gb102,1,none⟩) (Kd.R_far (p:=⟨gb102,0,none⟩) (Kd.R_types HO107.out BK102.out d_c) (fun _ hk=>hk.2) (.int .i64 t103)) (fun _ hk=>hk.2) (.int .i64 t104)) (fun _ hk=>hk.2) (.slice (some ⟨go7,0,none⟩) t105.length co17)) (fun _ hk=>trivial),aq73⟩
def impl_NeedlessWalls.l0:Nat → Int → List Int → List Int → Int → Int → ByteArray → ByteArray → Int → Int → Int → List Int → Option (List Int × Bool)
 | 0,_,_,_,_,_,_,_,_,_,_,_=>none
 | k + 1,x4,x7,x24,x25,x26,x102000,x102001,x102002,x113000,x113001,x113002=>if x26 < x25 then (if 0 ≤ x26 then (if x26 < (x24.length:Int) then (if (rd x24 x26) = 35 then ((impl_tray_with.f x113000 x113001 x113002 x26 46).bind fun bt114=>((impl_tray_text.f bt114.1 bt114.2.1 bt114.2.2).bind fun t119=>((impl_LengthOf.f k t119 x102001 x102002).bind fun bt120=>(if bt120.2 = true then (if bt120.1 = x4 then (if x7.length < 17592186044416 then (impl_NeedlessWalls.l0 k x4 (x7 ++ [x26]) x24 x25 (wrap64 (x26 + 1)) x102000 x102001 x102002 x113000 x113001 x113002) else (none)) else (impl_NeedlessWalls.l0 k x4 x7 x24 x25 (wrap64 (x26 + 1)) x102000 x102001 x102002 x113000 x113001 x113002)) else (impl_NeedlessWalls.l0 k x4 x7 x24 x25 (wrap64 (x26 + 1)) x102000 x102001 x102002 x113000 x113001 x113002))))) else (impl_NeedlessWalls.l0 k x4 x7 x24 x25 (wrap64 (x26 + 1)) x102000 x102001 x102002 x113000 x113001 x113002)) else (none)) else (none)) else (some (x7,true))
def impl_NeedlessWalls.f (k:Nat) (a0_0:ByteArray) (a0_1:ByteArray) (a0_2:Int):Option (List Int × Bool):=(impl_LengthOf.f k a0_0 a0_1 a0_2).bind fun bt102=>(if bt102.2 = true then ((impl_read.f a0_0).bind fun bt104=>(impl_NeedlessWalls.l0 k bt102.1 (([]:List Int)) bt104.2.2 (bt104.2.2.length:Int) 0 a0_0 a0_1 a0_2 bt104.1 bt104.2.1 bt104.2.2)) else (some (([]:List Int),false)))
theorem impl_NeedlessWalls.mono_l:∀ k,(∀ y0 y1 y2 y3 y4 y5 y6 y7 y8 y9 y10,LeO (impl_NeedlessWalls.l0 k y0 y1 y2 y3 y4 y5 y6 y7 y8 y9 y10) (impl_NeedlessWalls.l0 (k + 1) y0 y1 y2 y3 y4 y5 y6 y7 y8 y9 y10))
 | 0=>fun _ _ _ _ _ _ _ _ _ _ _ r h=>by simp [impl_NeedlessWalls.l0] at h
 | k + 1=>by
  have ih0:=impl_NeedlessWalls.mono_l k
  ·intro y0 y1 y2 y3 y4 y5 y6 y7 y8 y9 y10
   unfold impl_NeedlessWalls.l0
   have im0:=@impl_LengthOf.mono;exact mo
theorem impl_NeedlessWalls.mono:∀ a0 a1 a2 k,LeO (impl_NeedlessWalls.f k a0 a1 a2) (impl_NeedlessWalls.f (k + 1) a0 a1 a2):=by
 intro a0 a1 a2 k
 have ih0:=impl_NeedlessWalls.mono_l k
 unfold impl_NeedlessWalls.f
 have im0:=@impl_LengthOf.mono;exact mo
def impl_NeedlessWalls.T9:Bool × List (List Nat × List Nat):=(true,[([],[]),([],[]),([0,1],[0,1]),([2,2],[2]),([],[]),([4],[4]),([],[]),([6],[6]),([3,5,7],[3,5,7]),([8,3],[8]),([9],[9]),([10],[10]),([10],[10]),([11,9,0,1,2,3,4,5,6,7,8,9,10,11],[11]),([12,13,0,1,2,3,4,5,6,7,8,9,10,11,12,13],[12])])
def impl_NeedlessWalls.B9:List Nat:=[0,0,3,7,0,16,0,64,255,511,1023,2047,2047,4095,16383]
theorem impl_NeedlessWalls.tab9:rtab .any (opsOf Tryz.f30 9) = impl_NeedlessWalls.T9:=by kernel_rfl
theorem impl_NeedlessWalls.bits9:waitsOk impl_NeedlessWalls.T9.2 impl_NeedlessWalls.B9 = true:=by kernel_rfl
theorem impl_NeedlessWalls.calls (k:Nat) (a0_0:ByteArray) (a0_1:ByteArray) (a0_2:Int) (r1:List Int) (r2:Bool) (w:World) (h:impl_NeedlessWalls.f k a0_0 a0_1 a0_2 = some (r1,r2)) :
  Calls Tryz.prog 30 #[.agg #[.string a0_0,.string a0_1,.int .i64 a0_2]] w fun e w'=>∃ v0_:Value,e = .returned (.tuple #[v0_,.bool r2]) ∧ Kd.R (Kd.int .i64) 3 w' w.heap.size (fun _=>True) v0_ r1 ∧ Below w.heap.size w w':=by
 have hu30:=Tryz.underlying30
 have hu65:=Tryz.underlying65
 have HB:=am (Below.refl w.heap.size w)
 have H:((impl_LengthOf.f k a0_0 a0_1 a0_2).bind fun bt102=>(if bt102.2 = true then ((impl_read.f a0_0).bind fun bt104=>(impl_NeedlessWalls.l0 k bt102.1 (([]:List Int)) bt104.2.2 (bt104.2.2.length:Int) 0 a0_0 a0_1 a0_2 bt104.1 bt104.2.1 bt104.2.2)) else (some (([]:List Int),false)))) = some (r1,r2):=h
 clear h
 replace H:=Option.bind_eq_some_iff.mp H
 obtain ⟨⟨t102,t103⟩,A20,H⟩:=H
 replace H:(if t103 = true then ((impl_read.f a0_0).bind fun bt104=>(impl_NeedlessWalls.l0 k t102 (([]:List Int)) bt104.2.2 (bt104.2.2.length:Int) 0 a0_0 a0_1 a0_2 bt104.1 bt104.2.1 bt104.2.2)) else (some (([]:List Int),false))) = some (r1,r2):=H
 have A2:=am A20
 clear A20
 by_cases c3:t103 = true
 rotate_left
 ·replace c3:=Bool.eq_false_iff.mpr c3
  subst c3
  rw [if_neg Bool.false_ne_true] at H
  simp only [Option.some.injEq,Prod.mk.injEq] at H
  obtain ⟨rfl,rfl⟩:=H
  go_enter Tryz.func30,Tryz.ntmps30
  go_wp2_with (first | (refine bx 1 #[.string a0_0,.string a0_1,.int .i64 a0_2] 30 ?_;intro gb101 hg w42 hbox hb;have BK101:=am (hbox);have GW101:=am ((by rw [hg];exact (below_size aq2):w.heap.size ≤ gb101));have GE101:=GW101;replace HB:=am (below_step aq2 hb);clear hb hbox hg;obtain ⟨hcz43_0,hcz43_1,hcz43_2,hfz43_0,hfz43_1,hfz43_2⟩:=blk3_ BK101.out) | ((with_reducible refine gate_callee (f:=19) rfl ?_);refine goesL_ (some 14) rfl rfl Tryz.func19 k_r rfl #[.agg #[.string a0_0,.string a0_1,.int .i64 a0_2]] rfl aq3 ?_;(with_reducible refine (impl_LengthOf.calls k a0_0 a0_1 a0_2 t102 false _ A2.out).mono ?_);rintro e w44 ⟨rfl,hb⟩;refine ⟨_,rfl,?_⟩;replace BK101:=am (bb BK101 hb);replace HB:=am (below_step aq0 hb);(try clear hb)))
  go_ret2
  exact ⟨_,aq7,aq17,aq0⟩
 subst c3
 rw [if_pos rfl] at H
 replace H:=Option.bind_eq_some_iff.mp H
 obtain ⟨⟨t104,t105,t106⟩,A40,H⟩:=H
 replace H:(impl_NeedlessWalls.l0 k t102 (([]:List Int)) t106 (t106.length:Int) 0 a0_0 a0_1 a0_2 t104 t105 t106) = some (r1,r2):=H
 have A4:=am A40
 clear A40
 obtain ⟨y109,hy_⟩:∃ y_:List Int,y_ = (([]:List Int)):=⟨_,rfl⟩
 replace H:(impl_NeedlessWalls.l0 k t102 y109 t106 (t106.length:Int) 0 a0_0 a0_1 a0_2 t104 t105 t106) = some (r1,r2):=aq5
 have Ny109:=am hy_
 clear hy_
 have H':=am H
 clear H
 go_enter Tryz.func30,Tryz.ntmps30
 go_wp2_with (first | (refine bx 1 #[.string a0_0,.string a0_1,.int .i64 a0_2] 30 ?_;intro gb101 hg w5 hbox hb;have BK101:=am (hbox);have GW101:=am ((by rw [hg];exact (below_size aq2):w.heap.size ≤ gb101));have GE101:=GW101;replace HB:=am (below_step aq2 hb);clear hb hbox hg;obtain ⟨hcz6_0,hcz6_1,hcz6_2,hfz6_0,hfz6_1,hfz6_2⟩:=blk3_ BK101.out) | ((with_reducible refine gate_callee (f:=19) rfl ?_);refine goesL_ (some 14) rfl rfl Tryz.func19 k_r rfl #[.agg #[.string a0_0,.string a0_1,.int .i64 a0_2]] rfl aq3 ?_;(with_reducible refine (impl_LengthOf.calls k a0_0 a0_1 a0_2 t102 true _ A2.out).mono ?_);rintro e w7 ⟨rfl,hb⟩;refine ⟨_,rfl,?_⟩;replace BK101:=am (bb BK101 hb);replace HB:=am (below_step aq0 hb);(try clear hb);obtain ⟨hcz8_0,hcz8_1,hcz8_2,hfz8_0,hfz8_1,hfz8_2⟩:=blk3_ BK101.out) | ((with_reducible refine gate_callee (f:=51) rfl ?_);refine goesL_ (some 21) rfl rfl Tryz.func51 k_r rfl #[.string a0_0] rfl aq3 ?_;(with_reducible refine (impl_read.calls a0_0 t104 t105 t106 _ A4.out).mono ?_);rintro e w9 ⟨v107,rfl,ho0,hb⟩;refine ⟨_,rfl,?_⟩;have HO108:=am (Kd.V_lower (Kd.V_mono (ok':=fun k_=>k_ ≠ gb101) ho0 (fun k_ hk_=>(Kd.freshB (g:=gb101) (o:=.cells #[.string a0_0,.string a0_1,.int .i64 a0_2] 30 (0,0)) aq1 k_ hk_))) (below_size aq0));replace BK101:=am (bb BK101 hb);replace HB:=am (below_step aq0 hb);(try clear hb);(try clear ho0)) | ((with_reducible refine gate_dst (N:=22) rfl ?_);refine Kd.R_lit (Kd.int .i64) _ 3 ?hg (N:=22) ?hd (xs:=([]:List Int)) (inner:=[]) (ok:=fun _=>True) (okp:=fun _=>True) ?hr ?hp (fun _ hk=>hk) trivial (Below.refl _ _) (Nat.le_refl _) (by simp) ?_;(case hd=>rfl);(case hg=>rfl);(case hr=>exact aq12);(case hp=>exact (Reps.none _ _));intro v110 w10 ho11 hb hg_ hnew_;clear hg_ hnew_;(first | rw [← Ny109.out] at ho11 | (simp only [Int.reduceToNat] at ho11;rw [← Ny109.out] at ho11));replace HO108:=am (Kd.V_elder' (by (with_reducible repeat (first | apply Kd.V_alloc | apply Kd.V_drewN | apply Kd.V_drew));exact HO108.out) (Kd.R_base ho11) hb);have HO111:=am (Kd.R_lower ho11 (below_size aq0));replace BK101:=am (bb BK101 hb);replace HB:=am (below_step aq0 hb);clear hb ho11) | (refine bx 6 #[.int .i64 0,.int .i64 0,.slice none 0 0] 65 ?_;intro gb112 hg w12 hbox hb;replace HO108:=am (Kd.V_below (Kd.V_elderB (by (with_reducible repeat (first | apply Kd.V_alloc | apply Kd.V_drewN | apply Kd.V_drew));exact HO108.out) gb112 (Nat.le_of_eq hg.symm)) hb);replace HO111:=am (Kd.R_below (by (with_reducible repeat (first | apply Kd.R_alloc | apply Kd.R_drewN | apply Kd.R_drew));exact HO111.out) hb);have BK112:=am (hbox);have GW112:=am ((by rw [hg];exact (below_size aq0):w.heap.size ≤ gb112));have GE112:=GW112;replace HB:=am (below_step aq0 hb);have NB101_112:=am ((by rw [hg];exact Nat.ne_of_lt (blk_lt (g:=gb101) (o:=.cells #[.string a0_0,.string a0_1,.int .i64 a0_2] 30 (0,0)) aq1):gb101 ≠ gb112));have NB112_101:=am ((by rw [hg];exact Nat.ne_of_gt (blk_lt (g:=gb101) (o:=.cells #[.string a0_0,.string a0_1,.int .i64 a0_2] 30 (0,0)) aq1):gb112 ≠ gb101));replace BK101:=am (bb BK101 hb);clear hb hbox hg;have hnb13:=NB112_101.out;have hnc13:=NB101_112.out;obtain ⟨hcz14_0,hcz14_1,hcz14_2,hfz14_0,hfz14_1,hfz14_2⟩:=blk3_ BK112.out;obtain ⟨Ao15,co15,eo15⟩:=Kd.V_slice HO108.out;subst eo15))
 go_loopg [7,26] k (fun kq v7 v26 w'=>∃ (x7_1:List Int) (x26_1:Int),v26 = .int .i64 x26_1 ∧ Aside0 (impl_NeedlessWalls.l0 kq t102 x7_1 t106 (t106.length:Int) x26_1 a0_0 a0_1 a0_2 t104 t105 t106 = some (r1,r2)) ∧ Aside0 (kq ≤ k) ∧ Aside0 (Kd.R (Kd.int .i64) 3 w' w.heap.size (fun _=>True) v7 x7_1) ∧ Aside0 (Kd.V (Kd.int .u8) 5 w' w.heap.size (fun k_=>some k_ ≠ (v7:Value).ownBlock ∧ k_ ≠ gb101 ∧ k_ ≠ gb112) (.slice Ao15 t106.length co15) t106) ∧ Aside0 (Kd.V (Kd.int .u8) 5 w' w.heap.size (fun k_=>some k_ ≠ (v7:Value).ownBlock ∧ k_ ≠ gb101 ∧ k_ ≠ gb112) (.slice Ao15 t106.length co15) t106) ∧ Aside0 (w'.heap[gb101]? = some (.cells #[.string a0_0,.string a0_1,.int .i64 a0_2] 30 (0,0))) ∧ Aside0 (w'.heap[gb112]? = some (.cells #[.int .i64 t104,.int .i64 t105,(.slice Ao15 t106.length co15)] 65 (0,0))) ∧ Aside0 (Below w.heap.size w w'))
 case atStart=>exact ⟨(y109),(0),aq8,H',⟨Nat.le_refl _⟩,⟨by (with_reducible repeat (first | apply Kd.R_alloc | apply Kd.R_drewN | apply Kd.R_drew));exact Kd.R_mono (Kd.R_far (p:=⟨gb112,2,none⟩) (Kd.R_far (p:=⟨gb112,1,none⟩) (Kd.R_far (p:=⟨gb112,0,none⟩) (Kd.R_types HO111.out BK112.out d_c) (fun _ hk=>hk.2) (.int .i64 t104)) (fun _ hk=>hk.2) (.int .i64 t105)) (fun _ hk=>hk.2) (.slice Ao15 t106.length co15)) (fun _ hk=>trivial)⟩,⟨aq52⟩,⟨aq52⟩,⟨by (with_reducible repeat (first | refine blk_drewN ?_ _ | refine blk_drew ?_ | refine blk_alloc ?_ _));refine blk_far ?_ NB101_112.out _;(with_reducible repeat (first | refine blk_drewN ?_ _ | refine blk_drew ?_ | refine blk_alloc ?_ _));refine blk_far ?_ NB101_112.out _;(with_reducible repeat (first | refine blk_drewN ?_ _ | refine blk_drew ?_ | refine blk_alloc ?_ _));refine blk_far ?_ NB101_112.out _;(with_reducible repeat (first | refine blk_drewN ?_ _ | refine blk_drew ?_ | refine blk_alloc ?_ _));exact BK101.out⟩,⟨by (with_reducible repeat (first | refine blk_drewN ?_ _ | refine blk_drew ?_ | refine blk_alloc ?_ _));refine blk_put (cs:=#[.int .i64 t104,.int .i64 t105,.slice none 0 0]) ?_ 2 _ rfl;(with_reducible repeat (first | refine blk_drewN ?_ _ | refine blk_drew ?_ | refine blk_alloc ?_ _));refine blk_put (cs:=#[.int .i64 t104,.int .i64 0,.slice none 0 0]) ?_ 1 _ rfl;(with_reducible repeat (first | refine blk_drewN ?_ _ | refine blk_drew ?_ | refine blk_alloc ?_ _));refine blk_put (cs:=#[.int .i64 0,.int .i64 0,.slice none 0 0]) ?_ 0 _ rfl;(with_reducible repeat (first | refine blk_drewN ?_ _ | refine blk_drew ?_ | refine blk_alloc ?_ _));exact BK112.out⟩,⟨aq10⟩⟩
 case round =>
  clear H'
  try clear c1
  try clear p2
  try clear c3
  try clear c5
  try clear c13
  try clear hcz14_0
  try clear hcz14_1
  try clear hcz14_2
  try clear hcz6_0
  try clear hcz6_1
  try clear hcz6_2
  try clear hcz8_0
  try clear hcz8_1
  try clear hcz8_2
  try clear hfz14_0
  try clear hfz14_1
  try clear hfz14_2
  try clear hfz6_0
  try clear hfz6_1
  try clear hfz6_2
  try clear hfz8_0
  try clear hfz8_1
  try clear hfz8_2
  obtain ⟨x7_1,x26_1,rfl,HA,HK1,HO_7,HO_24,HO_113002,BK101,BK112,HB⟩:=hrel
  cases gk with
  | zero=>exact absurd HA.out (by simp [impl_NeedlessWalls.l0])
  | succ k1 =>
   have H:=HA.out
   clear HA
   simp only [impl_NeedlessWalls.l0] at H
   by_cases c16:x26_1 < (t106.length:Int)
   rotate_left
   ·rw [if_neg c16] at H
    have c16b0:=decide_eq_false c16
    clear c16
    simp only [Option.some.injEq,Prod.mk.injEq] at H
    obtain ⟨rfl,rfl⟩:=H
    go_wp2
    go_ret2
    exact ⟨_,aq7,aq22,aq10⟩
   rw [if_pos c16] at H
   have c16b0:=decide_eq_true c16
   clear c16
   replace H:=gd H
   obtain ⟨c17,H⟩:=H
   have c17b0:=decide_eq_true c17
   clear c17
   replace H:=gd H
   obtain ⟨c18,H⟩:=H
   have c18b0:=decide_eq_true c18
   clear c18
   by_cases c19:(rd t106 x26_1) = 35
   rotate_left
   ·rw [if_neg c19] at H
    have c19b0:=beq_eq_false_iff_ne.mpr c19
    have c19b1:=bne_iff_ne.mpr c19
    have H':=am H
    clear H
    have p113:0 ≤ (x26_1:Int):=of_decide_eq_true aq6
    have q113:x26_1 < (t106.length:Int):=of_decide_eq_true aq6
    obtain ⟨ad113,e113,hx113_0⟩:=Kd.at_int (Kd.V_reads' HO_24.out).2.2 x26_1 p113 q113
    cases e113
    replace p113:=eq_true p113
    replace q113:=eq_true q113
    go_wp2
    go_roundg k1
    case measure=>have:=HK1.out;omega
    case rel=>exact ⟨(x7_1),(wrap64 (x26_1 + 1)),aq8,H',⟨aq63⟩,⟨aq22⟩,⟨aq29⟩,⟨aq27⟩,⟨aq1⟩,⟨aq20⟩,⟨aq10⟩⟩
   rw [if_pos c19] at H
   have c19b0:=beq_iff_eq.mpr c19
   have c19b1:=bne_eq_false_iff_eq.mpr c19
   clear c19
   replace H:=Option.bind_eq_some_iff.mp H
   obtain ⟨⟨t114,t115,t116⟩,A200,H⟩:=H
   replace H:((impl_tray_text.f t114 t115 t116).bind fun t119=>((impl_LengthOf.f k1 t119 a0_1 a0_2).bind fun bt120=>(if bt120.2 = true then (if bt120.1 = t102 then (if x7_1.length < 17592186044416 then (impl_NeedlessWalls.l0 k1 t102 (x7_1 ++ [x26_1]) t106 (t106.length:Int) (wrap64 (x26_1 + 1)) a0_0 a0_1 a0_2 t104 t105 t106) else (none)) else (impl_NeedlessWalls.l0 k1 t102 x7_1 t106 (t106.length:Int) (wrap64 (x26_1 + 1)) a0_0 a0_1 a0_2 t104 t105 t106)) else (impl_NeedlessWalls.l0 k1 t102 x7_1 t106 (t106.length:Int) (wrap64 (x26_1 + 1)) a0_0 a0_1 a0_2 t104 t105 t106)))) = some (r1,r2):=H
   have A20:=am A200
   clear A200
   obtain ⟨t119,A21,H⟩:=bn H
   replace H:=Option.bind_eq_some_iff.mp H
   obtain ⟨⟨t120,t121⟩,A220,H⟩:=H
   replace H:(if t121 = true then (if t120 = t102 then (if x7_1.length < 17592186044416 then (impl_NeedlessWalls.l0 k1 t102 (x7_1 ++ [x26_1]) t106 (t106.length:Int) (wrap64 (x26_1 + 1)) a0_0 a0_1 a0_2 t104 t105 t106) else (none)) else (impl_NeedlessWalls.l0 k1 t102 x7_1 t106 (t106.length:Int) (wrap64 (x26_1 + 1)) a0_0 a0_1 a0_2 t104 t105 t106)) else (impl_NeedlessWalls.l0 k1 t102 x7_1 t106 (t106.length:Int) (wrap64 (x26_1 + 1)) a0_0 a0_1 a0_2 t104 t105 t106)) = some (r1,r2):=H
   have A22:=am A220
   clear A220
   by_cases c23:t121 = true
   rotate_left
   ·replace c23:=Bool.eq_false_iff.mpr c23
    subst c23
    rw [if_neg Bool.false_ne_true] at H
    have H':=am H
    clear H
    have p113:0 ≤ (x26_1:Int):=of_decide_eq_true aq6
    have q113:x26_1 < (t106.length:Int):=of_decide_eq_true aq6
    obtain ⟨ad113,e113,hx113_0⟩:=Kd.at_int (Kd.V_reads' HO_24.out).2.2 x26_1 p113 q113
    cases e113
    replace p113:=eq_true p113
    replace q113:=eq_true q113
    try go_wp2
    replace HO_7:=am (Kd.R_drew HO_7.out)
    replace HO_24:=am (Kd.V_drew HO_24.out)
    replace HO_113002:=am (Kd.V_drew HO_113002.out)
    replace BK101:=am (blk_drew BK101.out)
    replace BK112:=am (blk_drew BK112.out)
    replace HB:=am (below_drew1 HB.out)
    refine start_ (n:=15) (S:=fun w'=>w'.cell? ⟨gb112,0,none⟩ = some (.int .i64 t104) ∧ w'.cell? ⟨gb112,1,none⟩ = some (.int .i64 t105) ∧ w'.cell? ⟨gb112,2,none⟩ = some (.slice (some ad113) t106.length co15) ∧ w'.cell? ⟨gb101,0,none⟩ = some (.string a0_0) ∧ w'.cell? ⟨gb101,1,none⟩ = some (.string a0_1) ∧ w'.cell? ⟨gb101,2,none⟩ = some (.int .i64 a0_2)) (ds:=[]) (bm 15 0) k_r rfl rfl ⟨bk BK112 0,bk BK112 1,bk BK112 2,bk BK101 0,bk BK101 1,bk BK101 2⟩ (fun hHeld=>?_);refine with_tabW impl_NeedlessWalls.tab9 impl_NeedlessWalls.bits9 (fun HT_ HW_=>?_)
    generalize wr.drew = w37 at HO_7 HO_24 HO_113002 BK101 BK112 HB hHeld ⊢
    refine py (i:=1) (N:=some 35) (bm 15 2) ?_
    refine py (i:=4) (N:=some 38) (bm 15 18) ?_
    refine py (i:=6) (N:=some 40) (bm 15 82) ?_
    refine tk6 (i:=0) (N:=some 34) (bm 15 83) hHeld ?_
    refine tk6 (i:=5) (N:=some 39) (bm 15 115) hHeld ?_
    refine tk6 (i:=7) (N:=some 41) (bm 15 243) hHeld ?_
    refine one_ (i:=2) (N:=some 36) (bm 15 247) rfl rfl (one_of HT_.out k_r) d_c (fun K hK=>?_)
    refine goes_ Tryz.func66 k_r rfl #[.agg #[.int .i64 t104,.int .i64 t105,.slice (some ad113) t106.length co15],.int .i64 x26_1,.int .u8 46] (by rfl) rfl rfl aq3 ?_
    with_reducible refine (impl_tray_with.calls t104 t105 _ _ t106 x26_1 46 t114 t115 t116 _ ?side1 ?side2 A20.out).mono ?_
    (case side1=>exact aq60)
    (case side2=>exact (Kd.V_reads' HO_113002.out).2.1)
    rintro e w38 ⟨v117,rfl,ho0,hb⟩
    refine ⟨_,rfl,?_⟩
    replace HO_7:=am (Kd.R_below aq22 hb)
    replace HO_24:=am (Kd.V_elder' aq29 (Kd.R_base ho0) hb)
    replace HO_113002:=am (Kd.V_elder' aq27 (Kd.R_base ho0) hb)
    have HO118:=am (Kd.R_lower ho0 (below_size aq10))
    replace BK101:=am (bb BK101 hb)
    replace BK112:=am (bb BK112 hb)
    replace HB:=am (below_step aq10 hb)
    (try clear hb)
    (try clear ho0)
    obtain ⟨Ao39,co39,eo39⟩:=Kd.R_slice HO118.out
    (first | subst eo39 | (injection eo39 with f1_ f2_ f3_;have f4_:=f1_.symm;have f5_:=f3_.symm;clear f1_ f2_ f3_;subst f4_;subst f5_))
    refine hK.out _ _ ⟨bk BK112 0,bk BK112 1,bk BK112 2,bk BK101 0,bk BK101 1,bk BK101 2⟩ (fun hHeld=>?_)
    clear hK K
    refine nm (some 36) ?_
    refine one_ (i:=3) (N:=some 37) (bm 15 255) rfl rfl (one_of HT_.out k_r) d_c (fun K hK=>?_)
    refine goes_ Tryz.func67 k_r rfl #[.agg #[.int .i64 t114,.int .i64 t115,.slice Ao39 t116.length co39]] (by rfl) rfl rfl aq3 ?_
    with_reducible refine (impl_tray_text.calls t114 t115 _ _ t116 t119 _ ?side1 ?side2 A21.out).mono ?_
    (case side1=>exact aq61)
    (case side2=>exact (Kd.R_reads' HO118.out).2.1)
    rintro e w40 ⟨rfl,hb⟩
    refine ⟨_,rfl,?_⟩
    replace HO_7:=am (Kd.R_below aq22 hb)
    replace HO_24:=am (Kd.V_below aq29 hb)
    replace HO_113002:=am (Kd.V_below aq27 hb)
    replace HO118:=am (Kd.R_below aq40 hb)
    replace BK101:=am (bb BK101 hb)
    replace BK112:=am (bb BK112 hb)
    replace HB:=am (below_step aq10 hb)
    (try clear hb)
    refine hK.out _ _ ⟨bk BK112 0,bk BK112 1,bk BK112 2,bk BK101 0,bk BK101 1,bk BK101 2⟩ (fun hHeld=>?_)
    clear hK K
    refine nm (some 37) ?_
    refine py (i:=8) (N:=some 42) (bm 15 511) ?_
    refine one_ (i:=9) (N:=some 43) (bm 15 1023) rfl rfl (one_of HT_.out k_r) d_c (fun K hK=>?_)
    refine goes_ Tryz.func19 k_r rfl #[.agg #[.string t119,.string a0_1,.int .i64 a0_2]] (by rfl) rfl rfl aq3 ?_
    with_reducible refine (impl_LengthOf.calls k1 t119 a0_1 a0_2 t120 false _ A22.out).mono ?_
    rintro e w41 ⟨rfl,hb⟩
    refine ⟨_,rfl,?_⟩
    replace HO_7:=am (Kd.R_below aq22 hb)
    replace HO_24:=am (Kd.V_below aq29 hb)
    replace HO_113002:=am (Kd.V_below aq27 hb)
    replace HO118:=am (Kd.R_below aq40 hb)
    replace BK101:=am (bb BK101 hb)
    replace BK112:=am (bb BK112 hb)
    replace HB:=am (below_step aq10 hb)
    (try clear hb)
    refine hK.out _ _ ⟨bk BK112 0,bk BK112 1,bk BK112 2,bk BK101 0,bk BK101 1,bk BK101 2⟩ (fun hHeld=>?_)
    clear hK K
    refine nm (some 43) ?_
    refine py (i:=10) (N:=some 33) (bm 15 2047) ?_
    refine py (i:=11) (N:=some 44) (bm 15 4095) ?_
    refine py (i:=12) (N:=some 45) (bm 15 8191) ?_
    refine py (i:=13) (N:=some 10) (bm 15 16383) ?_
    refine py (i:=14) (N:=some 11) (bm 15 32767) ?_
    refine done_ (done_of HT_.out k_r) ?_
    try go_wp2
    go_roundg k1
    case measure=>have:=HK1.out;omega
    case rel=>exact ⟨(x7_1),(wrap64 (x26_1 + 1)),aq8,H',⟨aq63⟩,⟨aq22⟩,⟨aq101⟩,⟨aq95⟩,⟨aq1⟩,⟨aq20⟩,⟨aq10⟩⟩
   subst c23
   rw [if_pos rfl] at H
   by_cases c24:t120 = t102
   rotate_left
   ·rw [if_neg c24] at H
    have c24b0:=beq_eq_false_iff_ne.mpr c24
    have c24b1:=bne_iff_ne.mpr c24
    have H':=am H
    clear H
    have p113:0 ≤ (x26_1:Int):=of_decide_eq_true aq6
    have q113:x26_1 < (t106.length:Int):=of_decide_eq_true aq6
    obtain ⟨ad113,e113,hx113_0⟩:=Kd.at_int (Kd.V_reads' HO_24.out).2.2 x26_1 p113 q113
    cases e113
    replace p113:=eq_true p113
    replace q113:=eq_true q113
    try go_wp2
    replace HO_7:=am (Kd.R_drew HO_7.out)
    replace HO_24:=am (Kd.V_drew HO_24.out)
    replace HO_113002:=am (Kd.V_drew HO_113002.out)
    replace BK101:=am (blk_drew BK101.out)
    replace BK112:=am (blk_drew BK112.out)
    replace HB:=am (below_drew1 HB.out)
    refine start_ (n:=15) (S:=fun w'=>w'.cell? ⟨gb112,0,none⟩ = some (.int .i64 t104) ∧ w'.cell? ⟨gb112,1,none⟩ = some (.int .i64 t105) ∧ w'.cell? ⟨gb112,2,none⟩ = some (.slice (some ad113) t106.length co15) ∧ w'.cell? ⟨gb101,0,none⟩ = some (.string a0_0) ∧ w'.cell? ⟨gb101,1,none⟩ = some (.string a0_1) ∧ w'.cell? ⟨gb101,2,none⟩ = some (.int .i64 a0_2)) (ds:=[]) (bm 15 0) k_r rfl rfl ⟨bk BK112 0,bk BK112 1,bk BK112 2,bk BK101 0,bk BK101 1,bk BK101 2⟩ (fun hHeld=>?_);refine with_tabW impl_NeedlessWalls.tab9 impl_NeedlessWalls.bits9 (fun HT_ HW_=>?_)
    generalize wr.drew = w32 at HO_7 HO_24 HO_113002 BK101 BK112 HB hHeld ⊢
    refine py (i:=1) (N:=some 35) (bm 15 2) ?_
    refine py (i:=4) (N:=some 38) (bm 15 18) ?_
    refine py (i:=6) (N:=some 40) (bm 15 82) ?_
    refine tk6 (i:=0) (N:=some 34) (bm 15 83) hHeld ?_
    refine tk6 (i:=5) (N:=some 39) (bm 15 115) hHeld ?_
    refine tk6 (i:=7) (N:=some 41) (bm 15 243) hHeld ?_
    refine one_ (i:=2) (N:=some 36) (bm 15 247) rfl rfl (one_of HT_.out k_r) d_c (fun K hK=>?_)
    refine goes_ Tryz.func66 k_r rfl #[.agg #[.int .i64 t104,.int .i64 t105,.slice (some ad113) t106.length co15],.int .i64 x26_1,.int .u8 46] (by rfl) rfl rfl aq3 ?_
    with_reducible refine (impl_tray_with.calls t104 t105 _ _ t106 x26_1 46 t114 t115 t116 _ ?side1 ?side2 A20.out).mono ?_
    (case side1=>exact aq60)
    (case side2=>exact (Kd.V_reads' HO_113002.out).2.1)
    rintro e w33 ⟨v117,rfl,ho0,hb⟩
    refine ⟨_,rfl,?_⟩
    replace HO_7:=am (Kd.R_below aq22 hb)
    replace HO_24:=am (Kd.V_elder' aq29 (Kd.R_base ho0) hb)
    replace HO_113002:=am (Kd.V_elder' aq27 (Kd.R_base ho0) hb)
    have HO118:=am (Kd.R_lower ho0 (below_size aq10))
    replace BK101:=am (bb BK101 hb)
    replace BK112:=am (bb BK112 hb)
    replace HB:=am (below_step aq10 hb)
    (try clear hb)
    (try clear ho0)
    obtain ⟨Ao34,co34,eo34⟩:=Kd.R_slice HO118.out
    (first | subst eo34 | (injection eo34 with f1_ f2_ f3_;have f4_:=f1_.symm;have f5_:=f3_.symm;clear f1_ f2_ f3_;subst f4_;subst f5_))
    refine hK.out _ _ ⟨bk BK112 0,bk BK112 1,bk BK112 2,bk BK101 0,bk BK101 1,bk BK101 2⟩ (fun hHeld=>?_)
    clear hK K
    refine nm (some 36) ?_
    refine one_ (i:=3) (N:=some 37) (bm 15 255) rfl rfl (one_of HT_.out k_r) d_c (fun K hK=>?_)
    refine goes_ Tryz.func67 k_r rfl #[.agg #[.int .i64 t114,.int .i64 t115,.slice Ao34 t116.length co34]] (by rfl) rfl rfl aq3 ?_
    with_reducible refine (impl_tray_text.calls t114 t115 _ _ t116 t119 _ ?side1 ?side2 A21.out).mono ?_
    (case side1=>exact aq61)
    (case side2=>exact (Kd.R_reads' HO118.out).2.1)
    rintro e w35 ⟨rfl,hb⟩
    refine ⟨_,rfl,?_⟩
    replace HO_7:=am (Kd.R_below aq22 hb)
    replace HO_24:=am (Kd.V_below aq29 hb)
    replace HO_113002:=am (Kd.V_below aq27 hb)
    replace HO118:=am (Kd.R_below aq40 hb)
    replace BK101:=am (bb BK101 hb)
    replace BK112:=am (bb BK112 hb)
    replace HB:=am (below_step aq10 hb)
    (try clear hb)
    refine hK.out _ _ ⟨bk BK112 0,bk BK112 1,bk BK112 2,bk BK101 0,bk BK101 1,bk BK101 2⟩ (fun hHeld=>?_)
    clear hK K
    refine nm (some 37) ?_
    refine py (i:=8) (N:=some 42) (bm 15 511) ?_
    refine one_ (i:=9) (N:=some 43) (bm 15 1023) rfl rfl (one_of HT_.out k_r) d_c (fun K hK=>?_)
    refine goes_ Tryz.func19 k_r rfl #[.agg #[.string t119,.string a0_1,.int .i64 a0_2]] (by rfl) rfl rfl aq3 ?_
    with_reducible refine (impl_LengthOf.calls k1 t119 a0_1 a0_2 t120 true _ A22.out).mono ?_
    rintro e w36 ⟨rfl,hb⟩
    refine ⟨_,rfl,?_⟩
    replace HO_7:=am (Kd.R_below aq22 hb)
    replace HO_24:=am (Kd.V_below aq29 hb)
    replace HO_113002:=am (Kd.V_below aq27 hb)
    replace HO118:=am (Kd.R_below aq40 hb)
    replace BK101:=am (bb BK101 hb)
    replace BK112:=am (bb BK112 hb)
    replace HB:=am (below_step aq10 hb)
    (try clear hb)
    refine hK.out _ _ ⟨bk BK112 0,bk BK112 1,bk BK112 2,bk BK101 0,bk BK101 1,bk BK101 2⟩ (fun hHeld=>?_)
    clear hK K
    refine nm (some 43) ?_
    refine py (i:=10) (N:=some 33) (bm 15 2047) ?_
    refine py (i:=11) (N:=some 44) (bm 15 4095) ?_
    refine py (i:=12) (N:=some 45) (bm 15 8191) ?_
    refine py (i:=13) (N:=some 10) (bm 15 16383) ?_
    refine py (i:=14) (N:=some 11) (bm 15 32767) ?_
    refine done_ (done_of HT_.out k_r) ?_
    try go_wp2
    go_roundg k1
    case measure=>have:=HK1.out;omega
    case rel=>exact ⟨(x7_1),(wrap64 (x26_1 + 1)),aq8,H',⟨aq63⟩,⟨aq22⟩,⟨aq101⟩,⟨aq95⟩,⟨aq1⟩,⟨aq20⟩,⟨aq10⟩⟩
   rw [if_pos c24] at H
   have c24b0:=beq_iff_eq.mpr c24
   have c24b1:=bne_eq_false_iff_eq.mpr c24
   clear c24
   replace H:=gd H
   obtain ⟨c25,H⟩:=H
   have LMc25:=am c25
   clear c25
   obtain ⟨y122,hy_⟩:∃ y_:List Int,y_ = (x7_1 ++ [x26_1]):=⟨_,rfl⟩
   replace H:(impl_NeedlessWalls.l0 k1 t102 y122 t106 (t106.length:Int) (wrap64 (x26_1 + 1)) a0_0 a0_1 a0_2 t104 t105 t106) = some (r1,r2):=aq5
   have Ny122:=am hy_
   clear hy_
   have H':=am H
   clear H
   have p113:0 ≤ (x26_1:Int):=of_decide_eq_true aq6
   have q113:x26_1 < (t106.length:Int):=of_decide_eq_true aq6
   obtain ⟨ad113,e113,hx113_0⟩:=Kd.at_int (Kd.V_reads' HO_24.out).2.2 x26_1 p113 q113
   cases e113
   replace p113:=eq_true p113
   replace q113:=eq_true q113
   try go_wp2
   replace HO_7:=am (Kd.R_drew HO_7.out)
   replace HO_24:=am (Kd.V_drew HO_24.out)
   replace HO_113002:=am (Kd.V_drew HO_113002.out)
   replace BK101:=am (blk_drew BK101.out)
   replace BK112:=am (blk_drew BK112.out)
   replace HB:=am (below_drew1 HB.out)
   refine start_ (n:=15) (S:=fun w'=>w'.cell? ⟨gb112,0,none⟩ = some (.int .i64 t104) ∧ w'.cell? ⟨gb112,1,none⟩ = some (.int .i64 t105) ∧ w'.cell? ⟨gb112,2,none⟩ = some (.slice (some ad113) t106.length co15) ∧ w'.cell? ⟨gb101,0,none⟩ = some (.string a0_0) ∧ w'.cell? ⟨gb101,1,none⟩ = some (.string a0_1) ∧ w'.cell? ⟨gb101,2,none⟩ = some (.int .i64 a0_2)) (ds:=[]) (bm 15 0) k_r rfl rfl ⟨bk BK112 0,bk BK112 1,bk BK112 2,bk BK101 0,bk BK101 1,bk BK101 2⟩ (fun hHeld=>?_);refine with_tabW impl_NeedlessWalls.tab9 impl_NeedlessWalls.bits9 (fun HT_ HW_=>?_)
   generalize wr.drew = w26 at HO_7 HO_24 HO_113002 BK101 BK112 HB hHeld ⊢
   refine py (i:=1) (N:=some 35) (bm 15 2) ?_
   refine py (i:=4) (N:=some 38) (bm 15 18) ?_
   refine py (i:=6) (N:=some 40) (bm 15 82) ?_
   refine tk6 (i:=0) (N:=some 34) (bm 15 83) hHeld ?_
   refine tk6 (i:=5) (N:=some 39) (bm 15 115) hHeld ?_
   refine tk6 (i:=7) (N:=some 41) (bm 15 243) hHeld ?_
   refine one_ (i:=2) (N:=some 36) (bm 15 247) rfl rfl (one_of HT_.out k_r) d_c (fun K hK=>?_)
   refine goes_ Tryz.func66 k_r rfl #[.agg #[.int .i64 t104,.int .i64 t105,.slice (some ad113) t106.length co15],.int .i64 x26_1,.int .u8 46] (by rfl) rfl rfl aq3 ?_
   with_reducible refine (impl_tray_with.calls t104 t105 _ _ t106 x26_1 46 t114 t115 t116 _ ?side1 ?side2 A20.out).mono ?_
   (case side1=>exact aq60)
   (case side2=>exact (Kd.V_reads' HO_113002.out).2.1)
   rintro e w27 ⟨v117,rfl,ho0,hb⟩
   refine ⟨_,rfl,?_⟩
   replace HO_7:=am (Kd.R_below aq22 hb)
   replace HO_24:=am (Kd.V_elder' aq29 (Kd.R_base ho0) hb)
   replace HO_113002:=am (Kd.V_elder' aq27 (Kd.R_base ho0) hb)
   have HO118:=am (Kd.R_lower ho0 (below_size aq10))
   replace BK101:=am (bb BK101 hb)
   replace BK112:=am (bb BK112 hb)
   replace HB:=am (below_step aq10 hb)
   (try clear hb)
   (try clear ho0)
   obtain ⟨Ao28,co28,eo28⟩:=Kd.R_slice HO118.out
   (first | subst eo28 | (injection eo28 with f1_ f2_ f3_;have f4_:=f1_.symm;have f5_:=f3_.symm;clear f1_ f2_ f3_;subst f4_;subst f5_))
   refine hK.out _ _ ⟨bk BK112 0,bk BK112 1,bk BK112 2,bk BK101 0,bk BK101 1,bk BK101 2⟩ (fun hHeld=>?_)
   clear hK K
   refine nm (some 36) ?_
   refine one_ (i:=3) (N:=some 37) (bm 15 255) rfl rfl (one_of HT_.out k_r) d_c (fun K hK=>?_)
   refine goes_ Tryz.func67 k_r rfl #[.agg #[.int .i64 t114,.int .i64 t115,.slice Ao28 t116.length co28]] (by rfl) rfl rfl aq3 ?_
   with_reducible refine (impl_tray_text.calls t114 t115 _ _ t116 t119 _ ?side1 ?side2 A21.out).mono ?_
   (case side1=>exact aq61)
   (case side2=>exact (Kd.R_reads' HO118.out).2.1)
   rintro e w29 ⟨rfl,hb⟩
   refine ⟨_,rfl,?_⟩
   replace HO_7:=am (Kd.R_below aq22 hb)
   replace HO_24:=am (Kd.V_below aq29 hb)
   replace HO_113002:=am (Kd.V_below aq27 hb)
   replace HO118:=am (Kd.R_below aq40 hb)
   replace BK101:=am (bb BK101 hb)
   replace BK112:=am (bb BK112 hb)
   replace HB:=am (below_step aq10 hb)
   (try clear hb)
   refine hK.out _ _ ⟨bk BK112 0,bk BK112 1,bk BK112 2,bk BK101 0,bk BK101 1,bk BK101 2⟩ (fun hHeld=>?_)
   clear hK K
   refine nm (some 37) ?_
   refine py (i:=8) (N:=some 42) (bm 15 511) ?_
   refine one_ (i:=9) (N:=some 43) (bm 15 1023) rfl rfl (one_of HT_.out k_r) d_c (fun K hK=>?_)
   refine goes_ Tryz.func19 k_r rfl #[.agg #[.string t119,.string a0_1,.int .i64 a0_2]] (by rfl) rfl rfl aq3 ?_
   with_reducible refine (impl_LengthOf.calls k1 t119 a0_1 a0_2 t120 true _ A22.out).mono ?_
   rintro e w30 ⟨rfl,hb⟩
   refine ⟨_,rfl,?_⟩
   replace HO_7:=am (Kd.R_below aq22 hb)
   replace HO_24:=am (Kd.V_below aq29 hb)
   replace HO_113002:=am (Kd.V_below aq27 hb)
   replace HO118:=am (Kd.R_below aq40 hb)
   replace BK101:=am (bb BK101 hb)
   replace BK112:=am (bb BK112 hb)
   replace HB:=am (below_step aq10 hb)
   (try clear hb)
   refine hK.out _ _ ⟨bk BK112 0,bk BK112 1,bk BK112 2,bk BK101 0,bk BK101 1,bk BK101 2⟩ (fun hHeld=>?_)
   clear hK K
   refine nm (some 43) ?_
   refine py (i:=10) (N:=some 33) (bm 15 2047) ?_
   refine py (i:=11) (N:=some 44) (bm 15 4095) ?_
   refine py (i:=12) (N:=some 45) (bm 15 8191) ?_
   refine py (i:=13) (N:=some 10) (bm 15 16383) ?_
   refine py (i:=14) (N:=some 11) (bm 15 32767) ?_
   refine done_ (done_of HT_.out k_r) ?_
   try go_wp2_with (first | ((with_reducible refine gate_builtin (b:=.append) (xs:=#[.tmp 52,.tmp 54]) rfl ?_);at_builtin;refine Kd.R_append (Kd.int .i64) (w0:=w) w.heap.size rfl (.tmp 52) (.tmp 54) 40 3 (.int .i64 0) 8 rfl Tryz.underlying40 info3 rfl d_c o_m u7 x7_1 x26_1 [.int .i64 x26_1] (fun _=>True) (fun _=>False) rfl rfl ?aP (fun _ hk=>hk.elim) ?aF ?aO ?aB ?aS ?aL ?_;(case aP=>exact rfl);(case aB=>exact aq10);(case aF=>exact aq75);(case aO=>exact aq22);(case aS=>exact (below_size aq10));(case aL=>have:=LMc25.out;omega);intro v123 w31 ho hb hg hat;rw [← Ny122.out] at ho;replace HO_24:=am (Kd.V_afterv (ok:=(fun k_=>some k_ ≠ (.slice Ao28 t116.length co28:Value).ownBlock ∧ k_ ≠ gb101 ∧ k_ ≠ gb112)) (by (with_reducible repeat (first | apply Kd.V_alloc | apply Kd.V_drewN | apply Kd.V_drew));exact Kd.V_mono HO_24.out (fun _ hk=>⟨⟨hk.2,⟨hk.1.2.1,hk.1.2.2⟩⟩,hk.1.1⟩)) hg hat);replace HO_113002:=am (Kd.V_afterv (ok:=(fun k_=>some k_ ≠ (.slice Ao28 t116.length co28:Value).ownBlock ∧ k_ ≠ gb101 ∧ k_ ≠ gb112)) (by (with_reducible repeat (first | apply Kd.V_alloc | apply Kd.V_drewN | apply Kd.V_drew));exact Kd.V_mono HO_113002.out (fun _ hk=>⟨⟨hk.2,⟨hk.1.2.1,hk.1.2.2⟩⟩,hk.1.1⟩)) hg hat);replace BK101:=am (bg BK101 hg (Kd.R_ne HO_7.out BK101.out d_c));replace BK112:=am (bg BK112 hg (Kd.R_ne HO_7.out BK112.out d_c));replace HO118:=am (Kd.R_over' aq40 (Kd.R_typed aq22) d_c hg);replace HB:=am (hb);have HO124:=am (ho);clear HO_7 ho hb hg hat))
   go_roundg k1
   case measure=>have:=HK1.out;omega
   case rel=>exact ⟨(y122),(wrap64 (x26_1 + 1)),aq8,H',⟨aq63⟩,⟨by (with_reducible repeat (first | apply Kd.R_alloc | apply Kd.R_drewN | apply Kd.R_drew));exact HO124.out⟩,⟨by (with_reducible repeat (first | apply Kd.V_alloc | apply Kd.V_drewN | apply Kd.V_drew));exact Kd.V_mono HO_24.out (fun _ hk=>⟨hk.2,⟨hk.1.2.1,hk.1.2.2⟩⟩)⟩,⟨by (with_reducible repeat (first | apply Kd.V_alloc | apply Kd.V_drewN | apply Kd.V_drew));exact Kd.V_mono HO_113002.out (fun _ hk=>⟨hk.2,⟨hk.1.2.1,hk.1.2.2⟩⟩)⟩,⟨aq1⟩,⟨aq20⟩,⟨aq10⟩⟩
mutual
def laws_FnExactNeedlessWalls.j0:Nat → List Int → Bool → List Int → Bool → ByteArray → ByteArray → Int → Option (Bool)
 | 0,_,_,_,_,_,_,_=>none
 | k + 1,x4,x5,x6,x37,x102000,x102001,x102002=>if x37 = true then (some false) else ((laws_markIntS.f k x6 1).bind fun bt118=>((laws_heldIntS.f k bt118.2 1).bind fun t120=>(if t120 < 0 then (some false) else (if t120 = bt118.1 then ((laws_toPuzzle.f x102000 x102001 x102002).bind fun bt121=>((impl_NeedlessWalls.f k bt121.1 bt121.2.1 bt121.2.2).bind fun bt124=>((laws_eqIntS.f k bt124.1 x4).bind fun t128=>(if t128 = true then (laws_FnExactNeedlessWalls.j1 k bt118.2 bt118.1 (bt124.2 != x5)) else (laws_FnExactNeedlessWalls.j1 k bt118.2 bt118.1 true))))) else (some false)))))
def laws_FnExactNeedlessWalls.j1:Nat → List Int → Int → Bool → Option (Bool)
 | 0,_,_,_=>none
 | k + 1,x6,x8,x63=>if x63 = true then (some false) else ((laws_heldIntS.f k x6 1).bind fun t129=>(if t129 < 0 then (some false) else (if t129 = x8 then (some true) else (some false))))
end
def laws_FnExactNeedlessWalls.f (k:Nat) (a0_0:ByteArray) (a0_1:ByteArray) (a0_2:Int):Option (Bool):=(laws_szPuzzle.f a0_0 a0_1 a0_2 1048576).bind fun t102=>(if t102 < 0 then (some true) else ((laws_toPuzzle.f a0_0 a0_1 a0_2).bind fun bt103=>((spec_NeedlessWalls.f bt103.1 bt103.2.1 bt103.2.2).bind fun bt106=>((laws_toPuzzle.f a0_0 a0_1 a0_2).bind fun bt110=>((impl_NeedlessWalls.f k bt110.1 bt110.2.1 bt110.2.2).bind fun bt113=>((laws_eqIntS.f k bt113.1 bt106.1).bind fun t117=>(if t117 = true then (laws_FnExactNeedlessWalls.j0 k bt106.1 bt106.2 bt113.1 (bt113.2 != bt106.2) a0_0 a0_1 a0_2) else (laws_FnExactNeedlessWalls.j0 k bt106.1 bt106.2 bt113.1 true a0_0 a0_1 a0_2))))))))
theorem laws_FnExactNeedlessWalls.mono_l:∀ k,(∀ y0 y1 y2 y3 y4 y5 y6,LeO (laws_FnExactNeedlessWalls.j0 k y0 y1 y2 y3 y4 y5 y6) (laws_FnExactNeedlessWalls.j0 (k + 1) y0 y1 y2 y3 y4 y5 y6)) ∧ (∀ y0 y1 y2,LeO (laws_FnExactNeedlessWalls.j1 k y0 y1 y2) (laws_FnExactNeedlessWalls.j1 (k + 1) y0 y1 y2))
 | 0=>⟨fun _ _ _ _ _ _ _ r h=>by simp [laws_FnExactNeedlessWalls.j0] at h,fun _ _ _ r h=>by simp [laws_FnExactNeedlessWalls.j1] at h⟩
 | k + 1=>by
  obtain ⟨ih0,ih1⟩:=laws_FnExactNeedlessWalls.mono_l k
  refine ⟨?_,?_⟩
  ·intro y0 y1 y2 y3 y4 y5 y6
   unfold laws_FnExactNeedlessWalls.j0
   have im0:=@impl_NeedlessWalls.mono;have im1:=@laws_eqIntS.mono;have im2:=@laws_heldIntS.mono;have im3:=@laws_markIntS.mono;exact mo
  ·intro y0 y1 y2
   unfold laws_FnExactNeedlessWalls.j1
   have im0:=@impl_NeedlessWalls.mono;have im1:=@laws_eqIntS.mono;have im2:=@laws_heldIntS.mono;have im3:=@laws_markIntS.mono;exact mo
theorem laws_FnExactNeedlessWalls.calls (k:Nat) (a0_0:ByteArray) (a0_1:ByteArray) (a0_2:Int) (r:Bool) (w:World) (h:laws_FnExactNeedlessWalls.f k a0_0 a0_1 a0_2 = some r) :
  Calls Tryz.prog 8 #[.agg #[.string a0_0,.string a0_1,.int .i64 a0_2]] w fun e w'=>e = .returned (.bool r) ∧ Below w.heap.size w w':=by
 have hu26:=Tryz.underlying26
 have HB:=am (Below.refl w.heap.size w)
 have H:((laws_szPuzzle.f a0_0 a0_1 a0_2 1048576).bind fun t102=>(if t102 < 0 then (some true) else ((laws_toPuzzle.f a0_0 a0_1 a0_2).bind fun bt103=>((spec_NeedlessWalls.f bt103.1 bt103.2.1 bt103.2.2).bind fun bt106=>((laws_toPuzzle.f a0_0 a0_1 a0_2).bind fun bt110=>((impl_NeedlessWalls.f k bt110.1 bt110.2.1 bt110.2.2).bind fun bt113=>((laws_eqIntS.f k bt113.1 bt106.1).bind fun t117=>(if t117 = true then (laws_FnExactNeedlessWalls.j0 k bt106.1 bt106.2 bt113.1 (bt113.2 != bt106.2) a0_0 a0_1 a0_2) else (laws_FnExactNeedlessWalls.j0 k bt106.1 bt106.2 bt113.1 true a0_0 a0_1 a0_2))))))))) = some r:=h
 clear h
 obtain ⟨t102,A2,H⟩:=bn H
 by_cases c3:t102 < 0
 ·rw [if_pos c3] at H
  have c3b0:=decide_eq_true c3
  clear c3
  obtain rfl:=Option.some.inj H
  go_enter Tryz.func8,Tryz.ntmps8
  go_wp2_with (first | (refine bx 1 #[.string a0_0,.string a0_1,.int .i64 a0_2] 26 ?_;intro gb101 hg w4 hbox hb;have BK101:=am (hbox);have GW101:=am ((by rw [hg];exact (below_size aq2):w.heap.size ≤ gb101));have GE101:=GW101;replace HB:=am (below_step aq2 hb);clear hb hbox hg;obtain ⟨hcz5_0,hcz5_1,hcz5_2,hfz5_0,hfz5_1,hfz5_2⟩:=blk3_ BK101.out) | ((with_reducible refine gate_callee (f:=16) rfl ?_);refine goesL_ (some 14) rfl rfl Tryz.func16 k_r rfl #[.agg #[.string a0_0,.string a0_1,.int .i64 a0_2],.int .i64 1048576] rfl aq3 ?_;(with_reducible refine (laws_szPuzzle.calls a0_0 a0_1 a0_2 1048576 t102 _ A2.out).mono ?_);rintro e w6 ⟨rfl,hb⟩;refine ⟨_,rfl,?_⟩;replace BK101:=am (bb BK101 hb);replace HB:=am (below_step aq0 hb);(try clear hb)))
  go_ret
  exact ⟨aq7,aq0⟩
 rw [if_neg c3] at H
 have c3b0:=decide_eq_false c3
 clear c3
 replace H:=Option.bind_eq_some_iff.mp H
 obtain ⟨⟨t103,t104,t105⟩,A70,H⟩:=H
 replace H:((spec_NeedlessWalls.f t103 t104 t105).bind fun bt106=>((laws_toPuzzle.f a0_0 a0_1 a0_2).bind fun bt110=>((impl_NeedlessWalls.f k bt110.1 bt110.2.1 bt110.2.2).bind fun bt113=>((laws_eqIntS.f k bt113.1 bt106.1).bind fun t117=>(if t117 = true then (laws_FnExactNeedlessWalls.j0 k bt106.1 bt106.2 bt113.1 (bt113.2 != bt106.2) a0_0 a0_1 a0_2) else (laws_FnExactNeedlessWalls.j0 k bt106.1 bt106.2 bt113.1 true a0_0 a0_1 a0_2)))))) = some r:=H
 have A7:=am A70
 clear A70
 replace H:=Option.bind_eq_some_iff.mp H
 obtain ⟨⟨t106,t109⟩,A80,H⟩:=H
 replace H:((laws_toPuzzle.f a0_0 a0_1 a0_2).bind fun bt110=>((impl_NeedlessWalls.f k bt110.1 bt110.2.1 bt110.2.2).bind fun bt113=>((laws_eqIntS.f k bt113.1 t106).bind fun t117=>(if t117 = true then (laws_FnExactNeedlessWalls.j0 k t106 t109 bt113.1 (bt113.2 != t109) a0_0 a0_1 a0_2) else (laws_FnExactNeedlessWalls.j0 k t106 t109 bt113.1 true a0_0 a0_1 a0_2))))) = some r:=H
 have A8:=am A80
 clear A80
 replace H:=Option.bind_eq_some_iff.mp H
 obtain ⟨⟨t110,t111,t112⟩,A90,H⟩:=H
 replace H:((impl_NeedlessWalls.f k t110 t111 t112).bind fun bt113=>((laws_eqIntS.f k bt113.1 t106).bind fun t117=>(if t117 = true then (laws_FnExactNeedlessWalls.j0 k t106 t109 bt113.1 (bt113.2 != t109) a0_0 a0_1 a0_2) else (laws_FnExactNeedlessWalls.j0 k t106 t109 bt113.1 true a0_0 a0_1 a0_2)))) = some r:=H
 have A9:=am A90
 clear A90
 replace H:=Option.bind_eq_some_iff.mp H
 obtain ⟨⟨t113,t116⟩,A100,H⟩:=H
 replace H:((laws_eqIntS.f k t113 t106).bind fun t117=>(if t117 = true then (laws_FnExactNeedlessWalls.j0 k t106 t109 t113 (t116 != t109) a0_0 a0_1 a0_2) else (laws_FnExactNeedlessWalls.j0 k t106 t109 t113 true a0_0 a0_1 a0_2))) = some r:=H
 have A10:=am A100
 clear A100
 have HC11:=am H
 clear H
 go_enter Tryz.func8,Tryz.ntmps8
 go_upto_region 7 with (first | (refine bx 1 #[.string a0_0,.string a0_1,.int .i64 a0_2] 26 ?_;intro gb101 hg w12 hbox hb;have BK101:=am (hbox);have GW101:=am ((by rw [hg];exact (below_size aq2):w.heap.size ≤ gb101));have GE101:=GW101;replace HB:=am (below_step aq2 hb);clear hb hbox hg;obtain ⟨hcz13_0,hcz13_1,hcz13_2,hfz13_0,hfz13_1,hfz13_2⟩:=blk3_ BK101.out) | ((with_reducible refine gate_callee (f:=16) rfl ?_);refine goesL_ (some 14) rfl rfl Tryz.func16 k_r rfl #[.agg #[.string a0_0,.string a0_1,.int .i64 a0_2],.int .i64 1048576] rfl aq3 ?_;(with_reducible refine (laws_szPuzzle.calls a0_0 a0_1 a0_2 1048576 t102 _ A2.out).mono ?_);rintro e w14 ⟨rfl,hb⟩;refine ⟨_,rfl,?_⟩;replace BK101:=am (bb BK101 hb);replace HB:=am (below_step aq0 hb);(try clear hb);obtain ⟨hcz15_0,hcz15_1,hcz15_2,hfz15_0,hfz15_1,hfz15_2⟩:=blk3_ BK101.out) | ((with_reducible refine gate_callee (f:=18) rfl ?_);refine goesL_ (some 19) rfl rfl Tryz.func18 k_r rfl #[.agg #[.string a0_0,.string a0_1,.int .i64 a0_2]] rfl aq3 ?_;(with_reducible refine (laws_toPuzzle.calls a0_0 a0_1 a0_2 t103 t104 t105 _ A7.out).mono ?_);rintro e w16 ⟨rfl,hb⟩;refine ⟨_,rfl,?_⟩;replace BK101:=am (bb BK101 hb);replace HB:=am (below_step aq0 hb);(try clear hb)) | ((with_reducible refine gate_callee (f:=29) rfl ?_);refine goesL_ (some 20) rfl rfl Tryz.func29 k_r rfl #[.agg #[.string t103,.string t104,.int .i64 t105]] rfl aq3 ?_;(with_reducible refine (spec_NeedlessWalls.calls t103 t104 t105 t106 t109 _ A8.out).mono ?_);rintro e w17 ⟨v107,rfl,ho0,hb⟩;refine ⟨_,rfl,?_⟩;have HO108:=am (Kd.R_lower ho0 (below_size aq0));replace BK101:=am (bb BK101 hb);replace HB:=am (below_step aq0 hb);(try clear hb);(try clear ho0);obtain ⟨hcz18_0,hcz18_1,hcz18_2,hfz18_0,hfz18_1,hfz18_2⟩:=blk3_ BK101.out) | ((with_reducible refine gate_callee (f:=18) rfl ?_);refine goesL_ (some 25) rfl rfl Tryz.func18 k_r rfl #[.agg #[.string a0_0,.string a0_1,.int .i64 a0_2]] rfl aq3 ?_;(with_reducible refine (laws_toPuzzle.calls a0_0 a0_1 a0_2 t110 t111 t112 _ A9.out).mono ?_);rintro e w19 ⟨rfl,hb⟩;refine ⟨_,rfl,?_⟩;replace HO108:=am (Kd.R_below aq76 hb);replace BK101:=am (bb BK101 hb);replace HB:=am (below_step aq0 hb);(try clear hb)) | ((with_reducible refine gate_callee (f:=30) rfl ?_);refine goesL_ (some 26) rfl rfl Tryz.func30 k_r rfl #[.agg #[.string t110,.string t111,.int .i64 t112]] rfl aq3 ?_;(with_reducible refine (impl_NeedlessWalls.calls k t110 t111 t112 t113 t116 _ A10.out).mono ?_);rintro e w20 ⟨v114,rfl,ho0,hb⟩;refine ⟨_,rfl,?_⟩;have HO115:=am (Kd.R_lower (Kd.R_new' ho0 (Kd.R_lt aq76)) (below_size aq0));replace HO108:=am (Kd.R_elder' aq76 (Kd.R_base ho0) hb);replace BK101:=am (bb BK101 hb);replace HB:=am (below_step aq0 hb);(try clear hb);(try clear ho0)))
 (try simp only [Act.put,List.setIfInBounds_toArray,List.set_cons_zero,List.set_cons_succ])
 go_cut [37] (fun v37 wc=>∃ (kq:Nat) (x37_10:Bool),v37 = .bool x37_10 ∧ Aside0 (laws_FnExactNeedlessWalls.j0 kq t106 t109 t113 x37_10 a0_0 a0_1 a0_2 = some r) ∧ Aside0 (kq ≤ k) ∧ Aside0 (Kd.R (Kd.int .i64) 3 wc w.heap.size (fun k_=>some k_ ≠ (v114:Value).ownBlock) v107 t106) ∧ Aside0 (Kd.R (Kd.int .i64) 3 wc w.heap.size (fun k_=>some k_ ≠ (v107:Value).ownBlock) v114 t113) ∧ Aside0 (wc.heap[gb101]? = some (.cells #[.string a0_0,.string a0_1,.int .i64 a0_2] 26 (0,0))) ∧ Aside0 (Below w.heap.size w wc))
 case first =>
  have H:=HC11.out
  clear HC11
  obtain ⟨t117,A21,H⟩:=bn H
  by_cases c22:t117 = true
  ·subst c22
   rw [if_pos rfl] at H
   have H':=am H
   clear H
   obtain ⟨Ao23,co23,eo23⟩:=Kd.R_slice HO115.out
   subst eo23
   obtain ⟨Ao24,co24,eo24⟩:=Kd.R_slice HO108.out
   subst eo24
   go_wp2_with (first | ((with_reducible refine gate_callee (f:=31) rfl ?_);refine goesL_ (some 31) rfl rfl Tryz.func31 k_r rfl #[.slice Ao23 t113.length co23,.slice Ao24 t106.length co24] rfl aq3 ?_;(with_reducible refine (laws_eqIntS.calls k _ _ t113 _ _ t106 true _ ?side1 ?side2 ?side3 ?side4 A21.out).mono ?_);(case side1=>exact aq49);(case side2=>exact (Kd.R_reads' HO115.out).2.1);(case side3=>exact aq94);(case side4=>exact (Kd.R_reads' HO108.out).2.1);rintro e w' ⟨rfl,⟨nd,rfl⟩⟩;refine ⟨_,rfl,?_⟩))
   go_meet
   case rel=>exact ⟨_,((t116 != t109)),aq8,H',⟨aq81⟩,⟨aq109⟩,⟨aq108⟩,⟨aq1⟩,⟨aq0⟩⟩
  replace c22:=Bool.eq_false_iff.mpr c22
  subst c22
  rw [if_neg Bool.false_ne_true] at H
  have H':=am H
  clear H
  obtain ⟨Ao25,co25,eo25⟩:=Kd.R_slice HO115.out
  subst eo25
  obtain ⟨Ao26,co26,eo26⟩:=Kd.R_slice HO108.out
  subst eo26
  go_wp2_with (first | ((with_reducible refine gate_callee (f:=31) rfl ?_);refine goesL_ (some 31) rfl rfl Tryz.func31 k_r rfl #[.slice Ao25 t113.length co25,.slice Ao26 t106.length co26] rfl aq3 ?_;(with_reducible refine (laws_eqIntS.calls k _ _ t113 _ _ t106 false _ ?side1 ?side2 ?side3 ?side4 A21.out).mono ?_);(case side1=>exact aq49);(case side2=>exact (Kd.R_reads' HO115.out).2.1);(case side3=>exact aq94);(case side4=>exact (Kd.R_reads' HO108.out).2.1);rintro e w' ⟨rfl,⟨nd,rfl⟩⟩;refine ⟨_,rfl,?_⟩))
  go_meet
  case rel=>exact ⟨_,(true),aq8,H',⟨aq81⟩,⟨aq109⟩,⟨aq108⟩,⟨aq1⟩,⟨aq0⟩⟩
 case rest =>
  clear HC11
  try clear c1
  try clear c2
  try clear p2
  try clear c3
  try clear c3b0
  try clear c8
  try clear c16
  try clear c18
  try clear c22
  try clear hcz13_0
  try clear hcz13_1
  try clear hcz13_2
  try clear hcz15_0
  try clear hcz15_1
  try clear hcz15_2
  try clear hcz18_0
  try clear hcz18_1
  try clear hcz18_2
  try clear hcz5_0
  try clear hcz5_1
  try clear hcz5_2
  try clear hfz13_0
  try clear hfz13_1
  try clear hfz13_2
  try clear hfz15_0
  try clear hfz15_1
  try clear hfz15_2
  try clear hfz18_0
  try clear hfz18_1
  try clear hfz18_2
  try clear hfz5_0
  try clear hfz5_1
  try clear hfz5_2
  obtain ⟨kq,x37_10,rfl,HA,HJ10,HO_4,HO_6,BK101,HB⟩:=hcut
  cases kq with
  | zero=>exact absurd HA.out (by simp [laws_FnExactNeedlessWalls.j0])
  | succ kj10 =>
   have H:=HA.out
   clear HA
   simp only [laws_FnExactNeedlessWalls.j0] at H
   by_cases c27:x37_10 = true
   ·subst c27
    rw [if_pos rfl] at H
    obtain rfl:=Option.some.inj H
    go_wp2
    go_ret
    exact ⟨aq7,aq0⟩
   replace c27:=Bool.eq_false_iff.mpr c27
   subst c27
   rw [if_neg Bool.false_ne_true] at H
   replace H:=Option.bind_eq_some_iff.mp H
   obtain ⟨⟨t118,t119⟩,A280,H⟩:=H
   replace H:((laws_heldIntS.f kj10 t119 1).bind fun t120=>(if t120 < 0 then (some false) else (if t120 = t118 then ((laws_toPuzzle.f a0_0 a0_1 a0_2).bind fun bt121=>((impl_NeedlessWalls.f kj10 bt121.1 bt121.2.1 bt121.2.2).bind fun bt124=>((laws_eqIntS.f kj10 bt124.1 t106).bind fun t128=>(if t128 = true then (laws_FnExactNeedlessWalls.j1 kj10 t119 t118 (bt124.2 != t109)) else (laws_FnExactNeedlessWalls.j1 kj10 t119 t118 true))))) else (some false)))) = some r:=H
   have A28:=am A280
   clear A280
   obtain ⟨t120,A29,H⟩:=bn H
   by_cases c30:t120 < 0
   ·rw [if_pos c30] at H
    have c30b0:=decide_eq_true c30
    clear c30
    obtain rfl:=Option.some.inj H
    obtain ⟨Ao31,co31,eo31⟩:=Kd.R_slice HO_6.out
    subst eo31
    go_wp2_with (first | ((with_reducible refine gate_callee (f:=32) rfl ?_);refine goesL_ (some 40) rfl rfl Tryz.func32 k_r rfl #[.slice Ao31 t113.length co31,.int .i64 1] rfl aq3 ?_;(with_reducible refine (laws_markIntS.calls kj10 (fun k_=>some k_ = (.slice Ao31 t113.length co31:Value).ownBlock) (.slice Ao31 t113.length co31) t113 1 t118 t119 w _ ?side1 ?side2 A28.out).mono ?_);(case side1=>exact aq0);(case side2=>exact Kd.R_tight rfl HO_6.out);rintro e w32 ⟨rfl,hy0,hb,hkp⟩;refine ⟨_,rfl,?_⟩;replace HO_4:=am (Kd.R_mono (ok':=fun k_=>some k_ ≠ (.slice Ao31 t113.length co31:Value).ownBlock) (Kd.R_keptB (HO_4.out) hkp (fun k_ hk_ hs_=>(hk_) hs_)) (fun k_ hk_=>hk_.1));replace BK101:=am (blk_kept aq1 hkp (fun hs_=>(fun e_=>(Kd.R_ne HO_6.out BK101.out d_c) e_) hs_));replace HO_6:=am (Kd.R_reok rfl hy0 (fun k_ e_=>HO_6.out.1 k_ e_));replace HB:=am (hb);(try clear hb);(try clear hkp);(try clear hy0)) | ((with_reducible refine gate_callee (f:=33) rfl ?_);refine goesL_ (some 43) rfl rfl Tryz.func33 k_r rfl #[.slice Ao31 t119.length co31,.int .i64 1] rfl aq50 ?_;(with_reducible refine (laws_heldIntS.calls kj10 _ _ t119 1 t120 _ ?side1 ?side2 A29.out).mono ?_);(case side1=>exact aq31);(case side2=>exact aq85);rintro e w' ⟨rfl,⟨nd,rfl⟩⟩;refine ⟨_,rfl,?_⟩))
    go_ret
    exact ⟨aq7,aq0⟩
   rw [if_neg c30] at H
   have c30b0:=decide_eq_false c30
   clear c30
   by_cases c33:t120 = t118
   rotate_left
   ·rw [if_neg c33] at H
    have c33b0:=beq_eq_false_iff_ne.mpr c33
    have c33b1:=bne_iff_ne.mpr c33
    obtain rfl:=Option.some.inj H
    obtain ⟨Ao52,co52,eo52⟩:=Kd.R_slice HO_6.out
    subst eo52
    go_wp2_with (first | ((with_reducible refine gate_callee (f:=32) rfl ?_);refine goesL_ (some 40) rfl rfl Tryz.func32 k_r rfl #[.slice Ao52 t113.length co52,.int .i64 1] rfl aq3 ?_;(with_reducible refine (laws_markIntS.calls kj10 (fun k_=>some k_ = (.slice Ao52 t113.length co52:Value).ownBlock) (.slice Ao52 t113.length co52) t113 1 t118 t119 w _ ?side1 ?side2 A28.out).mono ?_);(case side1=>exact aq0);(case side2=>exact Kd.R_tight rfl HO_6.out);rintro e w53 ⟨rfl,hy0,hb,hkp⟩;refine ⟨_,rfl,?_⟩;replace HO_4:=am (Kd.R_mono (ok':=fun k_=>some k_ ≠ (.slice Ao52 t113.length co52:Value).ownBlock) (Kd.R_keptB (HO_4.out) hkp (fun k_ hk_ hs_=>(hk_) hs_)) (fun k_ hk_=>hk_.1));replace BK101:=am (blk_kept aq1 hkp (fun hs_=>(fun e_=>(Kd.R_ne HO_6.out BK101.out d_c) e_) hs_));replace HO_6:=am (Kd.R_reok rfl hy0 (fun k_ e_=>HO_6.out.1 k_ e_));replace HB:=am (hb);(try clear hb);(try clear hkp);(try clear hy0)) | ((with_reducible refine gate_callee (f:=33) rfl ?_);refine goesL_ (some 43) rfl rfl Tryz.func33 k_r rfl #[.slice Ao52 t119.length co52,.int .i64 1] rfl aq50 ?_;(with_reducible refine (laws_heldIntS.calls kj10 _ _ t119 1 t120 _ ?side1 ?side2 A29.out).mono ?_);(case side1=>exact aq31);(case side2=>exact aq85);rintro e w' ⟨rfl,⟨nd,rfl⟩⟩;refine ⟨_,rfl,?_⟩))
    go_ret
    exact ⟨aq7,aq0⟩
   rw [if_pos c33] at H
   have c33b0:=beq_iff_eq.mpr c33
   have c33b1:=bne_eq_false_iff_eq.mpr c33
   clear c33
   replace H:=Option.bind_eq_some_iff.mp H
   obtain ⟨⟨t121,t122,t123⟩,A340,H⟩:=H
   replace H:((impl_NeedlessWalls.f kj10 t121 t122 t123).bind fun bt124=>((laws_eqIntS.f kj10 bt124.1 t106).bind fun t128=>(if t128 = true then (laws_FnExactNeedlessWalls.j1 kj10 t119 t118 (bt124.2 != t109)) else (laws_FnExactNeedlessWalls.j1 kj10 t119 t118 true)))) = some r:=H
   have A34:=am A340
   clear A340
   replace H:=Option.bind_eq_some_iff.mp H
   obtain ⟨⟨t124,t127⟩,A350,H⟩:=H
   replace H:((laws_eqIntS.f kj10 t124 t106).bind fun t128=>(if t128 = true then (laws_FnExactNeedlessWalls.j1 kj10 t119 t118 (t127 != t109)) else (laws_FnExactNeedlessWalls.j1 kj10 t119 t118 true))) = some r:=H
   have A35:=am A350
   clear A350
   have HC36:=am H
   clear H
   obtain ⟨Ao37,co37,eo37⟩:=Kd.R_slice HO_6.out
   subst eo37
   go_upto_region 18 with (first | ((with_reducible refine gate_callee (f:=32) rfl ?_);refine goesL_ (some 40) rfl rfl Tryz.func32 k_r rfl #[.slice Ao37 t113.length co37,.int .i64 1] rfl aq3 ?_;(with_reducible refine (laws_markIntS.calls kj10 (fun k_=>some k_ = (.slice Ao37 t113.length co37:Value).ownBlock) (.slice Ao37 t113.length co37) t113 1 t118 t119 w _ ?side1 ?side2 A28.out).mono ?_);(case side1=>exact aq0);(case side2=>exact Kd.R_tight rfl HO_6.out);rintro e w38 ⟨rfl,hy0,hb,hkp⟩;refine ⟨_,rfl,?_⟩;replace HO_4:=am (Kd.R_mono (ok':=fun k_=>some k_ ≠ (.slice Ao37 t113.length co37:Value).ownBlock) (Kd.R_keptB (HO_4.out) hkp (fun k_ hk_ hs_=>(hk_) hs_)) (fun k_ hk_=>hk_.1));replace BK101:=am (blk_kept aq1 hkp (fun hs_=>(fun e_=>(Kd.R_ne HO_6.out BK101.out d_c) e_) hs_));replace HO_6:=am (Kd.R_reok rfl hy0 (fun k_ e_=>HO_6.out.1 k_ e_));replace HB:=am (hb);(try clear hb);(try clear hkp);(try clear hy0)) | ((with_reducible refine gate_callee (f:=33) rfl ?_);refine goesL_ (some 43) rfl rfl Tryz.func33 k_r rfl #[.slice Ao37 t119.length co37,.int .i64 1] rfl aq50 ?_;(with_reducible refine (laws_heldIntS.calls kj10 _ _ t119 1 t120 _ ?side1 ?side2 A29.out).mono ?_);(case side1=>exact aq31);(case side2=>exact aq85);rintro e w' ⟨rfl,⟨nd,rfl⟩⟩;refine ⟨_,rfl,?_⟩;obtain ⟨hcz39_0,hcz39_1,hcz39_2,hfz39_0,hfz39_1,hfz39_2⟩:=blk3_ BK101.out) | ((with_reducible refine gate_callee (f:=18) rfl ?_);refine goesL_ (some 51) rfl rfl Tryz.func18 k_r rfl #[.agg #[.string a0_0,.string a0_1,.int .i64 a0_2]] rfl aq3 ?_;(with_reducible refine (laws_toPuzzle.calls a0_0 a0_1 a0_2 t121 t122 t123 _ A34.out).mono ?_);rintro e w40 ⟨rfl,hb⟩;refine ⟨_,rfl,?_⟩;replace HO_4:=am (Kd.R_below aq78 hb);replace HO_6:=am (Kd.R_below aq77 hb);replace BK101:=am (bb BK101 hb);replace HB:=am (below_step aq0 hb);(try clear hb)) | ((with_reducible refine gate_callee (f:=30) rfl ?_);refine goesL_ (some 52) rfl rfl Tryz.func30 k_r rfl #[.agg #[.string t121,.string t122,.int .i64 t123]] rfl aq3 ?_;(with_reducible refine (impl_NeedlessWalls.calls kj10 t121 t122 t123 t124 t127 _ A35.out).mono ?_);rintro e w41 ⟨v125,rfl,ho0,hb⟩;refine ⟨_,rfl,?_⟩;have HO126:=am (Kd.R_lower (Kd.R_new' (Kd.R_new' ho0 (Kd.R_lt aq78)) (Kd.R_lt aq77)) (below_size aq0));replace HO_4:=am (Kd.R_elder' aq78 (Kd.R_base ho0) hb);replace HO_6:=am (Kd.R_elder' aq77 (Kd.R_base ho0) hb);replace BK101:=am (bb BK101 hb);replace HB:=am (below_step aq0 hb);(try clear hb);(try clear ho0)))
   (try simp only [Act.put,List.setIfInBounds_toArray,List.set_cons_zero,List.set_cons_succ])
   go_cut [63] (fun v63 wc=>∃ (kq:Nat) (x63_35:Bool),v63 = .bool x63_35 ∧ Aside0 (laws_FnExactNeedlessWalls.j1 kq t119 t118 x63_35 = some r) ∧ Aside0 (kq ≤ kj10) ∧ Aside0 (Kd.R (Kd.int .i64) 3 wc w.heap.size (fun _=>True) (.slice Ao37 t113.length co37) t119) ∧ Aside0 (wc.heap[gb101]? = some (.cells #[.string a0_0,.string a0_1,.int .i64 a0_2] 26 (0,0))) ∧ Aside0 (Below w.heap.size w wc))
   case first =>
    have H:=HC36.out
    clear HC36
    obtain ⟨t128,A42,H⟩:=bn H
    by_cases c43:t128 = true
    ·subst c43
     rw [if_pos rfl] at H
     have H':=am H
     clear H
     obtain ⟨Ao44,co44,eo44⟩:=Kd.R_slice HO126.out
     subst eo44
     obtain ⟨Ao45,co45,eo45⟩:=Kd.R_slice HO_4.out
     subst eo45
     go_wp2_with (first | ((with_reducible refine gate_callee (f:=31) rfl ?_);refine goesL_ (some 57) rfl rfl Tryz.func31 k_r rfl #[.slice Ao44 t124.length co44,.slice Ao45 t106.length co45] rfl aq3 ?_;(with_reducible refine (laws_eqIntS.calls kj10 _ _ t124 _ _ t106 true _ ?side1 ?side2 ?side3 ?side4 A42.out).mono ?_);(case side1=>exact aq91);(case side2=>exact (Kd.R_reads' HO126.out).2.1);(case side3=>exact aq99);(case side4=>exact (Kd.R_reads' HO_4.out).2.1);rintro e w' ⟨rfl,⟨nd,rfl⟩⟩;refine ⟨_,rfl,?_⟩))
     go_meet
     case rel=>exact ⟨_,((t127 != t109)),aq8,H',⟨by have:=HJ10.out;first | omega | exact Nat.le_refl _⟩,⟨aq107⟩,⟨aq1⟩,⟨aq0⟩⟩
    replace c43:=Bool.eq_false_iff.mpr c43
    subst c43
    rw [if_neg Bool.false_ne_true] at H
    have H':=am H
    clear H
    obtain ⟨Ao46,co46,eo46⟩:=Kd.R_slice HO126.out
    subst eo46
    obtain ⟨Ao47,co47,eo47⟩:=Kd.R_slice HO_4.out
    subst eo47
    go_wp2_with (first | ((with_reducible refine gate_callee (f:=31) rfl ?_);refine goesL_ (some 57) rfl rfl Tryz.func31 k_r rfl #[.slice Ao46 t124.length co46,.slice Ao47 t106.length co47] rfl aq3 ?_;(with_reducible refine (laws_eqIntS.calls kj10 _ _ t124 _ _ t106 false _ ?side1 ?side2 ?side3 ?side4 A42.out).mono ?_);(case side1=>exact aq91);(case side2=>exact (Kd.R_reads' HO126.out).2.1);(case side3=>exact aq99);(case side4=>exact (Kd.R_reads' HO_4.out).2.1);rintro e w' ⟨rfl,⟨nd,rfl⟩⟩;refine ⟨_,rfl,?_⟩))
    go_meet
    case rel=>exact ⟨_,(true),aq8,H',⟨by have:=HJ10.out;first | omega | exact Nat.le_refl _⟩,⟨aq107⟩,⟨aq1⟩,⟨aq0⟩⟩
   case rest =>
    clear HC36
    try clear c1
    try clear c2
    try clear p2
    try clear c3
    try clear c3b0
    try clear c4
    try clear c8
    try clear c16
    try clear c18
    try clear c22
    try clear c27
    try clear c29
    try clear c30
    try clear c30b0
    try clear c31
    try clear c32
    try clear c33
    try clear c33b0
    try clear c33b1
    try clear c43
    try clear hcz13_0
    try clear hcz13_1
    try clear hcz13_2
    try clear hcz15_0
    try clear hcz15_1
    try clear hcz15_2
    try clear hcz18_0
    try clear hcz18_1
    try clear hcz18_2
    try clear hcz39_0
    try clear hcz39_1
    try clear hcz39_2
    try clear hcz5_0
    try clear hcz5_1
    try clear hcz5_2
    try clear hfz13_0
    try clear hfz13_1
    try clear hfz13_2
    try clear hfz15_0
    try clear hfz15_1
    try clear hfz15_2
    try clear hfz18_0
    try clear hfz18_1
    try clear hfz18_2
    try clear hfz39_0
    try clear hfz39_1
    try clear hfz39_2
    try clear hfz5_0
    try clear hfz5_1
    try clear hfz5_2
    try clear p2
    obtain ⟨kq,x63_35,rfl,HA,HJ35,HO_6,BK101,HB⟩:=hcut
    have hl6_35:=(Kd.R_reads' HO_6.out).1
    rw [hl6_35] at HO_6
    (try simp only [hl6_35])
    (try simp only [hl6_35] at BK101)
    cases kq with
    | zero=>exact absurd HA.out (by simp [laws_FnExactNeedlessWalls.j1])
    | succ kj35 =>
     have H:=HA.out
     clear HA
     simp only [laws_FnExactNeedlessWalls.j1] at H
     by_cases c48:x63_35 = true
     ·subst c48
      rw [if_pos rfl] at H
      obtain rfl:=Option.some.inj H
      go_wp2
      go_ret
      exact ⟨aq7,aq0⟩
     replace c48:=Bool.eq_false_iff.mpr c48
     subst c48
     rw [if_neg Bool.false_ne_true] at H
     obtain ⟨t129,A49,H⟩:=bn H
     by_cases c50:t129 < 0
     ·rw [if_pos c50] at H
      have c50b0:=decide_eq_true c50
      clear c50
      obtain rfl:=Option.some.inj H
      go_wp2_with (first | ((with_reducible refine gate_callee (f:=33) rfl ?_);refine goesL_ (some 66) rfl rfl Tryz.func33 k_r rfl #[.slice Ao37 t119.length co37,.int .i64 1] rfl aq3 ?_;(with_reducible refine (laws_heldIntS.calls kj35 _ _ t119 1 t129 _ ?side1 ?side2 A49.out).mono ?_);(case side1=>exact aq31);(case side2=>exact (Kd.R_reads' HO_6.out).2.1);rintro e w' ⟨rfl,⟨nd,rfl⟩⟩;refine ⟨_,rfl,?_⟩))
      go_ret
      exact ⟨aq7,aq0⟩
     rw [if_neg c50] at H
     have c50b0:=decide_eq_false c50
     clear c50
     by_cases c51:t129 = t118
     rotate_left
     ·rw [if_neg c51] at H
      have c51b0:=beq_eq_false_iff_ne.mpr c51
      have c51b1:=bne_iff_ne.mpr c51
      obtain rfl:=Option.some.inj H
      go_wp2_with (first | ((with_reducible refine gate_callee (f:=33) rfl ?_);refine goesL_ (some 66) rfl rfl Tryz.func33 k_r rfl #[.slice Ao37 t119.length co37,.int .i64 1] rfl aq3 ?_;(with_reducible refine (laws_heldIntS.calls kj35 _ _ t119 1 t129 _ ?side1 ?side2 A49.out).mono ?_);(case side1=>exact aq31);(case side2=>exact (Kd.R_reads' HO_6.out).2.1);rintro e w' ⟨rfl,⟨nd,rfl⟩⟩;refine ⟨_,rfl,?_⟩))
      go_ret
      exact ⟨aq7,aq0⟩
     rw [if_pos c51] at H
     have c51b0:=beq_iff_eq.mpr c51
     have c51b1:=bne_eq_false_iff_eq.mpr c51
     clear c51
     obtain rfl:=Option.some.inj H
     go_wp2_with (first | ((with_reducible refine gate_callee (f:=33) rfl ?_);refine goesL_ (some 66) rfl rfl Tryz.func33 k_r rfl #[.slice Ao37 t119.length co37,.int .i64 1] rfl aq3 ?_;(with_reducible refine (laws_heldIntS.calls kj35 _ _ t119 1 t129 _ ?side1 ?side2 A49.out).mono ?_);(case side1=>exact aq31);(case side2=>exact (Kd.R_reads' HO_6.out).2.1);rintro e w' ⟨rfl,⟨nd,rfl⟩⟩;refine ⟨_,rfl,?_⟩))
     go_ret
     exact ⟨aq7,aq0⟩
end Go.Proofs.YtldhkbiomingbaaGreatDoor.F

namespace Go.Proofs.YtldhkbiomingbaaGreatDoor.F
open Go.RowKit Go.Proofs.YtldhkbiomingbaaGreatDoor Go.YW.PrintWords Go.YW.PrintMore
theorem impl_LengthOf_ev (t n:ByteArray) (g:Int) (ht:t.size < 4294967281):Ev (fun k=>impl_LengthOf.f k t n g) ((if (puFar t n g).2 = true then (puFar t n g).1 else 0),(puFar t n g).2):=by
 obtain ⟨l1,l2⟩:=solI_len t n g
 have hL:Ev (fun k=>impl_LengthOf.f k t n g) ((((solI t n g).1.size:Nat):Int),(solI t n g).2):=Ev.bind (impl_SolutionOf_ev t n g ht) (Ev.now _)
 rw [l1,l2] at hL
 exact hL
theorem VG_free {w h:Nat} {cs:List Int} (v:VG w h cs) (i:Nat):VG w h (cs.set i 46):=by
 refine ⟨v.w1,v.w7,v.h1,v.h7,by rw [List.length_set];exact v.len,v.small,fun c hc=>?_,?_⟩
 ·rcases List.mem_or_eq_of_mem_set hc with h | h
  ·exact v.cell c h
  ·subst h;decide
 ·rw [namesOk_iff]
  intro n h1 h2
  refine Nat.le_trans ?_ ((namesOk_iff cs).1 v.names n h1 h2)
  by_cases hi:i < cs.length
  rotate_left
  ·rw [List.set_eq_of_length_le o_m]
   exact Nat.le_refl _
  rw [List.count_set hi]
  have:((46:Int) == n) = false:=by rw [beq_eq_false_iff_ne];omega
  rw [this]
  simp
theorem own_eq (a b:Int) {cs:List Int} (h0:0 < cs.length) (hl:cs.length ≤ 1000):impl_tray_own.f a b cs = some (a,b,cs):=by
 unfold impl_tray_own.f slices_Clone.f
 rw [if_pos ⟨h0,by omega⟩];rfl
theorem need_l0 {t n:ByteArray} {g:Int} {w h:Nat} {cs:List Int} (v:VG w h cs) (far:Int):∀ (d i:Nat),i + d = cs.length →
  Ev (fun k=>impl_NeedlessWalls.l0 k far (needL w h cs n g far i) cs (cs.length:Int) (i:Int) t n g w h cs) (needL w h cs n g far cs.length,true)
 | 0,i,hi=>by
  obtain rfl:i = cs.length:=by omega
  exact Ev.step (fun k=>by rw [impl_NeedlessWalls.l0,if_neg o_m]) (Ev.now _)
 | d + 1,i,hi=>by
  have hlt:i < cs.length:=by omega
  have hsm:=v.small
  have hlen:=v.len
  have ih:=need_l0 (t:=t) (n:=n) (g:=g) v far d (i + 1) o_m
  have hW:wrap64 ((i:Int) + 1) = ((i + 1:Nat):Int):=w64t (n:=i + 1) o_m
  have hrd:rd cs (i:Int) = cs.getD i 0:=by unfold rd;rw [Int.toNat_natCast]
  rw [needL_succ] at ih
  by_cases hc:cs.getD i 0 = 35
  rotate_left
  ·have hnb:needB w h cs n g far i = false:=by unfold needB;rw [decide_eq_false hc,Bool.false_and]
   rw [hnb,if_neg Bool.false_ne_true] at ih
   refine Ev.step (fun k=>?_) ih
   rw [impl_NeedlessWalls.l0,if_pos o_m,if_pos o_m,if_pos o_m,hrd,if_neg hc,hW]
  have v2:=VG_free v i
  obtain ⟨tx,htx⟩:∃ x,textB (w,h,cs.set i 46) = x:=⟨_,rfl⟩
  have hts:tx.size ≤ 42:=by rw [← htx];exact textB_small (g:=(w,h,cs.set i 46)) v2
  have hL:=impl_LengthOf_ev tx n g o_m
  have hnb:needB w h cs n g far i = ((puFar tx n g).2 && decide ((puFar tx n g).1 = far)):=by
   unfold needB
   rw [htx,decide_eq_true hc,Bool.true_and]
  have hwith:impl_tray_with.f (w:Int) (h:Int) cs (i:Int) 46 = some ((w:Int),(h:Int),cs.set i 46):=by
   unfold impl_tray_with.f
   rw [own_eq _ _ o_m o_m,Option.bind_some]
   simp only
   rw [if_pos o_m,if_pos o_m,Int.toNat_natCast]
  have htext:impl_tray_text.f (w:Int) (h:Int) (cs.set i 46) = some tx:=by rw [← htx];exact impl_text_eq (g:=(w,h,cs.set i 46)) v2
  have hlen2:=needL_len w h cs n g far i
  refine Ev.step (f:=fun k=>(impl_LengthOf.f k tx n g).bind fun bt120=>(if bt120.2 = true then (if bt120.1 = far then (impl_NeedlessWalls.l0 k far (needL w h cs n g far i ++ [(i:Int)]) cs (cs.length:Int) ((i + 1:Nat):Int) t n g w h cs) else (impl_NeedlessWalls.l0 k far (needL w h cs n g far i) cs (cs.length:Int) ((i + 1:Nat):Int) t n g w h cs)) else (impl_NeedlessWalls.l0 k far (needL w h cs n g far i) cs (cs.length:Int) ((i + 1:Nat):Int) t n g w h cs))) (fun k=>?_) ?_
  ·rw [impl_NeedlessWalls.l0,if_pos o_m,if_pos o_m,if_pos o_m,hrd,if_pos hc,hwith,Option.bind_some]
   simp only
   rw [htext,Option.bind_some,hW]
   congr 1
   funext bt
   rw [if_pos (show (needL w h cs n g far i).length < 17592186044416 by omega)]
  ·refine Ev.bind hL ?_
   rw [hnb] at ih
   cases hq:puFar tx n g with
   | mk p1 p2 =>
    rw [hq] at ih
    simp only at ih ⊢
    cases p2 with
    | false =>
     rw [if_neg (by simp)] at ih
     exact Ev.congr (fun k=>if_neg Bool.false_ne_true) ih
    | true =>
     refine Ev.congr (fun k=>if_pos rfl) ?_
     by_cases hp:p1 = far
     rotate_left
     ·rw [if_neg (by simp [hp])] at ih
      exact Ev.congr (fun k=>if_neg (fun q=>hp ((if_pos rfl).symm.trans q))) ih
     rw [if_pos (by simp [hp])] at ih
     exact Ev.congr (fun k=>if_pos ((if_pos rfl).trans hp)) ih
theorem need_grid {t n:ByteArray} {g:Int} (h:(puFar t n g).2 = true):∃ w hh cs,tyGrid (bytesOf t) = some (w,hh,cs) ∧ Vg (w,hh,cs):=by
 unfold puFar at h
 cases e:puS t n g with
 | none=>rw [e] at h;cases h
 | some q =>
  obtain ⟨qw,qh,s,i⟩:=q
  obtain ⟨w,hh,cs,h1,h2,_⟩:=puzB_grid (puS_some e).1
  exact ⟨w,hh,cs,h1,h2⟩
theorem impl_need_ev (t n:ByteArray) (g:Int) (ht:t.size < 4294967281):Ev (fun k=>impl_NeedlessWalls.f k t n g) (needA t n g):=by
 unfold impl_NeedlessWalls.f needA
 refine Ev.bind (impl_LengthOf_ev t n g ht) ?_
 by_cases hp:(puFar t n g).2 = true
 rotate_left
 ·refine Ev.congr (fun k=>if_neg hp) ?_
  rw [if_neg hp]
  exact Ev.now _
 obtain ⟨w,h,cs,hg,v⟩:=need_grid hp
 have hrd:impl_read.f t = some ((w:Int),(h:Int),cs):=impl_read_eq t hg
 rw [if_pos hp,hg]
 simp only
 refine Ev.congr (fun k=>by rw [if_pos hp,hrd,Option.bind_some]) ?_
 rw [if_pos hp]
 have h0:=need_l0 (t:=t) (n:=n) (g:=g) (w:=w) (h:=h) v (puFar t n g).1 cs.length 0 (Nat.zero_add _)
 exact h0
theorem needA_len (t n:ByteArray) (g:Int):(needA t n g).1.length ≤ 300:=by
 unfold needA
 by_cases hp:(puFar t n g).2 = true
 rotate_left
 ·rw [if_neg hp];simp
 obtain ⟨w,h,cs,hg,v⟩:=need_grid hp
 rw [if_pos hp,hg]
 simp only
 have h1:=needL_len w h cs n g (puFar t n g).1 cs.length
 have h2:=(tray_small v).2
 simp only at h2
 omega
theorem FnExactNeedlessWalls (t n:ByteArray) (g:Int) (ht:t.size ≤ 9223372036854775807) (hn:n.size ≤ 9223372036854775807) (hg:(Lit.int .i64 g).wf = true):∃ k,laws_FnExactNeedlessWalls.f k t n g = some true:=by
 refine Ev.rounds (g:=fun k=>laws_FnExactNeedlessWalls.f k t n g) ?_
 unfold laws_FnExactNeedlessWalls.f
 obtain ⟨r,hr,hrs⟩:=szPuzzle_ok (g:=g) ht hn
 refine Ev.congr (fun k=>by rw [hr,Option.bind_some]) ?_
 by_cases h0:r < 0
 ·exact Ev.congr (fun k=>if_pos h0) (Ev.now _)
 obtain ⟨h1,h2⟩:=hrs o_m
 have hP:laws_toPuzzle.f t n g = some (t,n,g):=rfl
 have hS:spec_NeedlessWalls.f t n g = some (needA t n g):=rfl
 have hI:=impl_need_ev t n g o_m
 have hlen:=needA_len t n g
 refine Ev.congr (fun k=>by rw [if_neg h0,hP,Option.bind_some,hS,Option.bind_some,Option.bind_some]) ?_
 generalize needA t n g = R at hI hS hlen
 have hE:=eqI_ev R.1 o_m
 have hM:Ev (fun k=>laws_markIntS.f k R.1 1) (((1 + R.1.length:Nat):Int),marksI 1 R.1.length):=markI_ev R.1 1 o_m o_m
 have hH:Ev (fun k=>laws_heldIntS.f k (marksI 1 R.1.length) 1) ((1 + R.1.length:Nat):Int):=heldI_ev 1 R.1.length o_m o_m
 have hend:Ev (fun k=>laws_FnExactNeedlessWalls.j1 k (marksI 1 R.1.length) ((1 + R.1.length:Nat):Int) false) true:=by
  refine Ev.step (fun k=>by rw [laws_FnExactNeedlessWalls.j1,if_neg Bool.false_ne_true]) (Ev.bind hH ?_)
  exact Ev.congr (fun k=>by rw [if_neg o_m,if_pos rfl]) (Ev.now _)
 have hmid:Ev (fun k=>laws_FnExactNeedlessWalls.j0 k R.1 R.2 R.1 false t n g) true:=by
  refine Ev.step (fun k=>by rw [laws_FnExactNeedlessWalls.j0,if_neg Bool.false_ne_true]) (Ev.bind hM (Ev.bind hH ?_))
  refine Ev.congr (fun k=>by rw [if_neg o_m,if_pos rfl,hP,Option.bind_some]) (Ev.bind hI (Ev.bind hE ?_))
  refine Ev.congr (fun k=>if_pos rfl) ?_
  rw [bne_self_eq_false]
  exact hend
 refine Ev.bind hI (Ev.bind hE ?_)
 refine Ev.congr (fun k=>if_pos rfl) ?_
 rw [bne_self_eq_false]
 exact hmid
end Go.Proofs.YtldhkbiomingbaaGreatDoor.F
