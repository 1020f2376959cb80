/- The proof that the law's row holds, part 7: the kit's words, the printed walks and the plain law. No conditions beyond the card's own. -/
import Derived.Test.YtldhkbiomingbaaGreatDoorG0
import Derived.Test.YtldhkbiomingbaaGreatDoorG1
import Derived.Test.YtldhkbiomingbaaGreatDoorG2
import Derived.Test.YtldhkbiomingbaaGreatDoorG3
import Derived.Test.YtldhkbiomingbaaGreatDoorG4
import Derived.Test.YtldhkbiomingbaaGreatDoorG5
import Derived.Test.YtldhkbiomingbaaGreatDoorG6
set_option linter.unusedVariables false
set_option linter.unusedSimpArgs false
set_option maxHeartbeats 8000000
set_option maxRecDepth 100000
namespace Go.Proofs.YtldhkbiomingbaaGreatDoor.F
open Go.Proofs.YtldhkbiomingbaaGreatDoor
open Go.RowKit Go.YW.PrintWords Go.YW.PrintLast Go.YW.PrintMore
attribute [local go_sem] max2_int min2_int max_two min_two max_three min_three max_four min_four
def impl_reach_cells.l0:Nat → ByteArray → List Int → List ByteArray → Int → Int → Option (List Int)
 | 0,_,_,_,_,_=>none
 | k + 1,x1,x5,x10,x11,x12=>if x12 < x11 then (if 0 ≤ x12 then (if x12 < (x10.length:Int) then ((impl_read.f (rdOf ByteArray.empty x10 x12)).bind fun bt106=>(if 0 < (x1.size:Int) then ((slices_Index_byte_byte.f k bt106.2.2 (bt x1 0)).bind fun t111=>(if x5.length < 17592186044416 then (impl_reach_cells.l0 k x1 (x5 ++ [t111]) x10 x11 (wrap64 (x12 + 1))) else (none))) else (none))) else (none)) else (none)) else (some x5)
def impl_reach_cells.f (k:Nat) (l0_0:List ByteArray) (l0_1:List Int) (l0_2:List (List Int)) (l0_3:List ByteArray) (a1:ByteArray):Option (List Int):=impl_reach_cells.l0 k a1 (([]:List Int)) l0_0 (l0_0.length:Int) 0
theorem impl_reach_cells.mono_l:∀ k,(∀ y0 y1 y2 y3 y4,LeO (impl_reach_cells.l0 k y0 y1 y2 y3 y4) (impl_reach_cells.l0 (k + 1) y0 y1 y2 y3 y4))
 | 0=>fun _ _ _ _ _ r h=>by simp [impl_reach_cells.l0] at h
 | k + 1=>by
  have ih0:=impl_reach_cells.mono_l k
  ·intro y0 y1 y2 y3 y4
   unfold impl_reach_cells.l0
   have im0:=@slices_Index_byte_byte.mono;exact mo
theorem impl_reach_cells.mono:∀ a0 a1 a2 a3 a4 k,LeO (impl_reach_cells.f k a0 a1 a2 a3 a4) (impl_reach_cells.f (k + 1) a0 a1 a2 a3 a4):=by
 intro a0 a1 a2 a3 a4 k
 have ih0:=impl_reach_cells.mono_l k
 unfold impl_reach_cells.f
 have im0:=@slices_Index_byte_byte.mono;exact mo
def impl_reach_cells.T5:Bool × List (List Nat × List Nat):=(true,[([],[]),([],[]),([1],[1]),([2],[2]),([],[]),([4],[4]),([3,5,2],[3,5]),([6],[6]),([0,7,6],[0,7]),([8,8,0,1,2,3,4,5,6,7,8],[0,8])])
def impl_reach_cells.B5:List Nat:=[0,0,2,6,0,16,62,126,255,511]
theorem impl_reach_cells.tab5:rtab .any (opsOf Tryz.f50 5) = impl_reach_cells.T5:=by kernel_rfl
theorem impl_reach_cells.bits5:waitsOk impl_reach_cells.T5.2 impl_reach_cells.B5 = true:=by kernel_rfl
theorem impl_reach_cells.calls (k:Nat) (A0_0:Option Addr) (c0_0:Nat) (l0_0:List ByteArray) (A0_1:Option Addr) (c0_1:Nat) (l0_1:List Int) (A0_2:Option Addr) (c0_2:Nat) (l0_2:List (List Int)) (A0_3:Option Addr) (c0_3:Nat) (l0_3:List ByteArray) (a1:ByteArray) (r:List Int) (w:World) (hr0_0:Kd.C Kd.string w A0_0 l0_0.length l0_0) (hc0_0:l0_0.length ≤ c0_0) (hr0_1:Kd.C (Kd.int .i64) w A0_1 l0_1.length l0_1) (hc0_1:l0_1.length ≤ c0_1) (hr0_2:Kd.C (Kd.slice 3 (Kd.int .i64)) w A0_2 l0_2.length l0_2) (hc0_2:l0_2.length ≤ c0_2) (hr0_3:Kd.C Kd.string w A0_3 l0_3.length l0_3) (hc0_3:l0_3.length ≤ c0_3) (h:impl_reach_cells.f k l0_0 l0_1 l0_2 l0_3 a1 = some r) :
  Calls Tryz.prog 50 #[.agg #[.slice A0_0 l0_0.length c0_0,.slice A0_1 l0_1.length c0_1,.slice A0_2 l0_2.length c0_2,.slice A0_3 l0_3.length c0_3],.string a1] w fun e w'=>∃ v0_:Value,e = .returned (v0_) ∧ Kd.R (Kd.int .i64) 3 w' w.heap.size (fun _=>True) v0_ r ∧ Below w.heap.size w w':=by
 have hu59:=Tryz.underlying59
 have hfd65_2:∀ (x0_ x1_ x2_:Value) (W:World),(Instr.field 65 (.agg #[x0_,x1_,x2_]) 2).run Tryz.prog W = .ok x2_ W:=fun _ _ _  _=>by kernel_rfl
 have HR0_0:=am hr0_0
 have HC0_0:=am hc0_0
 clear hr0_0 hc0_0
 have HR0_1:=am hr0_1
 have HC0_1:=am hc0_1
 clear hr0_1 hc0_1
 have HR0_2:=am hr0_2
 have HC0_2:=am hc0_2
 clear hr0_2 hc0_2
 have HR0_3:=am hr0_3
 have HC0_3:=am hc0_3
 clear hr0_3 hc0_3
 have HB:=am (Below.refl w.heap.size w)
 have H:(impl_reach_cells.l0 k a1 (([]:List Int)) l0_0 (l0_0.length:Int) 0) = some r:=h
 clear h
 obtain ⟨y102,hy_⟩:∃ y_:List Int,y_ = (([]:List Int)):=⟨_,rfl⟩
 replace H:(impl_reach_cells.l0 k a1 y102 l0_0 (l0_0.length:Int) 0) = some r:=aq3
 have Ny102:=am hy_
 clear hy_
 have H':=am H
 clear H
 go_enter Tryz.func50,Tryz.ntmps50
 go_wp2_with (first | (refine bx 2 #[.slice A0_0 l0_0.length c0_0,.slice A0_1 l0_1.length c0_1,.slice A0_2 l0_2.length c0_2,.slice A0_3 l0_3.length c0_3] 59 ?_;intro gb101 hg w3 hbox hb;have BK101:=am (hbox);have GW101:=am ((by rw [hg];exact (below_size aq1):w.heap.size ≤ gb101));have GE101:=GW101;replace HB:=am (below_step aq1 hb);clear hb hbox hg) | ((with_reducible refine gate_dst (N:=8) rfl ?_);refine Kd.R_lit (Kd.int .i64) _ 3 ?hg (N:=8) ?hd (xs:=([]:List Int)) (inner:=[]) (ok:=fun _=>True) (okp:=fun _=>True) ?hr ?hp (fun _ hk=>hk) trivial (Below.refl _ _) (Nat.le_refl _) (by simp) ?_;(case hd=>rfl);(case hg=>rfl);(case hr=>exact aq15);(case hp=>exact (Reps.none _ _));intro v103 w4 ho5 hb hg_ hnew_;clear hg_ hnew_;(first | rw [← Ny102.out] at ho5 | (simp only [Int.reduceToNat] at ho5;rw [← Ny102.out] at ho5));have HO104:=am (Kd.R_lower ho5 (below_size aq0));replace BK101:=am (bb BK101 hb);replace HB:=am (below_step aq0 hb);clear hb ho5;obtain ⟨hcz6_0,hcz6_1,hcz6_2,hcz6_3,hfz6_0,hfz6_1,hfz6_2,hfz6_3⟩:=blk4_ BK101.out))
 go_loopg [5,12] k (fun kq v5 v12 w'=>∃ (x5_1:List Int) (x12_1:Int),v12 = .int .i64 x12_1 ∧ Aside0 (impl_reach_cells.l0 kq a1 x5_1 l0_0 (l0_0.length:Int) x12_1 = some r) ∧ Aside0 (kq ≤ k) ∧ Aside0 (Kd.R (Kd.int .i64) 3 w' w.heap.size (fun _=>True) v5 x5_1) ∧ Aside0 (w'.heap[gb101]? = some (.cells #[(.slice A0_0 l0_0.length c0_0),(.slice A0_1 l0_1.length c0_1),(.slice A0_2 l0_2.length c0_2),(.slice A0_3 l0_3.length c0_3)] 59 (0,0))) ∧ Aside0 (Below w.heap.size w w'))
 case atStart=>exact ⟨(y102),(0),aq7,H',⟨Nat.le_refl _⟩,⟨aq63⟩,⟨aq2⟩,⟨aq0⟩⟩
 case round =>
  clear H'
  try clear p2
  try clear c5
  try clear hcz6_0
  try clear hcz6_1
  try clear hcz6_2
  try clear hcz6_3
  try clear hfz6_0
  try clear hfz6_1
  try clear hfz6_2
  try clear hfz6_3
  obtain ⟨x5_1,x12_1,rfl,HA,HK1,HO_5,BK101,HB⟩:=hrel
  cases gk with
  | zero=>exact absurd HA.out (by simp [impl_reach_cells.l0])
  | succ k1 =>
   have H:=HA.out
   clear HA
   simp only [impl_reach_cells.l0] at H
   by_cases c7:x12_1 < (l0_0.length:Int)
   rotate_left
   ·rw [if_neg c7] at H
    have c7b0:=decide_eq_false c7
    clear c7
    obtain rfl:=Option.some.inj H
    go_wp2
    go_ret
    exact ⟨_,aq8,aq65,aq0⟩
   rw [if_pos c7] at H
   have c7b0:=decide_eq_true c7
   clear c7
   replace H:=gd H
   obtain ⟨c8,H⟩:=H
   have c8b0:=decide_eq_true c8
   clear c8
   replace H:=gd H
   obtain ⟨c9,H⟩:=H
   have c9b0:=decide_eq_true c9
   clear c9
   replace H:=Option.bind_eq_some_iff.mp H
   obtain ⟨⟨t106,t107,t108⟩,A100,H⟩:=H
   replace H:(if 0 < (a1.size:Int) then ((slices_Index_byte_byte.f k1 t108 (bt a1 0)).bind fun t111=>(if x5_1.length < 17592186044416 then (impl_reach_cells.l0 k1 a1 (x5_1 ++ [t111]) l0_0 (l0_0.length:Int) (wrap64 (x12_1 + 1))) else (none))) else (none)) = some r:=H
   have A10:=am A100
   clear A100
   replace H:=gd H
   obtain ⟨c11,H⟩:=H
   have c11b0:=decide_eq_true c11
   have c11b1:decide (0 < a1.size) = true:=decide_eq_true o_m
   clear c11
   obtain ⟨t111,A13,H⟩:=bn H
   replace H:=gd H
   obtain ⟨c14,H⟩:=H
   have LMc14:=am c14
   clear c14
   obtain ⟨y112,hy_⟩:∃ y_:List Int,y_ = (x5_1 ++ [t111]):=⟨_,rfl⟩
   replace H:(impl_reach_cells.l0 k1 a1 y112 l0_0 (l0_0.length:Int) (wrap64 (x12_1 + 1))) = some r:=aq3
   have Ny112:=am hy_
   clear hy_
   have H':=am H
   clear H
   have p105:0 ≤ (x12_1:Int):=of_decide_eq_true aq5
   have q105:x12_1 < (l0_0.length:Int):=of_decide_eq_true aq5
   obtain ⟨ad105,e105,hx105_0⟩:=Kd.at_string HR0_0.out x12_1 p105 q105
   cases e105
   try replace hx105_0:=(HB.out.cell (World.block_lt_of_cell? w _ hx105_0)).trans hx105_0
   replace p105:=eq_true p105
   replace q105:=eq_true q105
   try go_wp2
   replace HO_5:=am (Kd.R_drew HO_5.out)
   replace BK101:=am (blk_drew BK101.out)
   replace HB:=am (below_drew1 HB.out)
   have p12:0 ≤ (0:Int):=o_m
   have q12:0 < a1.size:=(by have:(0:Int) < (a1.size:Int):=of_decide_eq_true aq5;omega)
   have hx12:∀ h:0 < a1.size,((a1[0]'h).toNat:Int) = bt a1 0:=bt_at a1 0
   clear p12
   have qi12:(0 < (a1.size:Int)) = True:=eq_true (of_decide_eq_true aq5)
   replace q12:=eq_true q12
   refine start_ (n:=10) (S:=fun w'=>True) (ds:=[]) (bm 10 0) k_r rfl rfl trivial (fun hHeld=>?_);refine with_tabW impl_reach_cells.tab5 impl_reach_cells.bits5 (fun HT_ HW_=>?_)
   generalize wr.drew = w15 at HO_5 BK101 HB hHeld ⊢
   refine py (i:=0) (N:=some 16) (bm 10 1) ?_
   refine py (i:=1) (N:=some 17) (bm 10 3) ?_
   refine py (i:=4) (N:=some 20) (bm 10 19) ?_
   refine tk1 (i:=5) (N:=some 21) (bm 10 51) hHeld ?_
   refine one_ (i:=2) (N:=some 18) (bm 10 55) rfl rfl (one_of HT_.out k_r) d_c (fun K hK=>?_)
   refine goes_ Tryz.func51 k_r rfl #[.string (rdOf ByteArray.empty l0_0 x12_1)] (by rfl) rfl rfl aq6 ?_
   with_reducible refine (impl_read.calls (rdOf ByteArray.empty l0_0 x12_1) t106 t107 t108 _ A10.out).mono ?_
   rintro e w16 ⟨v109,rfl,ho0,hb⟩
   refine ⟨_,rfl,?_⟩
   have HO110:=am (Kd.V_lower (Kd.V_mono (ok':=fun k_=>some k_ ≠ (u5:Value).ownBlock ∧ k_ ≠ gb101) ho0 (fun k_ hk_=>⟨(Kd.fresh' (Kd.R_lt aq65) k_ hk_),(Kd.freshB (g:=gb101) (o:=.cells #[.slice (some ad105) l0_0.length c0_0,.slice A0_1 l0_1.length c0_1,.slice A0_2 l0_2.length c0_2,.slice A0_3 l0_3.length c0_3] 59 (0,0)) aq2 k_ hk_)⟩)) (below_size aq0))
   replace HO_5:=am (Kd.R_below aq65 hb)
   replace BK101:=am (bb BK101 hb)
   replace HB:=am (below_step aq0 hb)
   (try clear hb)
   (try clear ho0)
   obtain ⟨Ao17,co17,eo17⟩:=Kd.V_slice HO110.out
   (first | subst eo17 | (injection eo17 with f1_ f2_ f3_;have f4_:=f1_.symm;have f5_:=f3_.symm;clear f1_ f2_ f3_;subst f4_;subst f5_))
   refine hK.out _ _ trivial (fun hHeld=>?_)
   clear hK K
   refine nm (some 18) ?_
   refine py (i:=3) (N:=some 19) (bm 10 63) ?_
   refine one_ (i:=6) (N:=some 22) (bm 10 127) rfl rfl (one_of HT_.out k_r) d_c (fun K hK=>?_)
   refine goes_ Tryz.func89 k_r rfl #[.slice Ao17 t108.length co17,.int .u8 (bt a1 0)] (by rfl) rfl rfl aq6 ?_
   with_reducible refine (slices_Index_byte_byte.calls k1 _ _ t108 (bt a1 0) t111 _ ?side1 ?side2 A13.out).mono ?_
   (case side1=>repeat (first | exact (Kd.V_reads' HO110.out).2.2 | (with_reducible refine Kd.C_alloc ?_ _) | (with_reducible refine Kd.C_drewN ?_ _) | (with_reducible refine Kd.C_drew ?_)))
   (case side2=>exact (Kd.V_reads' HO110.out).2.1)
   rintro e w' ⟨rfl,⟨nd,rfl⟩⟩
   refine ⟨_,rfl,?_⟩
   refine hK.out _ _ trivial (fun hHeld=>?_)
   clear hK K
   refine nm (some 22) ?_
   refine one_ (i:=7) (N:=some 23) (bm 10 255) rfl rfl (one_of HT_.out k_r) d_c (fun K hK=>?_)
   refine value_ (w1:=?_) (v:=?_) (by rfl) rfl ?_ ?_
   rotate_left 2
   ·go_simp
    constructor
    ·rfl
    ·rfl
   refine hK.out _ _ trivial (fun hHeld=>?_)
   clear hK K
   refine nm (some 23) ?_
   refine one_ (i:=8) (N:=some 24) (bm 10 511) rfl rfl (one_of HT_.out k_r) d_c (fun K hK=>?_)
   refine Kd.R_append_step (Kd.int .i64) (w0:=w) w.heap.size (by rfl) (.tmp 16) (.tmp 23) 40 3 (.int .i64 0) 8 rfl Tryz.underlying40 info3 rfl d_c o_m u5 x5_1 t111 [.int .i64 t111] (fun _=>True) (fun _=>False) rfl rfl ?aP (fun _ hk=>hk.elim) ?aF ?aO ?aB ?aS ?aL ?_
   (case aP=>exact rfl)
   (case aB=>exact aq0)
   (case aF=>exact aq78)
   (case aO=>exact aq65)
   (case aS=>exact aq74)
   (case aL=>have:=LMc14.out;omega)
   intro v113 w18 ho hb hg hat
   rw [← Ny112.out] at ho
   replace BK101:=am (bg BK101 hg (Kd.R_ne HO_5.out BK101.out d_c))
   replace HO110:=am (Kd.V_afterv (ok:=(fun k_=>k_ ≠ gb101)) (by (with_reducible repeat (first | apply Kd.V_alloc | apply Kd.V_drewN | apply Kd.V_drew));exact Kd.V_mono HO110.out (fun _ hk=>⟨hk.2,hk.1⟩)) hg hat)
   replace HB:=am (hb)
   have HO114:=am (ho)
   clear HO_5 ho hb hg hat
   refine hK.out _ _ trivial (fun hHeld=>?_)
   clear hK K
   refine nm (some 24) ?_
   refine py (i:=9) (N:=some 5) (bm 10 1023) ?_
   refine done_ (done_of HT_.out k_r) ?_
   try go_wp2
   go_roundg k1
   case measure=>have:=HK1.out;omega
   case rel=>exact ⟨(y112),(wrap64 (x12_1 + 1)),aq7,H',⟨aq72⟩,⟨by (with_reducible repeat (first | apply Kd.R_alloc | apply Kd.R_drewN | apply Kd.R_drew));exact HO114.out⟩,⟨aq2⟩,⟨aq0⟩⟩
def slices_Index_int_int.l0:Nat → List Int → Int → Int → Int → Option (Int)
 | 0,_,_,_,_=>none
 | k + 1,x0,x1,x7,x8=>if x8 < x7 then (if 0 ≤ x8 then (if x8 < (x0.length:Int) then (if x1 = (rd x0 x8) then (some x8) else (slices_Index_int_int.l0 k x0 x1 x7 (wrap64 (x8 + 1)))) else (none)) else (none)) else (some (-1))
def slices_Index_int_int.f (k:Nat) (l0:List Int) (a1:Int):Option (Int):=slices_Index_int_int.l0 k l0 a1 (l0.length:Int) 0
theorem slices_Index_int_int.mono_l:∀ k,(∀ y0 y1 y2 y3,LeO (slices_Index_int_int.l0 k y0 y1 y2 y3) (slices_Index_int_int.l0 (k + 1) y0 y1 y2 y3))
 | 0=>fun _ _ _ _ r h=>by simp [slices_Index_int_int.l0] at h
 | k + 1=>by
  have ih0:=slices_Index_int_int.mono_l k
  ·intro y0 y1 y2 y3
   unfold slices_Index_int_int.l0
   exact mo
theorem slices_Index_int_int.mono:∀ a0 a1 k,LeO (slices_Index_int_int.f k a0 a1) (slices_Index_int_int.f (k + 1) a0 a1):=by
 intro a0 a1 k
 have ih0:=slices_Index_int_int.mono_l k
 unfold slices_Index_int_int.f
 exact mo
theorem slices_Index_int_int.calls (k:Nat) (A0:Option Addr) (c0:Nat) (l0:List Int) (a1:Int) (r:Int) (w:World) (hr0:Kd.C (Kd.int .i64) w A0 l0.length l0) (hc0:l0.length ≤ c0) (h:slices_Index_int_int.f k l0 a1 = some r) :
  Calls Tryz.prog 52 #[.slice A0 l0.length c0,.int .i64 a1] w fun e w'=>e = .returned (.int .i64 r) ∧ Drawn0 w w':=by
 have HR0:=am hr0
 have HC0:=am hc0
 clear hr0 hc0
 have H:(slices_Index_int_int.l0 k l0 a1 (l0.length:Int) 0) = some r:=h
 clear h
 have H':=am H
 clear H
 go_enter Tryz.func52,Tryz.ntmps52
 go_wp2
 go_loopg [8] k (fun kq v8 w'=>∃ (x8_1:Int),v8 = .int .i64 x8_1 ∧ Aside0 (slices_Index_int_int.l0 kq l0 a1 (l0.length:Int) x8_1 = some r) ∧ Aside0 (kq ≤ k) ∧ Drawn0 w w')
 case atStart=>exact ⟨(0),aq7,H',⟨Nat.le_refl _⟩,aq18⟩
 case round =>
  clear H'
  try clear p2
  obtain ⟨x8_1,rfl,HA,HK1,⟨m1,rfl⟩⟩:=hrel
  cases gk with
  | zero=>exact absurd HA.out (by simp [slices_Index_int_int.l0])
  | succ k1 =>
   have H:=HA.out
   clear HA
   simp only [slices_Index_int_int.l0] at H
   by_cases c3:x8_1 < (l0.length:Int)
   rotate_left
   ·rw [if_neg c3] at H
    have c3b0:=decide_eq_false c3
    clear c3
    obtain rfl:=Option.some.inj H
    go_wp2
    go_ret
    exact ⟨aq7,aq18⟩
   rw [if_pos c3] at H
   have c3b0:=decide_eq_true c3
   clear c3
   replace H:=gd H
   obtain ⟨c4,H⟩:=H
   have c4b0:=decide_eq_true c4
   clear c4
   replace H:=gd H
   obtain ⟨c5,H⟩:=H
   have c5b0:=decide_eq_true c5
   clear c5
   by_cases c6:a1 = (rd l0 x8_1)
   ·rw [if_pos c6] at H
    have c6b0:=beq_iff_eq.mpr c6
    have c6b1:=bne_eq_false_iff_eq.mpr c6
    clear c6
    obtain rfl:=Option.some.inj H
    have p101:0 ≤ (x8_1:Int):=of_decide_eq_true aq5
    have q101:x8_1 < (l0.length:Int):=of_decide_eq_true aq5
    obtain ⟨ad101,e101,hx101_0⟩:=Kd.at_int HR0.out x8_1 p101 q101
    cases e101
    replace p101:=eq_true p101
    replace q101:=eq_true q101
    go_wp2
    go_ret
    exact ⟨aq7,aq18⟩
   rw [if_neg c6] at H
   have c6b0:=beq_eq_false_iff_ne.mpr c6
   have c6b1:=bne_iff_ne.mpr c6
   have H':=am H
   clear H
   have p101:0 ≤ (x8_1:Int):=of_decide_eq_true aq5
   have q101:x8_1 < (l0.length:Int):=of_decide_eq_true aq5
   obtain ⟨ad101,e101,hx101_0⟩:=Kd.at_int HR0.out x8_1 p101 q101
   cases e101
   replace p101:=eq_true p101
   replace q101:=eq_true q101
   go_wp2
   go_roundg k1
   case measure=>have:=HK1.out;omega
   case rel=>exact ⟨(wrap64 (x8_1 + 1)),aq7,H',⟨aq72⟩,aq18⟩

end Go.Proofs.YtldhkbiomingbaaGreatDoor.F

namespace Go.Proofs.YtldhkbiomingbaaGreatDoor.F
open Go.Proofs.YtldhkbiomingbaaGreatDoor
open Go.RowKit Go.YW.PrintWords Go.YW.PrintMore
theorem placeI_read {w h:Nat} {c:List Int} (v:Vg (w,h,c)):impl_read.f (textB (w,h,c)) = some ((w:Int),(h:Int),c):=impl_read_eq _ (grid_textB v)
theorem cells_l0 {w h:Nat} {s:RS} {n:ByteArray} (hn:n.size = 1) (hv:∀ c ∈ s.T,Vg (w,h,c)) (hl:s.T.length ≤ 300):∀ (d i:Nat),i + d = s.T.length →
  Ev (fun k=>impl_reach_cells.l0 k n ((cellsI s (bt n 0)).take i) (rT w h s) ((rT w h s).length:Int) i) (cellsI s (bt n 0))
 | 0,i,hi=>by
  refine Ev.step (f:=fun _=>some (cellsI s (bt n 0))) (fun k=>?_) (Ev.now _)
  rw [impl_reach_cells.l0,if_neg (by rw [rT_len];omega),List.take_of_length_le (by rw [cellsI_len];omega)]
 | d + 1,i,hi=>by
  have hlt:i < s.T.length:=by omega
  have ih:=cells_l0 hn hv hl d (i + 1) o_m
  have hvi:=hv _ (getD_mem (d:=([]:List Int)) hlt)
  have hrd:rdOf ByteArray.empty (rT w h s) (i:Int) = textB (w,h,s.T.getD i []):=by
   unfold rdOf rT
   rw [Int.toNat_natCast,List.getD_eq_getElem?_getD,List.getElem?_map,List.getElem?_eq_getElem hlt,getD_lt hlt];rfl
  have hll:=(tray_small hvi).2
  simp only at hll
  have hix:=index_l0 (cs:=s.T.getD i []) o_m (bt n 0) _ 0 (Nat.zero_add _) (fun j hj=>by omega)
  have htk:(cellsI s (bt n 0)).take i ++ [placeI (bt n 0) (s.T.getD i [])] = (cellsI s (bt n 0)).take (i + 1):=by
   rw [List.take_succ_eq_append_getElem (by rw [cellsI_len];exact hlt),← cellsI_get s (bt n 0) hlt,getD_lt (by rw [cellsI_len];exact hlt)]
  refine Ev.step (f:=fun k=>(slices_Index_byte_byte.f k (s.T.getD i []) (bt n 0)).bind fun t111=>(if ((cellsI s (bt n 0)).take i).length < 17592186044416 then (impl_reach_cells.l0 k n ((cellsI s (bt n 0)).take i ++ [t111]) (rT w h s) ((rT w h s).length:Int) (wrap64 ((i:Int) + 1))) else none)) (fun k=>?_) ?_
  ·rw [impl_reach_cells.l0,if_pos (by rw [rT_len];omega),if_pos o_m,if_pos (by rw [rT_len];omega),hrd,placeI_read hvi,Option.bind_some,if_pos o_m]
  ·refine Ev.bind hix (Ev.congr (fun k=>?_) ih)
   rw [if_pos (by rw [List.length_take];omega)]
   show impl_reach_cells.l0 k n (_ ++ [placeI (bt n 0) (s.T.getD i [])]) _ _ _ = _
   rw [htk,show (i:Int) + 1 = ((i + 1:Nat):Int) by omega,w64t o_m]
theorem cells_ev {w h:Nat} {s:RS} {n:ByteArray} (hn:n.size = 1) (hv:∀ c ∈ s.T,Vg (w,h,c)) (hl:s.T.length ≤ 300) (l1:List Int) (l2:List (List Int)) (l3:List ByteArray) :
  Ev (fun k=>impl_reach_cells.f k (rT w h s) l1 l2 l3 n) (cellsI s (bt n 0)):=cells_l0 hn hv hl s.T.length 0 (Nat.zero_add _)
theorem indexI_l0 {l:List Int} (hl:l.length ≤ 1000) (c:Int):∀ (d i:Nat),i + d = l.length → (∀ j,j < i → l.getD j 0 ≠ c) →
  Ev (fun k=>slices_Index_int_int.l0 k l c (l.length:Int) i) (if l.findIdx (fun x=>decide (x = c)) < l.length then (l.findIdx (fun x=>decide (x = c)):Int) else -1)
 | 0,i,hi,hn=>by
  obtain rfl:i = l.length:=by omega
  have:l.findIdx (fun x=>decide (x = c)) = l.length:=List.findIdx_eq_length.2 (fun x hx=>by
   obtain ⟨j,hj,rfl⟩:=List.mem_iff_getElem.1 hx
   have:=hn j hj
   rw [getD_lt hj] at this
   simpa using this)
  rw [this,if_neg (Nat.lt_irrefl _)]
  refine Ev.step (f:=fun _=>some (-1)) (fun k=>?_) (Ev.now _)
  rw [slices_Index_int_int.l0,if_neg o_m]
 | d + 1,i,hi,hn=>by
  have hlt:i < l.length:=by omega
  have hrd:rd l (i:Int) = l.getD i 0:=by unfold rd;rw [Int.toNat_natCast]
  by_cases he:c = l.getD i 0
  rotate_left
  ·have ih:=indexI_l0 hl c d (i + 1) o_m (fun j hj=>by
    by_cases e:j = i
    ·subst e;exact fun h=>he h.symm
    ·exact hn j o_m)
   refine Ev.step (fun k=>?_) ih
   rw [slices_Index_int_int.l0,if_pos o_m,if_pos o_m,if_pos o_m,hrd,if_neg he,show (i:Int) + 1 = ((i + 1:Nat):Int) by omega,w64t o_m]
  have hf:l.findIdx (fun x=>decide (x = c)) = i:=by
   rw [List.findIdx_eq hlt]
   refine ⟨by rw [he,getD_lt hlt];simp,fun j hj=>?_⟩
   have:=hn j hj
   rw [getD_lt o_m] at this
   simpa using this
  rw [hf,if_pos hlt]
  refine Ev.step (f:=fun _=>some (i:Int)) (fun k=>?_) (Ev.now _)
  rw [slices_Index_int_int.l0,if_pos o_m,if_pos o_m,if_pos o_m,hrd,if_pos he]
end Go.Proofs.YtldhkbiomingbaaGreatDoor.F

namespace Go.Proofs.YtldhkbiomingbaaGreatDoor.F
open Go.Proofs.YtldhkbiomingbaaGreatDoor
open Go.RowKit Go.YW.PrintWords Go.YW.PrintLast Go.YW.PrintMore
attribute [local go_sem] max2_int min2_int max_two min_two max_three min_three max_four min_four


end Go.Proofs.YtldhkbiomingbaaGreatDoor.F

namespace Go.Proofs.YtldhkbiomingbaaGreatDoor.F
open Go.Proofs.YtldhkbiomingbaaGreatDoor
open Go.RowKit Go.YW.PrintWords Go.YW.PrintMore
theorem reachOf_some {t:ByteArray} {w h:Nat} {s:RS} (ht:t.size < 4294967281) (hs:srch t = some (w,h,s)):impl_reachOf.f t = some (rT w h s,castsI s.F,s.N.map castsI,rW s,true):=by
 unfold impl_reachOf.f
 rw [if_pos ht,hs]
theorem reachOf_none {t:ByteArray} (ht:t.size < 4294967281) (hs:srch t = none):impl_reachOf.f t = some ([],[],[],[],false):=by
 unfold impl_reachOf.f
 rw [if_pos ht,hs]
theorem casts_far {s:RS} {i:Nat} (hF:i < s.F.length):rd (castsI s.F) (i:Int) = ((s.F.getD i 0:Nat):Int):=by
 unfold rd
 rw [Int.toNat_natCast,List.getD_eq_getElem?_getD,castsI_getD _ _ hF,getD_lt hF];rfl
end Go.Proofs.YtldhkbiomingbaaGreatDoor.F

namespace Go.Proofs.YtldhkbiomingbaaGreatDoor.F
open Go.Proofs.YtldhkbiomingbaaGreatDoor
open Go.RowKit Go.YW.PrintWords Go.YW.PrintLast Go.YW.PrintMore
attribute [local go_sem] max2_int min2_int max_two min_two max_three min_three max_four min_four
def impl_reachWith.f (k:Nat) (a0:ByteArray) (a1:ByteArray):Option (List ByteArray × List Int × (List (List Int)) × List ByteArray × Bool):=(impl_cellOf.f k a0 a1).bind fun bt102=>(if bt102.2 = true then ((impl_reachOf.f a0).bind fun bt104=>(some (bt104.1,bt104.2.1,bt104.2.2.1,bt104.2.2.2.1,bt104.2.2.2.2))) else (some (([]:List ByteArray),([]:List Int),([]:List (List Int)),([]:List ByteArray),false)))
theorem impl_reachWith.mono:∀ a0 a1 k,LeO (impl_reachWith.f k a0 a1) (impl_reachWith.f (k + 1) a0 a1):=by
 intro a0 a1 k
 unfold impl_reachWith.f
 have im0:=@impl_cellOf.mono;exact mo
theorem impl_reachWith.calls (k:Nat) (a0:ByteArray) (a1:ByteArray) (r1:List ByteArray) (r2:List Int) (r3:List (List Int)) (r4:List ByteArray) (r5:Bool) (w:World) (h:impl_reachWith.f k a0 a1 = some (r1,r2,r3,r4,r5)) :
  Calls Tryz.prog 49 #[.string a0,.string a1] w fun e w'=>∃ v0_ v1_ v2_ v3_:Value,e = .returned (.tuple #[.agg #[v0_,v1_,v2_,v3_],.bool r5]) ∧ Kd.R Kd.string 9 w' w.heap.size (fun k_=>some k_ ≠ (v3_:Value).ownBlock) v0_ r1 ∧ Kd.R (Kd.int .i64) 3 w' w.heap.size (fun _=>True) v1_ r2 ∧ Kd.S (Kd.slice 3 (Kd.int .i64)) 40 w' w.heap.size (fun k_=>some k_ ≠ (v1_:Value).ownBlock) v2_ r3 ∧ Kd.R Kd.string 9 w' w.heap.size (fun k_=>some k_ ≠ (v0_:Value).ownBlock) v3_ r4 ∧ Below w.heap.size w w':=by
 have hu59:=Tryz.underlying59
 have HB:=am (Below.refl w.heap.size w)
 have H:((impl_cellOf.f k a0 a1).bind fun bt102=>(if bt102.2 = true then ((impl_reachOf.f a0).bind fun bt104=>(some (bt104.1,bt104.2.1,bt104.2.2.1,bt104.2.2.2.1,bt104.2.2.2.2))) else (some (([]:List ByteArray),([]:List Int),([]:List (List Int)),([]:List ByteArray),false)))) = some (r1,r2,r3,r4,r5):=h
 clear h
 replace H:=Option.bind_eq_some_iff.mp H
 obtain ⟨⟨t102,t103⟩,A30,H⟩:=H
 replace H:(if t103 = true then ((impl_reachOf.f a0).bind fun bt104=>(some (bt104.1,bt104.2.1,bt104.2.2.1,bt104.2.2.2.1,bt104.2.2.2.2))) else (some (([]:List ByteArray),([]:List Int),([]:List (List Int)),([]:List ByteArray),false))) = some (r1,r2,r3,r4,r5):=H
 have A3:=am A30
 clear A30
 by_cases c4:t103 = true
 rotate_left
 ·replace c4:=Bool.eq_false_iff.mpr c4
  subst c4
  rw [if_neg Bool.false_ne_true] at H
  simp only [Option.some.injEq,Prod.mk.injEq] at H
  obtain ⟨rfl,rfl,rfl,rfl,rfl⟩:=H
  go_enter Tryz.func49,Tryz.ntmps49
  go_wp2_with (first | (refine bx 4 #[.slice none 0 0,.slice none 0 0,.slice none 0 0,.slice none 0 0] 59 ?_;intro gb101 hg w14 hbox hb;have BK101:=am (hbox);have GW101:=am ((by rw [hg];exact (below_size aq1):w.heap.size ≤ gb101));have GE101:=GW101;replace HB:=am (below_step aq1 hb);clear hb hbox hg) | ((with_reducible refine gate_callee (f:=88) rfl ?_);refine goesL_ (some 11) rfl rfl Tryz.func88 k_r rfl #[.string a0,.string a1] rfl aq6 ?_;(with_reducible refine (impl_cellOf.calls k a0 a1 t102 false _ A3.out).mono ?_);rintro e w15 ⟨rfl,hb⟩;refine ⟨_,rfl,?_⟩;replace BK101:=am (bb BK101 hb);replace HB:=am (below_step aq0 hb);(try clear hb);obtain ⟨hcz16_0,hcz16_1,hcz16_2,hcz16_3,hfz16_0,hfz16_1,hfz16_2,hfz16_3⟩:=blk4_ BK101.out))
  refine bodyPost_ret (results_ct rfl _ _ gb101 59 #[.slice none 0 0,.slice none 0 0,.slice none 0 0,.slice none 0 0] (0,0) _ rfl (by (with_reducible repeat (first | refine blk_drewN ?_ _ | refine blk_drew ?_ | refine blk_alloc ?_ _));refine blk_put (cs:=#[.slice none 0 0,.slice none 0 0,.slice none 0 0,.slice none 0 0]) ?_ 3 _ rfl;(with_reducible repeat (first | refine blk_drewN ?_ _ | refine blk_drew ?_ | refine blk_alloc ?_ _));refine blk_put (cs:=#[.slice none 0 0,.slice none 0 0,.slice none 0 0,.slice none 0 0]) ?_ 2 _ rfl;(with_reducible repeat (first | refine blk_drewN ?_ _ | refine blk_drew ?_ | refine blk_alloc ?_ _));refine blk_put (cs:=#[.slice none 0 0,.slice none 0 0,.slice none 0 0,.slice none 0 0]) ?_ 1 _ rfl;(with_reducible repeat (first | refine blk_drewN ?_ _ | refine blk_drew ?_ | refine blk_alloc ?_ _));refine blk_put (cs:=#[.slice none 0 0,.slice none 0 0,.slice none 0 0,.slice none 0 0]) ?_ 0 _ rfl;(with_reducible repeat (first | refine blk_drewN ?_ _ | refine blk_drew ?_ | refine blk_alloc ?_ _));exact BK101.out) Tryz.underlying59 rfl k_r) rfl ?_
  exact ⟨_,_,_,_,aq8,aq21,aq21,aq102,aq21,aq0⟩
 subst c4
 rw [if_pos rfl] at H
 replace H:=Option.bind_eq_some_iff.mp H
 obtain ⟨⟨t104,t107,t110,t113,t116⟩,A50,H⟩:=H
 replace H:(some (t104,t107,t110,t113,t116)) = some (r1,r2,r3,r4,r5):=H
 have A5:=am A50
 clear A50
 simp only [Option.some.injEq,Prod.mk.injEq] at H
 obtain ⟨rfl,rfl,rfl,rfl,rfl⟩:=H
 go_enter Tryz.func49,Tryz.ntmps49
 go_wp2_with (first | (refine bx 4 #[.slice none 0 0,.slice none 0 0,.slice none 0 0,.slice none 0 0] 59 ?_;intro gb101 hg w6 hbox hb;have BK101:=am (hbox);have GW101:=am ((by rw [hg];exact (below_size aq1):w.heap.size ≤ gb101));have GE101:=GW101;replace HB:=am (below_step aq1 hb);clear hb hbox hg) | ((with_reducible refine gate_callee (f:=88) rfl ?_);refine goesL_ (some 11) rfl rfl Tryz.func88 k_r rfl #[.string a0,.string a1] rfl aq6 ?_;(with_reducible refine (impl_cellOf.calls k a0 a1 t102 true _ A3.out).mono ?_);rintro e w7 ⟨rfl,hb⟩;refine ⟨_,rfl,?_⟩;replace BK101:=am (bb BK101 hb);replace HB:=am (below_step aq0 hb);(try clear hb)) | ((with_reducible refine gate_callee (f:=74) rfl ?_);refine goesL_ (some 18) rfl rfl Tryz.func74 k_r rfl #[.string a0] rfl aq6 ?_;(with_reducible refine (impl_reachOf.calls a0 t104 t107 t110 t113 t116 _ A5.out).mono ?_);rintro e w8 ⟨v105,v108,v111,v114,rfl,ho0,ho1,ho2,ho3,hb⟩;refine ⟨_,rfl,?_⟩;have HO106:=am (Kd.R_lower ho0 (below_size aq0));have HO109:=am (Kd.R_lower ho1 (below_size aq0));have HO112:=am (Kd.S_lower ho2 (below_size aq0));have HO115:=am (Kd.R_lower ho3 (below_size aq0));replace BK101:=am (bb BK101 hb);replace HB:=am (below_step aq0 hb);(try clear hb);(try clear ho0);(try clear ho1);(try clear ho2);(try clear ho3);obtain ⟨Ao9,co9,eo9⟩:=Kd.R_slice HO106.out;subst eo9;obtain ⟨hcz10_0,hcz10_1,hcz10_2,hcz10_3,hfz10_0,hfz10_1,hfz10_2,hfz10_3⟩:=blk4_ BK101.out;obtain ⟨Ao11,co11,eo11⟩:=Kd.R_slice HO109.out;subst eo11;obtain ⟨Ao12,co12,eo12⟩:=Kd.S_slice HO112.out;subst eo12;obtain ⟨Ao13,co13,eo13⟩:=Kd.R_slice HO115.out;subst eo13))
 refine bodyPost_ret (results_ct rfl _ _ gb101 59 #[.slice Ao9 t104.length co9,.slice Ao11 t107.length co11,.slice Ao12 t110.length co12,.slice Ao13 t113.length co13] (0,0) _ rfl (by (with_reducible repeat (first | refine blk_drewN ?_ _ | refine blk_drew ?_ | refine blk_alloc ?_ _));refine blk_put (cs:=#[.slice Ao9 t104.length co9,.slice Ao11 t107.length co11,.slice Ao12 t110.length co12,.slice none 0 0]) ?_ 3 _ rfl;(with_reducible repeat (first | refine blk_drewN ?_ _ | refine blk_drew ?_ | refine blk_alloc ?_ _));refine blk_put (cs:=#[.slice Ao9 t104.length co9,.slice Ao11 t107.length co11,.slice none 0 0,.slice none 0 0]) ?_ 2 _ rfl;(with_reducible repeat (first | refine blk_drewN ?_ _ | refine blk_drew ?_ | refine blk_alloc ?_ _));refine blk_put (cs:=#[.slice Ao9 t104.length co9,.slice none 0 0,.slice none 0 0,.slice none 0 0]) ?_ 1 _ rfl;(with_reducible repeat (first | refine blk_drewN ?_ _ | refine blk_drew ?_ | refine blk_alloc ?_ _));refine blk_put (cs:=#[.slice none 0 0,.slice none 0 0,.slice none 0 0,.slice none 0 0]) ?_ 0 _ rfl;(with_reducible repeat (first | refine blk_drewN ?_ _ | refine blk_drew ?_ | refine blk_alloc ?_ _));exact BK101.out) Tryz.underlying59 rfl k_r) rfl ?_
 exact ⟨_,_,_,_,aq8,by (with_reducible repeat (first | apply Kd.R_alloc | apply Kd.R_drewN | apply Kd.R_drew));exact Kd.R_mono (Kd.R_far (p:=⟨gb101,3,none⟩) (Kd.R_far (p:=⟨gb101,2,none⟩) (Kd.R_far (p:=⟨gb101,1,none⟩) (Kd.R_far (p:=⟨gb101,0,none⟩) (Kd.R_types HO106.out BK101.out d_c) (fun _ hk=>hk.2) (.slice Ao9 t104.length co9)) (fun _ hk=>hk.2) (.slice Ao11 t107.length co11)) (fun _ hk=>hk.2) (.slice Ao12 t110.length co12)) (fun _ hk=>hk.2) (.slice Ao13 t113.length co13)) (fun _ hk=>hk.1),by (with_reducible repeat (first | apply Kd.R_alloc | apply Kd.R_drewN | apply Kd.R_drew));exact Kd.R_mono (Kd.R_far (p:=⟨gb101,3,none⟩) (Kd.R_far (p:=⟨gb101,2,none⟩) (Kd.R_far (p:=⟨gb101,1,none⟩) (Kd.R_far (p:=⟨gb101,0,none⟩) (Kd.R_types HO109.out BK101.out d_c) (fun _ hk=>hk.2) (.slice Ao9 t104.length co9)) (fun _ hk=>hk.2) (.slice Ao11 t107.length co11)) (fun _ hk=>hk.2) (.slice Ao12 t110.length co12)) (fun _ hk=>hk.2) (.slice Ao13 t113.length co13)) (fun _ hk=>trivial),by (with_reducible repeat (first | apply Kd.S_alloc | apply Kd.S_drewN | apply Kd.S_drew));exact Kd.S_mono (Kd.S_far (p:=⟨gb101,3,none⟩) (Kd.S_far (p:=⟨gb101,2,none⟩) (Kd.S_far (p:=⟨gb101,1,none⟩) (Kd.S_far (p:=⟨gb101,0,none⟩) (Kd.S_types HO112.out BK101.out d_c) (fun _ hk=>hk.2) (.slice Ao9 t104.length co9)) (fun _ hk=>hk.2) (.slice Ao11 t107.length co11)) (fun _ hk=>hk.2) (.slice Ao12 t110.length co12)) (fun _ hk=>hk.2) (.slice Ao13 t113.length co13)) (fun _ hk=>hk.1),by (with_reducible repeat (first | apply Kd.R_alloc | apply Kd.R_drewN | apply Kd.R_drew));exact Kd.R_mono (Kd.R_far (p:=⟨gb101,3,none⟩) (Kd.R_far (p:=⟨gb101,2,none⟩) (Kd.R_far (p:=⟨gb101,1,none⟩) (Kd.R_far (p:=⟨gb101,0,none⟩) (Kd.R_types HO115.out BK101.out d_c) (fun _ hk=>hk.2) (.slice Ao9 t104.length co9)) (fun _ hk=>hk.2) (.slice Ao11 t107.length co11)) (fun _ hk=>hk.2) (.slice Ao12 t110.length co12)) (fun _ hk=>hk.2) (.slice Ao13 t113.length co13)) (fun _ hk=>hk.1),aq0⟩
end Go.Proofs.YtldhkbiomingbaaGreatDoor.F

namespace Go.Proofs.YtldhkbiomingbaaGreatDoor.F
open Go.RowKit Go.Proofs.YtldhkbiomingbaaGreatDoor Go.YW.PrintWords Go.YW.PrintMore
theorem reachWith_ev (t n:ByteArray) (ht:t.size < 4294967281):Ev (fun k=>impl_reachWith.f k t n) (match ballS t n with | none=>([],[],[],[],false) | some q=>(rT q.1 q.2.1 q.2.2,castsI q.2.2.F,q.2.2.N.map castsI,rW q.2.2,true)):=by
 have hC:=impl_cellOf_ev t n ht
 unfold cellOfAns at hC
 unfold impl_reachWith.f ballS
 cases hg:tyGrid (bytesOf t) with
 | none =>
  rw [hg] at hC
  exact Ev.bind hC (Ev.congr (fun k=>if_neg Bool.false_ne_true) (Ev.now _))
 | some g =>
  rw [hg] at hC
  simp only at hC ⊢
  by_cases h1:oneName n = true
  rotate_left
  ·rw [if_neg h1] at hC
   rw [if_neg (show ¬ (oneName n = true ∧ firstAt g.2.2 (bt n 0) < g.2.2.length) from fun q=>h1 q.1)]
   exact Ev.bind hC (Ev.congr (fun k=>if_neg Bool.false_ne_true) (Ev.now _))
  rw [if_pos h1] at hC
  by_cases h2:firstAt g.2.2 (bt n 0) < g.2.2.length
  rotate_left
  ·rw [if_neg h2] at hC
   rw [if_neg (show ¬ (oneName n = true ∧ firstAt g.2.2 (bt n 0) < g.2.2.length) from fun q=>h2 q.2)]
   exact Ev.bind hC (Ev.congr (fun k=>if_neg Bool.false_ne_true) (Ev.now _))
  rw [if_pos h2] at hC
  rw [if_pos (show oneName n = true ∧ firstAt g.2.2 (bt n 0) < g.2.2.length from ⟨h1,h2⟩)]
  refine Ev.bind hC (Ev.congr (fun k=>if_pos rfl) ?_)
  cases hs:srch t with
  | none=>exact Ev.congr (fun k=>by rw [reachOf_none ht hs,Option.bind_some]) (Ev.now _)
  | some q=>exact Ev.congr (fun k=>by rw [reachOf_some (w:=q.1) (h:=q.2.1) (s:=q.2.2) ht hs,Option.bind_some]) (Ev.now _)
end Go.Proofs.YtldhkbiomingbaaGreatDoor.F

namespace Go.Proofs.YtldhkbiomingbaaGreatDoor.F
open Go.Proofs.YtldhkbiomingbaaGreatDoor
open Go.RowKit Go.YW.PrintWords Go.YW.PrintLast Go.YW.PrintMore
attribute [local go_sem] max2_int min2_int max_two min_two max_three min_three max_four min_four
def impl_HardestGoal.l0:Nat → Int → Int → List Int → Int → Int → List ByteArray → List Int → List (List Int) → List ByteArray → Option (Int × Int × Bool)
 | 0,_,_,_,_,_,_,_,_,_=>none
 | k + 1,x9,x10,x11,x28,x29,x115000,x115001,x115002,x115003=>if x29 < x28 then ((slices_Index_int_int.f k x11 x29).bind fun t123=>(if t123 ≥ 0 then (if 0 ≤ t123 then (if t123 < (x115001.length:Int) then (if (rd x115001 t123) > x10 then (impl_HardestGoal.l0 k x29 (rd x115001 t123) x11 x28 (wrap64 (x29 + 1)) x115000 x115001 x115002 x115003) else (impl_HardestGoal.l0 k x9 x10 x11 x28 (wrap64 (x29 + 1)) x115000 x115001 x115002 x115003)) else (none)) else (none)) else (impl_HardestGoal.l0 k x9 x10 x11 x28 (wrap64 (x29 + 1)) x115000 x115001 x115002 x115003))) else (if x10 > 40 then (some (0,0,false)) else (some (x9,x10,true)))
def impl_HardestGoal.f (k:Nat) (a0:ByteArray) (a1:ByteArray):Option (Int × Int × Bool):=(impl_reachWith.f k a0 a1).bind fun bt101=>(if bt101.2.2.2.2 = true then ((impl_reach_cells.f k bt101.1 bt101.2.1 bt101.2.2.1 bt101.2.2.2.1 a1).bind fun t115=>((impl_read.f a0).bind fun bt118=>(impl_HardestGoal.l0 k 0 (-1) t115 (bt118.2.2.length:Int) 0 bt101.1 bt101.2.1 bt101.2.2.1 bt101.2.2.2.1))) else (some (0,0,false)))
theorem impl_HardestGoal.mono_l:∀ k,(∀ y0 y1 y2 y3 y4 y5 y6 y7 y8,LeO (impl_HardestGoal.l0 k y0 y1 y2 y3 y4 y5 y6 y7 y8) (impl_HardestGoal.l0 (k + 1) y0 y1 y2 y3 y4 y5 y6 y7 y8))
 | 0=>fun _ _ _ _ _ _ _ _ _ r h=>by simp [impl_HardestGoal.l0] at h
 | k + 1=>by
  have ih0:=impl_HardestGoal.mono_l k
  ·intro y0 y1 y2 y3 y4 y5 y6 y7 y8
   unfold impl_HardestGoal.l0
   have im0:=@impl_reachWith.mono;have im1:=@impl_reach_cells.mono;have im2:=@slices_Index_int_int.mono;exact mo
theorem impl_HardestGoal.calls (k:Nat) (a0:ByteArray) (a1:ByteArray) (r1:Int) (r2:Int) (r3:Bool) (w:World) (h:impl_HardestGoal.f k a0 a1 = some (r1,r2,r3)) :
  Calls Tryz.prog 15 #[.string a0,.string a1] w fun e w'=>e = .returned (.tuple #[.int .i64 r1,.int .i64 r2,.bool r3]) ∧ Below w.heap.size w w':=by
 have hu59:=Tryz.underlying59
 have hfd65_2:∀ (x0_ x1_ x2_:Value) (W:World),(Instr.field 65 (.agg #[x0_,x1_,x2_]) 2).run Tryz.prog W = .ok x2_ W:=fun _ _ _  _=>by kernel_rfl
 have HB:=am (Below.refl w.heap.size w)
 have H:((impl_reachWith.f k a0 a1).bind fun bt101=>(if bt101.2.2.2.2 = true then ((impl_reach_cells.f k bt101.1 bt101.2.1 bt101.2.2.1 bt101.2.2.2.1 a1).bind fun t115=>((impl_read.f a0).bind fun bt118=>(impl_HardestGoal.l0 k 0 (-1) t115 (bt118.2.2.length:Int) 0 bt101.1 bt101.2.1 bt101.2.2.1 bt101.2.2.2.1))) else (some (0,0,false)))) = some (r1,r2,r3):=h
 clear h
 replace H:=Option.bind_eq_some_iff.mp H
 obtain ⟨⟨t101,t104,t107,t110,t113⟩,A30,H⟩:=H
 replace H:(if t113 = true then ((impl_reach_cells.f k t101 t104 t107 t110 a1).bind fun t115=>((impl_read.f a0).bind fun bt118=>(impl_HardestGoal.l0 k 0 (-1) t115 (bt118.2.2.length:Int) 0 t101 t104 t107 t110))) else (some (0,0,false))) = some (r1,r2,r3):=H
 have A3:=am A30
 clear A30
 by_cases c4:t113 = true
 rotate_left
 ·replace c4:=Bool.eq_false_iff.mpr c4
  subst c4
  rw [if_neg Bool.false_ne_true] at H
  simp only [Option.some.injEq,Prod.mk.injEq] at H
  obtain ⟨rfl,rfl,rfl⟩:=H
  go_enter Tryz.func15,Tryz.ntmps15
  go_wp2_with (first | (go_at_call 49;(with_reducible refine (impl_reachWith.calls k a0 a1 t101 t104 t107 t110 false _ A3.out).mono ?_);rintro e w29 ⟨v102,v105,v108,v111,rfl,ho0,ho1,ho2,ho3,hb⟩;have HO103:=am (Kd.R_lower ho0 (below_size aq1));have HO106:=am (Kd.R_lower ho1 (below_size aq1));have HO109:=am (Kd.S_lower ho2 (below_size aq1));have HO112:=am (Kd.R_lower ho3 (below_size aq1));replace HB:=am (below_step aq1 hb);(try clear hb);(try clear ho0);(try clear ho1);(try clear ho2);(try clear ho3)) | (refine bx 7 #[.slice none 0 0,.slice none 0 0,.slice none 0 0,.slice none 0 0] 59 ?_;intro gb114 hg w30 hbox hb;replace HO103:=am (Kd.R_below aq24 hb);replace HO106:=am (Kd.R_below aq29 hb);replace HO109:=am (Kd.S_below aq33 hb);replace HO112:=am (Kd.R_below aq30 hb);have BK114:=am (hbox);have GW114:=am ((by rw [hg];exact (below_size aq1):w.heap.size ≤ gb114));have GE114:=GW114;replace HB:=am (below_step aq1 hb);clear hb hbox hg;obtain ⟨Ao31,co31,eo31⟩:=Kd.R_slice HO103.out;subst eo31;obtain ⟨hcz32_0,hcz32_1,hcz32_2,hcz32_3,hfz32_0,hfz32_1,hfz32_2,hfz32_3⟩:=blk4_ BK114.out;obtain ⟨Ao33,co33,eo33⟩:=Kd.R_slice HO106.out;subst eo33;obtain ⟨Ao34,co34,eo34⟩:=Kd.S_slice HO109.out;subst eo34;obtain ⟨Ao35,co35,eo35⟩:=Kd.R_slice HO112.out;subst eo35))
  repeat (go_quiet (first | (go_at_call 49;(with_reducible refine (impl_reachWith.calls k a0 a1 t101 t104 t107 t110 false _ A3.out).mono ?_);rintro e w29 ⟨v102,v105,v108,v111,rfl,ho0,ho1,ho2,ho3,hb⟩;have HO103:=am (Kd.R_lower ho0 (below_size aq1));have HO106:=am (Kd.R_lower ho1 (below_size aq1));have HO109:=am (Kd.S_lower ho2 (below_size aq1));have HO112:=am (Kd.R_lower ho3 (below_size aq1));replace HB:=am (below_step aq1 hb);(try clear hb);(try clear ho0);(try clear ho1);(try clear ho2);(try clear ho3)) | (refine bx 7 #[.slice none 0 0,.slice none 0 0,.slice none 0 0,.slice none 0 0] 59 ?_;intro gb114 hg w30 hbox hb;replace HO103:=am (Kd.R_below aq24 hb);replace HO106:=am (Kd.R_below aq29 hb);replace HO109:=am (Kd.S_below aq33 hb);replace HO112:=am (Kd.R_below aq30 hb);have BK114:=am (hbox);have GW114:=am ((by rw [hg];exact (below_size aq1):w.heap.size ≤ gb114));have GE114:=GW114;replace HB:=am (below_step aq1 hb);clear hb hbox hg;obtain ⟨Ao31,co31,eo31⟩:=Kd.R_slice HO103.out;subst eo31;obtain ⟨hcz32_0,hcz32_1,hcz32_2,hcz32_3,hfz32_0,hfz32_1,hfz32_2,hfz32_3⟩:=blk4_ BK114.out;obtain ⟨Ao33,co33,eo33⟩:=Kd.R_slice HO106.out;subst eo33;obtain ⟨Ao34,co34,eo34⟩:=Kd.S_slice HO109.out;subst eo34;obtain ⟨Ao35,co35,eo35⟩:=Kd.R_slice HO112.out;subst eo35));try go_wp2_with (first | (go_at_call 49;(with_reducible refine (impl_reachWith.calls k a0 a1 t101 t104 t107 t110 false _ A3.out).mono ?_);rintro e w29 ⟨v102,v105,v108,v111,rfl,ho0,ho1,ho2,ho3,hb⟩;have HO103:=am (Kd.R_lower ho0 (below_size aq1));have HO106:=am (Kd.R_lower ho1 (below_size aq1));have HO109:=am (Kd.S_lower ho2 (below_size aq1));have HO112:=am (Kd.R_lower ho3 (below_size aq1));replace HB:=am (below_step aq1 hb);(try clear hb);(try clear ho0);(try clear ho1);(try clear ho2);(try clear ho3)) | (refine bx 7 #[.slice none 0 0,.slice none 0 0,.slice none 0 0,.slice none 0 0] 59 ?_;intro gb114 hg w30 hbox hb;replace HO103:=am (Kd.R_below aq24 hb);replace HO106:=am (Kd.R_below aq29 hb);replace HO109:=am (Kd.S_below aq33 hb);replace HO112:=am (Kd.R_below aq30 hb);have BK114:=am (hbox);have GW114:=am ((by rw [hg];exact (below_size aq1):w.heap.size ≤ gb114));have GE114:=GW114;replace HB:=am (below_step aq1 hb);clear hb hbox hg;obtain ⟨Ao31,co31,eo31⟩:=Kd.R_slice HO103.out;subst eo31;obtain ⟨hcz32_0,hcz32_1,hcz32_2,hcz32_3,hfz32_0,hfz32_1,hfz32_2,hfz32_3⟩:=blk4_ BK114.out;obtain ⟨Ao33,co33,eo33⟩:=Kd.R_slice HO106.out;subst eo33;obtain ⟨Ao34,co34,eo34⟩:=Kd.S_slice HO109.out;subst eo34;obtain ⟨Ao35,co35,eo35⟩:=Kd.R_slice HO112.out;subst eo35)))
  go_ret3
  exact ⟨aq8,aq11⟩
 subst c4
 rw [if_pos rfl] at H
 obtain ⟨t115,A5,H⟩:=bn H
 replace H:=Option.bind_eq_some_iff.mp H
 obtain ⟨⟨t118,t119,t120⟩,A60,H⟩:=H
 replace H:(impl_HardestGoal.l0 k 0 (-1) t115 (t120.length:Int) 0 t101 t104 t107 t110) = some (r1,r2,r3):=H
 have A6:=am A60
 clear A60
 have H':=am H
 clear H
 go_enter Tryz.func15,Tryz.ntmps15
 go_wp2_with (first | (go_at_call 49;(with_reducible refine (impl_reachWith.calls k a0 a1 t101 t104 t107 t110 true _ A3.out).mono ?_);rintro e w7 ⟨v102,v105,v108,v111,rfl,ho0,ho1,ho2,ho3,hb⟩;have HO103:=am (Kd.R_lower ho0 (below_size aq1));have HO106:=am (Kd.R_lower ho1 (below_size aq1));have HO109:=am (Kd.S_lower ho2 (below_size aq1));have HO112:=am (Kd.R_lower ho3 (below_size aq1));replace HB:=am (below_step aq1 hb);(try clear hb);(try clear ho0);(try clear ho1);(try clear ho2);(try clear ho3)) | (refine bx 7 #[.slice none 0 0,.slice none 0 0,.slice none 0 0,.slice none 0 0] 59 ?_;intro gb114 hg w8 hbox hb;replace HO103:=am (Kd.R_below aq24 hb);replace HO106:=am (Kd.R_below aq29 hb);replace HO109:=am (Kd.S_below aq33 hb);replace HO112:=am (Kd.R_below aq30 hb);have BK114:=am (hbox);have GW114:=am ((by rw [hg];exact (below_size aq1):w.heap.size ≤ gb114));have GE114:=GW114;replace HB:=am (below_step aq1 hb);clear hb hbox hg;obtain ⟨Ao9,co9,eo9⟩:=Kd.R_slice HO103.out;subst eo9;obtain ⟨hcz10_0,hcz10_1,hcz10_2,hcz10_3,hfz10_0,hfz10_1,hfz10_2,hfz10_3⟩:=blk4_ BK114.out;obtain ⟨Ao11,co11,eo11⟩:=Kd.R_slice HO106.out;subst eo11;obtain ⟨Ao12,co12,eo12⟩:=Kd.S_slice HO109.out;subst eo12;obtain ⟨Ao13,co13,eo13⟩:=Kd.R_slice HO112.out;subst eo13) | (go_at_call 50;(with_reducible refine (impl_reach_cells.calls k _ _ t101 _ _ t104 _ _ t107 _ _ t110 a1 t115 _ ?side1 ?side2 ?side3 ?side4 ?side5 ?side6 ?side7 ?side8 A5.out).mono ?_);(case side1=>exact aq60);(case side2=>exact (Kd.R_reads' HO103.out).2.1);(case side3=>exact aq77);(case side4=>exact (Kd.R_reads' HO106.out).2.1);(case side5=>exact aq59);(case side6=>exact (Kd.S_reads' HO109.out).2.1);(case side7=>exact aq61);(case side8=>exact (Kd.R_reads' HO112.out).2.1);rintro e w14 ⟨v116,rfl,ho0,hb⟩;replace HO103:=am (Kd.R_below aq14 hb);replace HO109:=am (Kd.S_elder' aq12 (Kd.R_base ho0) hb);replace HO112:=am (Kd.R_below aq13 hb);have HO117:=am (Kd.R_lower (Kd.R_new' ho0 (Kd.R_lt aq9)) (below_size aq11));replace HO106:=am (Kd.R_elder' aq9 (Kd.R_base ho0) hb);replace BK114:=am (blk_below (g:=gb114) (o:=.cells #[.slice Ao9 t101.length co9,.slice Ao11 t104.length co11,.slice Ao12 t107.length co12,.slice Ao13 t110.length co13] 59 (0,0)) aq16 hb);replace HB:=am (below_step aq11 hb);(try clear hb);(try clear ho0)) | (go_at_call 51;(with_reducible refine (impl_read.calls a0 t118 t119 t120 _ A6.out).mono ?_);rintro e w15 ⟨v121,rfl,ho0,hb⟩;have HO122:=am (Kd.V_lower (Kd.V_mono (ok':=fun k_=>some k_ ≠ (.slice Ao9 t101.length co9:Value).ownBlock ∧ some k_ ≠ (.slice Ao11 t104.length co11:Value).ownBlock ∧ some k_ ≠ (.slice Ao12 t107.length co12:Value).ownBlock ∧ some k_ ≠ (.slice Ao13 t110.length co13:Value).ownBlock ∧ some k_ ≠ (v116:Value).ownBlock ∧ k_ ≠ gb114) ho0 (fun k_ hk_=>⟨(Kd.fresh' (Kd.R_lt aq24) k_ hk_),(Kd.fresh' (Kd.R_lt aq29) k_ hk_),(Kd.fresh' (Kd.S_lt aq33) k_ hk_),(Kd.fresh' (Kd.R_lt aq30) k_ hk_),(Kd.fresh' (Kd.R_lt aq48) k_ hk_),(Kd.freshB (g:=gb114) (o:=.cells #[.slice Ao9 t101.length co9,.slice Ao11 t104.length co11,.slice Ao12 t107.length co12,.slice Ao13 t110.length co13] 59 (0,0)) aq37 k_ hk_)⟩)) (below_size aq11));replace HO103:=am (Kd.R_below aq24 hb);replace HO106:=am (Kd.R_below aq29 hb);replace HO109:=am (Kd.S_below aq33 hb);replace HO112:=am (Kd.R_below aq30 hb);replace HO117:=am (Kd.R_below aq48 hb);replace BK114:=am (bb BK114 hb);replace HB:=am (below_step aq11 hb);(try clear hb);(try clear ho0);obtain ⟨Ao16,co16,eo16⟩:=Kd.V_slice HO122.out;subst eo16))
 repeat (go_quiet (first | (go_at_call 49;(with_reducible refine (impl_reachWith.calls k a0 a1 t101 t104 t107 t110 true _ A3.out).mono ?_);rintro e w7 ⟨v102,v105,v108,v111,rfl,ho0,ho1,ho2,ho3,hb⟩;have HO103:=am (Kd.R_lower ho0 (below_size aq1));have HO106:=am (Kd.R_lower ho1 (below_size aq1));have HO109:=am (Kd.S_lower ho2 (below_size aq1));have HO112:=am (Kd.R_lower ho3 (below_size aq1));replace HB:=am (below_step aq1 hb);(try clear hb);(try clear ho0);(try clear ho1);(try clear ho2);(try clear ho3)) | (refine bx 7 #[.slice none 0 0,.slice none 0 0,.slice none 0 0,.slice none 0 0] 59 ?_;intro gb114 hg w8 hbox hb;replace HO103:=am (Kd.R_below aq24 hb);replace HO106:=am (Kd.R_below aq29 hb);replace HO109:=am (Kd.S_below aq33 hb);replace HO112:=am (Kd.R_below aq30 hb);have BK114:=am (hbox);have GW114:=am ((by rw [hg];exact (below_size aq1):w.heap.size ≤ gb114));have GE114:=GW114;replace HB:=am (below_step aq1 hb);clear hb hbox hg;obtain ⟨Ao9,co9,eo9⟩:=Kd.R_slice HO103.out;subst eo9;obtain ⟨hcz10_0,hcz10_1,hcz10_2,hcz10_3,hfz10_0,hfz10_1,hfz10_2,hfz10_3⟩:=blk4_ BK114.out;obtain ⟨Ao11,co11,eo11⟩:=Kd.R_slice HO106.out;subst eo11;obtain ⟨Ao12,co12,eo12⟩:=Kd.S_slice HO109.out;subst eo12;obtain ⟨Ao13,co13,eo13⟩:=Kd.R_slice HO112.out;subst eo13) | (go_at_call 50;(with_reducible refine (impl_reach_cells.calls k _ _ t101 _ _ t104 _ _ t107 _ _ t110 a1 t115 _ ?side1 ?side2 ?side3 ?side4 ?side5 ?side6 ?side7 ?side8 A5.out).mono ?_);(case side1=>exact aq60);(case side2=>exact (Kd.R_reads' HO103.out).2.1);(case side3=>exact aq77);(case side4=>exact (Kd.R_reads' HO106.out).2.1);(case side5=>exact aq59);(case side6=>exact (Kd.S_reads' HO109.out).2.1);(case side7=>exact aq61);(case side8=>exact (Kd.R_reads' HO112.out).2.1);rintro e w14 ⟨v116,rfl,ho0,hb⟩;replace HO103:=am (Kd.R_below aq14 hb);replace HO109:=am (Kd.S_elder' aq12 (Kd.R_base ho0) hb);replace HO112:=am (Kd.R_below aq13 hb);have HO117:=am (Kd.R_lower (Kd.R_new' ho0 (Kd.R_lt aq9)) (below_size aq11));replace HO106:=am (Kd.R_elder' aq9 (Kd.R_base ho0) hb);replace BK114:=am (blk_below (g:=gb114) (o:=.cells #[.slice Ao9 t101.length co9,.slice Ao11 t104.length co11,.slice Ao12 t107.length co12,.slice Ao13 t110.length co13] 59 (0,0)) aq16 hb);replace HB:=am (below_step aq11 hb);(try clear hb);(try clear ho0)) | (go_at_call 51;(with_reducible refine (impl_read.calls a0 t118 t119 t120 _ A6.out).mono ?_);rintro e w15 ⟨v121,rfl,ho0,hb⟩;have HO122:=am (Kd.V_lower (Kd.V_mono (ok':=fun k_=>some k_ ≠ (.slice Ao9 t101.length co9:Value).ownBlock ∧ some k_ ≠ (.slice Ao11 t104.length co11:Value).ownBlock ∧ some k_ ≠ (.slice Ao12 t107.length co12:Value).ownBlock ∧ some k_ ≠ (.slice Ao13 t110.length co13:Value).ownBlock ∧ some k_ ≠ (v116:Value).ownBlock ∧ k_ ≠ gb114) ho0 (fun k_ hk_=>⟨(Kd.fresh' (Kd.R_lt aq24) k_ hk_),(Kd.fresh' (Kd.R_lt aq29) k_ hk_),(Kd.fresh' (Kd.S_lt aq33) k_ hk_),(Kd.fresh' (Kd.R_lt aq30) k_ hk_),(Kd.fresh' (Kd.R_lt aq48) k_ hk_),(Kd.freshB (g:=gb114) (o:=.cells #[.slice Ao9 t101.length co9,.slice Ao11 t104.length co11,.slice Ao12 t107.length co12,.slice Ao13 t110.length co13] 59 (0,0)) aq37 k_ hk_)⟩)) (below_size aq11));replace HO103:=am (Kd.R_below aq24 hb);replace HO106:=am (Kd.R_below aq29 hb);replace HO109:=am (Kd.S_below aq33 hb);replace HO112:=am (Kd.R_below aq30 hb);replace HO117:=am (Kd.R_below aq48 hb);replace BK114:=am (bb BK114 hb);replace HB:=am (below_step aq11 hb);(try clear hb);(try clear ho0);obtain ⟨Ao16,co16,eo16⟩:=Kd.V_slice HO122.out;subst eo16));try go_wp2_with (first | (go_at_call 49;(with_reducible refine (impl_reachWith.calls k a0 a1 t101 t104 t107 t110 true _ A3.out).mono ?_);rintro e w7 ⟨v102,v105,v108,v111,rfl,ho0,ho1,ho2,ho3,hb⟩;have HO103:=am (Kd.R_lower ho0 (below_size aq1));have HO106:=am (Kd.R_lower ho1 (below_size aq1));have HO109:=am (Kd.S_lower ho2 (below_size aq1));have HO112:=am (Kd.R_lower ho3 (below_size aq1));replace HB:=am (below_step aq1 hb);(try clear hb);(try clear ho0);(try clear ho1);(try clear ho2);(try clear ho3)) | (refine bx 7 #[.slice none 0 0,.slice none 0 0,.slice none 0 0,.slice none 0 0] 59 ?_;intro gb114 hg w8 hbox hb;replace HO103:=am (Kd.R_below aq24 hb);replace HO106:=am (Kd.R_below aq29 hb);replace HO109:=am (Kd.S_below aq33 hb);replace HO112:=am (Kd.R_below aq30 hb);have BK114:=am (hbox);have GW114:=am ((by rw [hg];exact (below_size aq1):w.heap.size ≤ gb114));have GE114:=GW114;replace HB:=am (below_step aq1 hb);clear hb hbox hg;obtain ⟨Ao9,co9,eo9⟩:=Kd.R_slice HO103.out;subst eo9;obtain ⟨hcz10_0,hcz10_1,hcz10_2,hcz10_3,hfz10_0,hfz10_1,hfz10_2,hfz10_3⟩:=blk4_ BK114.out;obtain ⟨Ao11,co11,eo11⟩:=Kd.R_slice HO106.out;subst eo11;obtain ⟨Ao12,co12,eo12⟩:=Kd.S_slice HO109.out;subst eo12;obtain ⟨Ao13,co13,eo13⟩:=Kd.R_slice HO112.out;subst eo13) | (go_at_call 50;(with_reducible refine (impl_reach_cells.calls k _ _ t101 _ _ t104 _ _ t107 _ _ t110 a1 t115 _ ?side1 ?side2 ?side3 ?side4 ?side5 ?side6 ?side7 ?side8 A5.out).mono ?_);(case side1=>exact aq60);(case side2=>exact (Kd.R_reads' HO103.out).2.1);(case side3=>exact aq77);(case side4=>exact (Kd.R_reads' HO106.out).2.1);(case side5=>exact aq59);(case side6=>exact (Kd.S_reads' HO109.out).2.1);(case side7=>exact aq61);(case side8=>exact (Kd.R_reads' HO112.out).2.1);rintro e w14 ⟨v116,rfl,ho0,hb⟩;replace HO103:=am (Kd.R_below aq14 hb);replace HO109:=am (Kd.S_elder' aq12 (Kd.R_base ho0) hb);replace HO112:=am (Kd.R_below aq13 hb);have HO117:=am (Kd.R_lower (Kd.R_new' ho0 (Kd.R_lt aq9)) (below_size aq11));replace HO106:=am (Kd.R_elder' aq9 (Kd.R_base ho0) hb);replace BK114:=am (blk_below (g:=gb114) (o:=.cells #[.slice Ao9 t101.length co9,.slice Ao11 t104.length co11,.slice Ao12 t107.length co12,.slice Ao13 t110.length co13] 59 (0,0)) aq16 hb);replace HB:=am (below_step aq11 hb);(try clear hb);(try clear ho0)) | (go_at_call 51;(with_reducible refine (impl_read.calls a0 t118 t119 t120 _ A6.out).mono ?_);rintro e w15 ⟨v121,rfl,ho0,hb⟩;have HO122:=am (Kd.V_lower (Kd.V_mono (ok':=fun k_=>some k_ ≠ (.slice Ao9 t101.length co9:Value).ownBlock ∧ some k_ ≠ (.slice Ao11 t104.length co11:Value).ownBlock ∧ some k_ ≠ (.slice Ao12 t107.length co12:Value).ownBlock ∧ some k_ ≠ (.slice Ao13 t110.length co13:Value).ownBlock ∧ some k_ ≠ (v116:Value).ownBlock ∧ k_ ≠ gb114) ho0 (fun k_ hk_=>⟨(Kd.fresh' (Kd.R_lt aq24) k_ hk_),(Kd.fresh' (Kd.R_lt aq29) k_ hk_),(Kd.fresh' (Kd.S_lt aq33) k_ hk_),(Kd.fresh' (Kd.R_lt aq30) k_ hk_),(Kd.fresh' (Kd.R_lt aq48) k_ hk_),(Kd.freshB (g:=gb114) (o:=.cells #[.slice Ao9 t101.length co9,.slice Ao11 t104.length co11,.slice Ao12 t107.length co12,.slice Ao13 t110.length co13] 59 (0,0)) aq37 k_ hk_)⟩)) (below_size aq11));replace HO103:=am (Kd.R_below aq24 hb);replace HO106:=am (Kd.R_below aq29 hb);replace HO109:=am (Kd.S_below aq33 hb);replace HO112:=am (Kd.R_below aq30 hb);replace HO117:=am (Kd.R_below aq48 hb);replace BK114:=am (bb BK114 hb);replace HB:=am (below_step aq11 hb);(try clear hb);(try clear ho0);obtain ⟨Ao16,co16,eo16⟩:=Kd.V_slice HO122.out;subst eo16)))
 go_loopg [9,10,29] k (fun kq v9 v10 v29 w'=>∃ (x9_1:Int) (x10_1:Int) (x29_1:Int),v9 = .int .i64 x9_1 ∧ v10 = .int .i64 x10_1 ∧ v29 = .int .i64 x29_1 ∧ Aside0 (impl_HardestGoal.l0 kq x9_1 x10_1 t115 (t120.length:Int) x29_1 t101 t104 t107 t110 = some (r1,r2,r3)) ∧ Aside0 (kq ≤ k) ∧ Aside0 (Kd.R (Kd.int .i64) 3 w' w.heap.size (fun k_=>some k_ ≠ ((.slice Ao11 t104.length co11):Value).ownBlock) v116 t115) ∧ Aside0 (Kd.R Kd.string 9 w' w.heap.size (fun k_=>some k_ ≠ ((.slice Ao13 t110.length co13):Value).ownBlock) (.slice Ao9 t101.length co9) t101) ∧ Aside0 (Kd.R (Kd.int .i64) 3 w' w.heap.size (fun k_=>some k_ ≠ (v116:Value).ownBlock) (.slice Ao11 t104.length co11) t104) ∧ Aside0 (Kd.S (Kd.slice 3 (Kd.int .i64)) 40 w' w.heap.size (fun k_=>some k_ ≠ (v116:Value).ownBlock ∧ some k_ ≠ ((.slice Ao11 t104.length co11):Value).ownBlock) (.slice Ao12 t107.length co12) t107) ∧ Aside0 (Kd.R Kd.string 9 w' w.heap.size (fun k_=>some k_ ≠ ((.slice Ao9 t101.length co9):Value).ownBlock) (.slice Ao13 t110.length co13) t110) ∧ Aside0 (w'.heap[gb114]? = some (.cells #[(.slice Ao9 t101.length co9),(.slice Ao11 t104.length co11),(.slice Ao12 t107.length co12),(.slice Ao13 t110.length co13)] 59 (0,0))) ∧ Aside0 (Below w.heap.size w w'))
 case atStart=>exact ⟨(0),((-1)),(0),aq7,aq7,aq7,H',⟨Nat.le_refl _⟩,⟨by (with_reducible repeat (first | apply Kd.R_alloc | apply Kd.R_drewN | apply Kd.R_drew));exact Kd.R_mono HO117.out (fun _ hk=>hk.2)⟩,⟨aq24⟩,⟨by (with_reducible repeat (first | apply Kd.R_alloc | apply Kd.R_drewN | apply Kd.R_drew));exact Kd.R_mono HO106.out (fun _ hk=>hk.2)⟩,⟨by (with_reducible repeat (first | apply Kd.S_alloc | apply Kd.S_drewN | apply Kd.S_drew));exact Kd.S_mono HO109.out (fun _ hk=>⟨hk.2,hk.1⟩)⟩,⟨aq30⟩,⟨aq37⟩,⟨aq11⟩⟩
 case round =>
  clear H'
  try clear c1
  try clear p2
  try clear c4
  try clear c15
  try clear hcz10_0
  try clear hcz10_1
  try clear hcz10_2
  try clear hcz10_3
  try clear hfz10_0
  try clear hfz10_1
  try clear hfz10_2
  try clear hfz10_3
  obtain ⟨x9_1,x10_1,x29_1,rfl,rfl,rfl,HA,HK1,HO_11,HO_115000,HO_115001,HO_115002,HO_115003,BK114,HB⟩:=hrel
  cases gk with
  | zero=>exact absurd HA.out (by simp [impl_HardestGoal.l0])
  | succ k1 =>
   have H:=HA.out
   clear HA
   simp only [impl_HardestGoal.l0] at H
   by_cases c17:x29_1 < (t120.length:Int)
   rotate_left
   ·rw [if_neg c17] at H
    have c17b0:=decide_eq_false c17
    clear c17
    by_cases c28:x10_1 > 40
    rotate_left
    ·rw [if_neg c28] at H
     have c28b0:=decide_eq_false c28
     clear c28
     simp only [Option.some.injEq,Prod.mk.injEq] at H
     obtain ⟨rfl,rfl,rfl⟩:=H
     go_wp2
     repeat (go_quiet (fail);try go_wp2)
     go_ret3
     exact ⟨aq8,aq11⟩
    rw [if_pos c28] at H
    have c28b0:=decide_eq_true c28
    clear c28
    simp only [Option.some.injEq,Prod.mk.injEq] at H
    obtain ⟨rfl,rfl,rfl⟩:=H
    go_wp2
    repeat (go_quiet (fail);try go_wp2)
    go_ret3
    exact ⟨aq8,aq11⟩
   rw [if_pos c17] at H
   have c17b0:=decide_eq_true c17
   clear c17
   obtain ⟨t123,A18,H⟩:=bn H
   by_cases c19:t123 ≥ 0
   rotate_left
   ·rw [if_neg c19] at H
    have c19b0:=decide_eq_false c19
    clear c19
    have H':=am H
    clear H
    obtain ⟨Ao27,co27,eo27⟩:=Kd.R_slice HO_11.out
    subst eo27
    go_wp2_with (first | (go_at_call 52;(with_reducible refine (slices_Index_int_int.calls k1 _ _ t115 x29_1 t123 _ ?side1 ?side2 A18.out).mono ?_);(case side1=>exact aq28);(case side2=>exact aq89);rintro e w' ⟨rfl,⟨nd,rfl⟩⟩;(try first | exact ⟨rfl,_,World.drewN_drewN _ _ _⟩ | exact ⟨rfl,_,Eq.trans (World.drewN_drewN _ _ _) (congrArg (World.drewN _) (Nat.add_assoc _ _ _))⟩)))
    repeat (go_quiet (first | (go_at_call 52;(with_reducible refine (slices_Index_int_int.calls k1 _ _ t115 x29_1 t123 _ ?side1 ?side2 A18.out).mono ?_);(case side1=>exact aq28);(case side2=>exact aq89);rintro e w' ⟨rfl,⟨nd,rfl⟩⟩;(try first | exact ⟨rfl,_,World.drewN_drewN _ _ _⟩ | exact ⟨rfl,_,Eq.trans (World.drewN_drewN _ _ _) (congrArg (World.drewN _) (Nat.add_assoc _ _ _))⟩)));try go_wp2_with (first | (go_at_call 52;(with_reducible refine (slices_Index_int_int.calls k1 _ _ t115 x29_1 t123 _ ?side1 ?side2 A18.out).mono ?_);(case side1=>exact aq28);(case side2=>exact aq89);rintro e w' ⟨rfl,⟨nd,rfl⟩⟩;(try first | exact ⟨rfl,_,World.drewN_drewN _ _ _⟩ | exact ⟨rfl,_,Eq.trans (World.drewN_drewN _ _ _) (congrArg (World.drewN _) (Nat.add_assoc _ _ _))⟩))))
    go_roundg k1
    case measure=>have:=HK1.out;omega
    case rel=>exact ⟨(x9_1),(x10_1),(wrap64 (x29_1 + 1)),aq7,aq7,aq7,H',⟨aq72⟩,⟨aq86⟩,⟨aq82⟩,⟨aq81⟩,⟨aq79⟩,⟨aq80⟩,⟨aq37⟩,⟨aq11⟩⟩
   rw [if_pos c19] at H
   have c19b0:=decide_eq_true c19
   clear c19
   replace H:=gd H
   obtain ⟨c20,H⟩:=H
   have c20b0:=decide_eq_true c20
   clear c20
   replace H:=gd H
   obtain ⟨c21,H⟩:=H
   have c21b0:=decide_eq_true c21
   clear c21
   by_cases c22:(rd t104 t123) > x10_1
   rotate_left
   ·rw [if_neg c22] at H
    have c22b0:=decide_eq_false c22
    clear c22
    have H':=am H
    clear H
    obtain ⟨Ao25,co25,eo25⟩:=Kd.R_slice HO_11.out
    subst eo25
    go_wp2_with (first | (go_at_call 52;(with_reducible refine (slices_Index_int_int.calls k1 _ _ t115 x29_1 t123 _ ?side1 ?side2 A18.out).mono ?_);(case side1=>exact aq28);(case side2=>exact aq89);rintro e w' ⟨rfl,⟨nd,rfl⟩⟩;(try first | exact ⟨rfl,_,World.drewN_drewN _ _ _⟩ | exact ⟨rfl,_,Eq.trans (World.drewN_drewN _ _ _) (congrArg (World.drewN _) (Nat.add_assoc _ _ _))⟩);obtain ⟨hcz26_0,hcz26_1,hcz26_2,hcz26_3,hfz26_0,hfz26_1,hfz26_2,hfz26_3⟩:=blk4_ BK114.out;have p124:0 ≤ (t123:Int):=of_decide_eq_true aq5;have q124:t123 < (t104.length:Int):=of_decide_eq_true aq5;obtain ⟨ad124,e124,hx124_0⟩:=Kd.at_int (Kd.R_reads' HO_115001.out).2.2 t123 p124 q124;cases e124;replace p124:=eq_true p124;replace q124:=eq_true q124))
    repeat (go_quiet (first | (go_at_call 52;(with_reducible refine (slices_Index_int_int.calls k1 _ _ t115 x29_1 t123 _ ?side1 ?side2 A18.out).mono ?_);(case side1=>exact aq28);(case side2=>exact aq89);rintro e w' ⟨rfl,⟨nd,rfl⟩⟩;(try first | exact ⟨rfl,_,World.drewN_drewN _ _ _⟩ | exact ⟨rfl,_,Eq.trans (World.drewN_drewN _ _ _) (congrArg (World.drewN _) (Nat.add_assoc _ _ _))⟩);obtain ⟨hcz26_0,hcz26_1,hcz26_2,hcz26_3,hfz26_0,hfz26_1,hfz26_2,hfz26_3⟩:=blk4_ BK114.out;have p124:0 ≤ (t123:Int):=of_decide_eq_true aq5;have q124:t123 < (t104.length:Int):=of_decide_eq_true aq5;obtain ⟨ad124,e124,hx124_0⟩:=Kd.at_int (Kd.R_reads' HO_115001.out).2.2 t123 p124 q124;cases e124;replace p124:=eq_true p124;replace q124:=eq_true q124));try go_wp2_with (first | (go_at_call 52;(with_reducible refine (slices_Index_int_int.calls k1 _ _ t115 x29_1 t123 _ ?side1 ?side2 A18.out).mono ?_);(case side1=>exact aq28);(case side2=>exact aq89);rintro e w' ⟨rfl,⟨nd,rfl⟩⟩;(try first | exact ⟨rfl,_,World.drewN_drewN _ _ _⟩ | exact ⟨rfl,_,Eq.trans (World.drewN_drewN _ _ _) (congrArg (World.drewN _) (Nat.add_assoc _ _ _))⟩);obtain ⟨hcz26_0,hcz26_1,hcz26_2,hcz26_3,hfz26_0,hfz26_1,hfz26_2,hfz26_3⟩:=blk4_ BK114.out;have p124:0 ≤ (t123:Int):=of_decide_eq_true aq5;have q124:t123 < (t104.length:Int):=of_decide_eq_true aq5;obtain ⟨ad124,e124,hx124_0⟩:=Kd.at_int (Kd.R_reads' HO_115001.out).2.2 t123 p124 q124;cases e124;replace p124:=eq_true p124;replace q124:=eq_true q124)))
    go_roundg k1
    case measure=>have:=HK1.out;omega
    case rel=>exact ⟨(x9_1),(x10_1),(wrap64 (x29_1 + 1)),aq7,aq7,aq7,H',⟨aq72⟩,⟨aq86⟩,⟨aq82⟩,⟨aq81⟩,⟨aq79⟩,⟨aq80⟩,⟨aq37⟩,⟨aq11⟩⟩
   rw [if_pos c22] at H
   have c22b0:=decide_eq_true c22
   clear c22
   have H':=am H
   clear H
   obtain ⟨Ao23,co23,eo23⟩:=Kd.R_slice HO_11.out
   subst eo23
   go_wp2_with (first | (go_at_call 52;(with_reducible refine (slices_Index_int_int.calls k1 _ _ t115 x29_1 t123 _ ?side1 ?side2 A18.out).mono ?_);(case side1=>exact aq28);(case side2=>exact aq89);rintro e w' ⟨rfl,⟨nd,rfl⟩⟩;(try first | exact ⟨rfl,_,World.drewN_drewN _ _ _⟩ | exact ⟨rfl,_,Eq.trans (World.drewN_drewN _ _ _) (congrArg (World.drewN _) (Nat.add_assoc _ _ _))⟩);obtain ⟨hcz24_0,hcz24_1,hcz24_2,hcz24_3,hfz24_0,hfz24_1,hfz24_2,hfz24_3⟩:=blk4_ BK114.out;have p124:0 ≤ (t123:Int):=of_decide_eq_true aq5;have q124:t123 < (t104.length:Int):=of_decide_eq_true aq5;obtain ⟨ad124,e124,hx124_0⟩:=Kd.at_int (Kd.R_reads' HO_115001.out).2.2 t123 p124 q124;cases e124;replace p124:=eq_true p124;replace q124:=eq_true q124;have p125:0 ≤ (t123:Int):=of_decide_eq_true aq5;have q125:t123 < (t104.length:Int):=of_decide_eq_true aq5;obtain ⟨ad125,e125,hx125_0⟩:=Kd.at_int (Kd.R_reads' HO_115001.out).2.2 t123 p125 q125;obtain rfl:ad124 = ad125:=(by injection e125);replace p125:=eq_true p125;replace q125:=eq_true q125))
   repeat (go_quiet (first | (go_at_call 52;(with_reducible refine (slices_Index_int_int.calls k1 _ _ t115 x29_1 t123 _ ?side1 ?side2 A18.out).mono ?_);(case side1=>exact aq28);(case side2=>exact aq89);rintro e w' ⟨rfl,⟨nd,rfl⟩⟩;(try first | exact ⟨rfl,_,World.drewN_drewN _ _ _⟩ | exact ⟨rfl,_,Eq.trans (World.drewN_drewN _ _ _) (congrArg (World.drewN _) (Nat.add_assoc _ _ _))⟩);obtain ⟨hcz24_0,hcz24_1,hcz24_2,hcz24_3,hfz24_0,hfz24_1,hfz24_2,hfz24_3⟩:=blk4_ BK114.out;have p124:0 ≤ (t123:Int):=of_decide_eq_true aq5;have q124:t123 < (t104.length:Int):=of_decide_eq_true aq5;obtain ⟨ad124,e124,hx124_0⟩:=Kd.at_int (Kd.R_reads' HO_115001.out).2.2 t123 p124 q124;cases e124;replace p124:=eq_true p124;replace q124:=eq_true q124;have p125:0 ≤ (t123:Int):=of_decide_eq_true aq5;have q125:t123 < (t104.length:Int):=of_decide_eq_true aq5;obtain ⟨ad125,e125,hx125_0⟩:=Kd.at_int (Kd.R_reads' HO_115001.out).2.2 t123 p125 q125;obtain rfl:ad124 = ad125:=(by injection e125);replace p125:=eq_true p125;replace q125:=eq_true q125));try go_wp2_with (first | (go_at_call 52;(with_reducible refine (slices_Index_int_int.calls k1 _ _ t115 x29_1 t123 _ ?side1 ?side2 A18.out).mono ?_);(case side1=>exact aq28);(case side2=>exact aq89);rintro e w' ⟨rfl,⟨nd,rfl⟩⟩;(try first | exact ⟨rfl,_,World.drewN_drewN _ _ _⟩ | exact ⟨rfl,_,Eq.trans (World.drewN_drewN _ _ _) (congrArg (World.drewN _) (Nat.add_assoc _ _ _))⟩);obtain ⟨hcz24_0,hcz24_1,hcz24_2,hcz24_3,hfz24_0,hfz24_1,hfz24_2,hfz24_3⟩:=blk4_ BK114.out;have p124:0 ≤ (t123:Int):=of_decide_eq_true aq5;have q124:t123 < (t104.length:Int):=of_decide_eq_true aq5;obtain ⟨ad124,e124,hx124_0⟩:=Kd.at_int (Kd.R_reads' HO_115001.out).2.2 t123 p124 q124;cases e124;replace p124:=eq_true p124;replace q124:=eq_true q124;have p125:0 ≤ (t123:Int):=of_decide_eq_true aq5;have q125:t123 < (t104.length:Int):=of_decide_eq_true aq5;obtain ⟨ad125,e125,hx125_0⟩:=Kd.at_int (Kd.R_reads' HO_115001.out).2.2 t123 p125 q125;obtain rfl:ad124 = ad125:=(by injection e125);replace p125:=eq_true p125;replace q125:=eq_true q125)))
   go_roundg k1
   case measure=>have:=HK1.out;omega
   case rel=>exact ⟨(x29_1),(rd t104 t123),(wrap64 (x29_1 + 1)),aq7,aq7,aq7,H',⟨aq72⟩,⟨aq86⟩,⟨aq82⟩,⟨aq81⟩,⟨aq79⟩,⟨aq80⟩,⟨aq37⟩,⟨aq11⟩⟩


end Go.Proofs.YtldhkbiomingbaaGreatDoor.F

namespace Go.Proofs.YtldhkbiomingbaaGreatDoor.F
open Go.RowKit Go.Proofs.YtldhkbiomingbaaGreatDoor Go.YW.PrintWords Go.YW.PrintMore
def candC (s:RS) (n:Int) (c:Nat):Option (Int × Int):=((pairsS s n).find? fun p=>p.1 == (c:Int)).map fun p=>(p.2,p.1)
theorem candC_some {s:RS} {n:Int} {c:Nat} (h:goalAt s n c < s.T.length):candC s n c = some (((s.F.getD (goalAt s n c) 0:Nat):Int),(c:Int)):=by
 have hat:=goalAt_at h
 have e:(pairsS s n).find? (fun p=>p.1 == (c:Int)) = some ((c:Int),((s.F.getD (goalAt s n c) 0:Nat):Int)):=by
  rw [List.find?_eq_some_iff_getElem]
  refine ⟨beq_self_eq_true _,goalAt s n c,by rw [pairsS_len];exact h,by rw [pairsS_get s n h,hat],fun j hj=>?_⟩
  have hjl:j < s.T.length:=Nat.lt_trans hj h
  rw [pairsS_get s n hjl]
  have:=goalAt_low hj hjl
  simpa using this
 unfold candC
 rw [e];rfl
theorem candC_none {s:RS} {n:Int} {c:Nat} (h:¬ goalAt s n c < s.T.length):candC s n c = none:=by
 unfold candC
 rw [Option.map_eq_none_iff,List.find?_eq_none]
 intro p hp
 obtain ⟨i,hi,rfl⟩:=List.mem_map.1 hp
 have hi':=List.mem_range.1 hi
 have hge:i < goalAt s n c:=by omega
 have:=goalAt_low hge hi'
 simpa using this
def stpC (s c:Int × Int):Int × Int:=if s.1 < c.1 then c else s
theorem range_drop {n c:Nat} (h:c < n):(List.range n).drop c = c :: (List.range n).drop (c + 1):=by
 rw [List.drop_eq_getElem_cons (by rw [List.length_range];exact h),List.getElem_range]
theorem hg_l0 {w h:Nat} {cs:List Int} {s:RS} (o:RS.Ok w h cs s) (nm:Int) {wh:Nat} (hwh:wh ≤ 1000) {R:Int × Int} (TT:List ByteArray) (NN:List (List Int)) (WW:List ByteArray) :
  ∀ (d c:Nat) (best most:Int),c + d = wh → (((List.range wh).drop c).filterMap (candC s nm)).foldl stpC (most,best) = R →
  Ev (fun k=>impl_HardestGoal.l0 k best most (cellsI s nm) (wh:Int) (c:Int) TT (castsI s.F) NN WW) (if R.1 > 40 then (0,0,false) else (R.2,R.1,true))
 | 0,c,best,most,hc,hR=>by
  rw [List.drop_of_length_le (by rw [List.length_range];omega)] at hR
  have hR':(most,best) = R:=hR
  subst hR'
  refine Ev.step (fun k=>?_) (Ev.now _)
  rw [impl_HardestGoal.l0,if_neg o_m]
  by_cases h:most > 40
  rotate_left
  ·rw [if_neg h,if_neg h]
  rw [if_pos h,if_pos h]
 | d + 1,c,best,most,hc,hR=>by
  have hlt:c < wh:=by omega
  have hm:=o.most
  have hW:wrap64 ((c:Int) + 1) = ((c + 1:Nat):Int):=w64t (n:=c + 1) o_m
  rw [range_drop hlt,List.filterMap_cons] at hR
  have hx:=indexI_l0 (l:=cellsI s nm) (by rw [cellsI_len];omega) (c:Int) _ 0 (Nat.zero_add _) (fun j hj=>by omega)
  by_cases hg:goalAt s nm c < s.T.length
  rotate_left
  ·rw [candC_none hg] at hR
   have hx2:Ev (fun k=>slices_Index_int_int.f k (cellsI s nm) (c:Int)) (-1):=by
    rw [if_neg (show ¬ (cellsI s nm).findIdx (fun x=>decide (x = (c:Int))) < (cellsI s nm).length by rw [cellsI_len];exact hg)] at hx
    exact hx
   have ih:=hg_l0 o nm hwh (R:=R) TT NN WW d (c + 1) best most o_m hR
   refine Ev.step (fun k=>by rw [impl_HardestGoal.l0,if_pos o_m]) (Ev.bind hx2 (Ev.congr (fun k=>?_) ih))
   rw [if_neg o_m,hW]
  rw [candC_some hg] at hR
  simp only [List.foldl_cons] at hR
  have hx2:Ev (fun k=>slices_Index_int_int.f k (cellsI s nm) (c:Int)) ((goalAt s nm c:Nat):Int):=by
   rw [if_pos (show (cellsI s nm).findIdx (fun x=>decide (x = (c:Int))) < (cellsI s nm).length by rw [cellsI_len];exact hg)] at hx
   exact hx
  generalize goalAt s nm (c:Int) = i at *
  have hF:i < s.F.length:=by rw [o.lF];exact hg
  have hfar:=casts_far hF
  have hi2:(i:Int) < ((castsI s.F).length:Int):=by rw [castsI_length];omega
  by_cases hb:most < ((s.F.getD i 0:Nat):Int)
  rotate_left
  ·have ih:=hg_l0 o nm hwh (R:=R) TT NN WW d (c + 1) best most o_m (by rw [show stpC (most,best) (((s.F.getD i 0:Nat):Int),(c:Int)) = (most,best) from if_neg hb] at hR;exact hR)
   refine Ev.step (fun k=>by rw [impl_HardestGoal.l0,if_pos o_m]) (Ev.bind hx2 (Ev.congr (fun k=>?_) ih))
   rw [if_pos o_m,if_pos o_m,if_pos hi2,hfar,if_neg (show ¬ ((s.F.getD i 0:Nat):Int) > most from hb),hW]
  have ih:=hg_l0 o nm hwh (R:=R) TT NN WW d (c + 1) (c:Int) ((s.F.getD i 0:Nat):Int) o_m (by rw [show stpC (most,best) (((s.F.getD i 0:Nat):Int),(c:Int)) = (((s.F.getD i 0:Nat):Int),(c:Int)) from if_pos hb] at hR;exact hR)
  refine Ev.step (fun k=>by rw [impl_HardestGoal.l0,if_pos o_m]) (Ev.bind hx2 (Ev.congr (fun k=>?_) ih))
  rw [if_pos o_m,if_pos o_m,if_pos hi2,hfar,if_pos (show ((s.F.getD i 0:Nat):Int) > most from hb),hW]
def hardG (t n:ByteArray):Int × Int × Bool:=if (hardA t n).2.2 = true then ((hardA t n).1,(hardA t n).2.1,true) else (0,0,false)
theorem impl_hard_ev (t n:ByteArray) (ht:t.size < 4294967281):Ev (fun k=>impl_HardestGoal.f k t n) (hardG t n):=by
 have hW:=reachWith_ev t n ht
 unfold impl_HardestGoal.f hardG hardA
 cases hs:ballS t n with
 | none =>
  rw [hs] at hW
  exact Ev.bind hW (Ev.congr (fun k=>if_neg Bool.false_ne_true) (Ev.now _))
 | some q =>
  obtain ⟨w,h,s⟩:=q
  rw [hs] at hW
  obtain ⟨cs,hg,v,o,hsr,hn,hf,hpl⟩:=ballS_place hs
  have hl:=v.len
  have hsm:=(tray_small v).2
  have hrd:impl_read.f t = some ((w:Int),(h:Int),cs):=impl_read_eq t hg
  refine Ev.bind hW (Ev.congr (fun k=>if_pos rfl) ?_)
  refine Ev.bind (cells_ev (w:=w) (h:=h) (s:=s) (name_byte hn) o.ok.tray o.ok.most (castsI s.F) (s.N.map castsI) (rW s)) ?_
  refine Ev.congr (fun k=>by rw [hrd,Option.bind_some]) ?_
  have hh:(((List.range (w * h)).drop 0).filterMap (candC s (bt n 0))).foldl stpC (-1,0) = hardS s (bt n 0):=hardS_cells o.ok.pos hpl 0
  have h1:=hg_l0 o.ok (bt n 0) (wh:=w * h) (by rw [← hl];exact Nat.le_trans hsm d_c) (rT w h s) (s.N.map castsI) (rW s) (w * h) 0 0 (-1) (Nat.zero_add _) hh
  simp only
  have e:(if decide ((hardS s (bt n 0)).1 ≤ 40) = true then ((hardS s (bt n 0)).2,(hardS s (bt n 0)).1,true) else ((0:Int),(0:Int),false)) = if (hardS s (bt n 0)).1 > 40 then (0,0,false) else ((hardS s (bt n 0)).2,(hardS s (bt n 0)).1,true):=by
   by_cases q:(hardS s (bt n 0)).1 ≤ 40
   rotate_left
   ·rw [if_neg (by simpa using q),if_pos o_m]
   rw [if_pos (decide_eq_true q),if_neg o_m]
  rw [e]
  refine Ev.congr (fun k=>?_) h1
  rw [show cs.length = w * h from hl];rfl
end Go.Proofs.YtldhkbiomingbaaGreatDoor.F

namespace Go.Proofs.YtldhkbiomingbaaGreatDoor.F
open Go.Proofs.YtldhkbiomingbaaGreatDoor
open Go.RowKit Go.YW.PrintWords Go.YW.PrintLast Go.YW.PrintMore Go.Lib
attribute [local go_sem] max2_int min2_int
def nxtM (s:Int):Int:=Int.tmod (wrap64 (wrap64 (s * 137) + 187)) 10007
def sdM:Nat → Int → Int
 | 0,s=>s
 | k + 1,s=>nxtM (sdM k s)
def cellM (s:Int):Int:=if Int.tmod s 5 < 2 then 35 else if Int.tmod s 11 = 2 then 111 else 46
def cellsM (m:Nat) (s:Int):List Int:=(List.range m).map fun j=>cellM (sdM (j + 1) s)
def trayM (m:Nat) (s:Int):List Int:=(cellsM m s).set (Int.tmod (sdM (m + 1) s) (m:Int)).toNat 97
theorem next_calls (b:Nat) (s:Int) (W:World) (hb:W.heap[b]? = some (.cells #[.int .i64 s] 3 (0,0))) :
  Calls Tryz.prog 71 #[.pointer (some ⟨b,0,none⟩)] W fun e w'=>e = .returned (.int .i64 (nxtM s)) ∧ w' = W.setCell ⟨b,0,none⟩ (.int .i64 (nxtM s)):=by
 have z:W.cell? ⟨b,0,none⟩ = some (.int .i64 s):=(blk_cell hb 0).trans rfl
 have f:=blk_frozen hb 0
 have z2:(W.setCell ⟨b,0,none⟩ (.int .i64 (nxtM s))).cell? ⟨b,0,none⟩ = some (.int .i64 (nxtM s)):=(blk_cell (blk_set hb 0 (.int .i64 (nxtM s))) 0).trans rfl
 clear hb
 go_enter Tryz.func71,Tryz.ntmps71
 go_wp2
 go_ret
 exact ⟨rfl,rfl⟩
def inM (a lo hi:Int):Bool:=decide (lo ≤ a) && decide (a ≤ hi)
theorem within_eq (a lo hi:Int):impl_within.f a lo hi = some (inM a lo hi):=by
 unfold impl_within.f inM
 by_cases h:lo ≤ a
 rotate_left
 ·rw [if_neg h,decide_eq_false h,Bool.false_and]
 rw [if_pos h,decide_eq_true h,Bool.true_and]
def impl_MakePuzzle.f (k:Nat) (a0 a1 a2:Int):Option (ByteArray × ByteArray × Int × Bool) :=
 if inM a0 2 5 = true ∧ inM a1 2 5 = true ∧ inM a2 0 9999 = true then (impl_tray_text.f a0 a1 (trayM (a0.toNat * a1.toNat) a2)).bind fun t=>(impl_HardestGoal.f k t (⟨#[97]⟩:ByteArray)).bind fun q=>if q.2.2 = true then some (t,(⟨#[97]⟩:ByteArray),q.1,true) else some ((⟨#[]⟩:ByteArray),(⟨#[]⟩:ByteArray),0,false)
 else some ((⟨#[]⟩:ByteArray),(⟨#[]⟩:ByteArray),0,false)
theorem make_false (a0 a1 a2:Int) (hno:¬ (inM a0 2 5 = true ∧ inM a1 2 5 = true ∧ inM a2 0 9999 = true)) (w:World) :
  Calls Tryz.prog 35 #[.int .i64 a0,.int .i64 a1,.int .i64 a2] w fun e w'=>e = .returned (.tuple #[.agg #[.string (⟨#[]⟩:ByteArray),.string (⟨#[]⟩:ByteArray),.int .i64 0],.bool false]) ∧ Below w.heap.size w w':=by
 obtain ⟨c1,h1⟩:∃ c,inM a0 2 5 = c:=⟨_,rfl⟩
 obtain ⟨c2,h2⟩:∃ c,inM a1 2 5 = c:=⟨_,rfl⟩
 obtain ⟨c3,h3⟩:∃ c,inM a2 0 9999 = c:=⟨_,rfl⟩
 rw [h1,h2,h3] at hno
 have HW1:=am ((within_eq a0 2 5).trans (congrArg some h1))
 have HW2:=am ((within_eq a1 2 5).trans (congrArg some h2))
 have HW3:=am ((within_eq a2 0 9999).trans (congrArg some h3))
 have HB:=am (Below.refl w.heap.size w)
 clear h1 h2 h3
 cases c1 with
 | false =>
  go_enter Tryz.func35,Tryz.ntmps35
  go_wp2_with (first
   | (refine bx 5 #[.int .i64 a2] 3 ?_;intro b5 hg w1 hbox hb;have X1:=am hbox;have HB1:=am hb;have G5:=am (show w.heap.size ≤ b5 by rw [hg];exact Nat.le_refl _);clear hg hbox hb)
   | (refine bx 6 #[.string (⟨#[]⟩:ByteArray),.string (⟨#[]⟩:ByteArray),.int .i64 0] 30 ?_;intro b6 hg w2 hbox hb;have Y2:=am hbox;have X2:=am (blk_below X1.out hb);have G6:=am (show w.heap.size ≤ b6 by rw [hg];exact HB1.out.size);have N56:=am (show b5 ≠ b6 by have:=blk_lt X1.out;omega);have HB2:=am (below_step HB1.out hb);obtain ⟨y0,y1,y2,f0,f1,f2⟩:=blk3_ hbox;have z5:w2.cell? ⟨b5,0,none⟩ = some (.int .i64 a2):=(blk_cell X2.out 0).trans rfl;clear hg hbox hb)
   | (go_at_call 70;(with_reducible refine (impl_within.calls a0 2 5 false _ HW1.out).mono ?_);rintro e w3 ⟨rfl,⟨⟨nd,hnd⟩⟩⟩;have X3:=am (show w3.heap[b5]? = some (.cells #[.int .i64 a2] 3 (0,0)) by rw [hnd];exact blk_drewN X2.out _);have Y3:=am (show w3.heap[b6]? = some (.cells #[.string (⟨#[]⟩:ByteArray),.string (⟨#[]⟩:ByteArray),.int .i64 0] 30 (0,0)) by rw [hnd];exact blk_drewN Y2.out _);have HB3:=am (show Below w.heap.size w w3 by rw [hnd];exact pw_below_drewN HB2.out _);clear hnd y0 y1 y2 f0 f1 f2 z5;obtain ⟨y0,y1,y2,f0,f1,f2⟩:=blk3_ Y3.out;have z5:w3.cell? ⟨b5,0,none⟩ = some (.int .i64 a2):=(blk_cell X3.out 0).trans rfl))
  refine bodyPost_ret (results_ct rfl _ _ b6 30 #[.string (⟨#[]⟩:ByteArray),.string (⟨#[]⟩:ByteArray),.int .i64 0] (0,0) _ rfl (blk_set3 Y3.out _ _ _) Tryz.underlying30 rfl k_r) rfl ?_
  exact ⟨rfl,below_set3 HB3.out G6.out _ _ _⟩
 | true =>
  cases c2 with
  | false =>
   go_enter Tryz.func35,Tryz.ntmps35
   go_wp2_with (first
    | (refine bx 5 #[.int .i64 a2] 3 ?_;intro b5 hg w1 hbox hb;have X1:=am hbox;have HB1:=am hb;have G5:=am (show w.heap.size ≤ b5 by rw [hg];exact Nat.le_refl _);clear hg hbox hb)
    | (refine bx 6 #[.string (⟨#[]⟩:ByteArray),.string (⟨#[]⟩:ByteArray),.int .i64 0] 30 ?_;intro b6 hg w2 hbox hb;have Y2:=am hbox;have X2:=am (blk_below X1.out hb);have G6:=am (show w.heap.size ≤ b6 by rw [hg];exact HB1.out.size);have N56:=am (show b5 ≠ b6 by have:=blk_lt X1.out;omega);have HB2:=am (below_step HB1.out hb);obtain ⟨y0,y1,y2,f0,f1,f2⟩:=blk3_ hbox;have z5:w2.cell? ⟨b5,0,none⟩ = some (.int .i64 a2):=(blk_cell X2.out 0).trans rfl;clear hg hbox hb)
    | (go_at_call 70;(with_reducible refine (impl_within.calls a0 2 5 true _ HW1.out).mono ?_);rintro e w3 ⟨rfl,⟨⟨nd,hnd⟩⟩⟩;have X3:=am (show w3.heap[b5]? = some (.cells #[.int .i64 a2] 3 (0,0)) by rw [hnd];exact blk_drewN X2.out _);have Y3:=am (show w3.heap[b6]? = some (.cells #[.string (⟨#[]⟩:ByteArray),.string (⟨#[]⟩:ByteArray),.int .i64 0] 30 (0,0)) by rw [hnd];exact blk_drewN Y2.out _);have HB3:=am (show Below w.heap.size w w3 by rw [hnd];exact pw_below_drewN HB2.out _);clear hnd y0 y1 y2 f0 f1 f2 z5;obtain ⟨y0,y1,y2,f0,f1,f2⟩:=blk3_ Y3.out;have z5:w3.cell? ⟨b5,0,none⟩ = some (.int .i64 a2):=(blk_cell X3.out 0).trans rfl)
    | (go_at_call 70;(with_reducible refine (impl_within.calls a1 2 5 false _ HW2.out).mono ?_);rintro e w4 ⟨rfl,⟨⟨nd,hnd⟩⟩⟩;have X4:=am (show w4.heap[b5]? = some (.cells #[.int .i64 a2] 3 (0,0)) by rw [hnd];exact blk_drewN X3.out _);have Y4:=am (show w4.heap[b6]? = some (.cells #[.string (⟨#[]⟩:ByteArray),.string (⟨#[]⟩:ByteArray),.int .i64 0] 30 (0,0)) by rw [hnd];exact blk_drewN Y3.out _);have HB4:=am (show Below w.heap.size w w4 by rw [hnd];exact pw_below_drewN HB3.out _);clear hnd y0 y1 y2 f0 f1 f2 z5;obtain ⟨y0,y1,y2,f0,f1,f2⟩:=blk3_ Y4.out;have z5:w4.cell? ⟨b5,0,none⟩ = some (.int .i64 a2):=(blk_cell X4.out 0).trans rfl))
   refine bodyPost_ret (results_ct rfl _ _ b6 30 #[.string (⟨#[]⟩:ByteArray),.string (⟨#[]⟩:ByteArray),.int .i64 0] (0,0) _ rfl (blk_set3 Y4.out _ _ _) Tryz.underlying30 rfl k_r) rfl ?_
   exact ⟨rfl,below_set3 HB4.out G6.out _ _ _⟩
  | true =>
   cases c3 with
   | false =>
    go_enter Tryz.func35,Tryz.ntmps35
    go_wp2_with (first
     | (refine bx 5 #[.int .i64 a2] 3 ?_;intro b5 hg w1 hbox hb;have X1:=am hbox;have HB1:=am hb;have G5:=am (show w.heap.size ≤ b5 by rw [hg];exact Nat.le_refl _);clear hg hbox hb)
     | (refine bx 6 #[.string (⟨#[]⟩:ByteArray),.string (⟨#[]⟩:ByteArray),.int .i64 0] 30 ?_;intro b6 hg w2 hbox hb;have Y2:=am hbox;have X2:=am (blk_below X1.out hb);have G6:=am (show w.heap.size ≤ b6 by rw [hg];exact HB1.out.size);have N56:=am (show b5 ≠ b6 by have:=blk_lt X1.out;omega);have HB2:=am (below_step HB1.out hb);obtain ⟨y0,y1,y2,f0,f1,f2⟩:=blk3_ hbox;have z5:w2.cell? ⟨b5,0,none⟩ = some (.int .i64 a2):=(blk_cell X2.out 0).trans rfl;clear hg hbox hb)
     | (go_at_call 70;(with_reducible refine (impl_within.calls a0 2 5 true _ HW1.out).mono ?_);rintro e w3 ⟨rfl,⟨⟨nd,hnd⟩⟩⟩;have X3:=am (show w3.heap[b5]? = some (.cells #[.int .i64 a2] 3 (0,0)) by rw [hnd];exact blk_drewN X2.out _);have Y3:=am (show w3.heap[b6]? = some (.cells #[.string (⟨#[]⟩:ByteArray),.string (⟨#[]⟩:ByteArray),.int .i64 0] 30 (0,0)) by rw [hnd];exact blk_drewN Y2.out _);have HB3:=am (show Below w.heap.size w w3 by rw [hnd];exact pw_below_drewN HB2.out _);clear hnd y0 y1 y2 f0 f1 f2 z5;obtain ⟨y0,y1,y2,f0,f1,f2⟩:=blk3_ Y3.out;have z5:w3.cell? ⟨b5,0,none⟩ = some (.int .i64 a2):=(blk_cell X3.out 0).trans rfl)
     | (go_at_call 70;(with_reducible refine (impl_within.calls a1 2 5 true _ HW2.out).mono ?_);rintro e w4 ⟨rfl,⟨⟨nd,hnd⟩⟩⟩;have X4:=am (show w4.heap[b5]? = some (.cells #[.int .i64 a2] 3 (0,0)) by rw [hnd];exact blk_drewN X3.out _);have Y4:=am (show w4.heap[b6]? = some (.cells #[.string (⟨#[]⟩:ByteArray),.string (⟨#[]⟩:ByteArray),.int .i64 0] 30 (0,0)) by rw [hnd];exact blk_drewN Y3.out _);have HB4:=am (show Below w.heap.size w w4 by rw [hnd];exact pw_below_drewN HB3.out _);clear hnd y0 y1 y2 f0 f1 f2 z5;obtain ⟨y0,y1,y2,f0,f1,f2⟩:=blk3_ Y4.out;have z5:w4.cell? ⟨b5,0,none⟩ = some (.int .i64 a2):=(blk_cell X4.out 0).trans rfl)
     | (go_at_call 70;(with_reducible refine (impl_within.calls a2 0 9999 false _ HW3.out).mono ?_);rintro e w5 ⟨rfl,⟨⟨nd,hnd⟩⟩⟩;have X5:=am (show w5.heap[b5]? = some (.cells #[.int .i64 a2] 3 (0,0)) by rw [hnd];exact blk_drewN X4.out _);have Y5:=am (show w5.heap[b6]? = some (.cells #[.string (⟨#[]⟩:ByteArray),.string (⟨#[]⟩:ByteArray),.int .i64 0] 30 (0,0)) by rw [hnd];exact blk_drewN Y4.out _);have HB5:=am (show Below w.heap.size w w5 by rw [hnd];exact pw_below_drewN HB4.out _);clear hnd y0 y1 y2 f0 f1 f2 z5;obtain ⟨y0,y1,y2,f0,f1,f2⟩:=blk3_ Y5.out;have z5:w5.cell? ⟨b5,0,none⟩ = some (.int .i64 a2):=(blk_cell X5.out 0).trans rfl))
    refine bodyPost_ret (results_ct rfl _ _ b6 30 #[.string (⟨#[]⟩:ByteArray),.string (⟨#[]⟩:ByteArray),.int .i64 0] (0,0) _ rfl (blk_set3 Y5.out _ _ _) Tryz.underlying30 rfl k_r) rfl ?_
    exact ⟨rfl,below_set3 HB5.out G6.out _ _ _⟩
   | true=>exact absurd ⟨rfl,rfl,rfl⟩ hno
theorem goesV_ {P:Program} {ops:Array Oper} {Q:Exit → Act → World → Prop} {oi:Oper} {N:Option Tmp} {a:Act} {w:World} {K:Act → World → Prop} {f:FuncId} {az:Array Operand} {ts:Array TypeId} {cap:Array Value} {x:Operand}
  (he:∀ args w,(callFunc f args).run P w = .ok (.enter f args) w) (args:Array Value) (hw:Region.wanted oi (yielded ops a.tmps) = true) (hN:oi.dst = N)
  (hop:oi.op = .call { callee:=.value x,args:=az,argTypes:=ts }) (hx:a.eval x = .func (.func f) #[] cap) (hargs:az.map a.eval ++ cap = args)
  (h:Calls P f args w fun e w'=>∃ v,e = .returned v ∧ K (a.put N v) w'):if Region.wanted oi (yielded ops a.tmps) = true then Oper.wp P oi a w K Q else K (a.put N undef) w:=by
 refine call_ f args hw hN ?_ h
 unfold execOp
 simp [hop,resolve,Deferred.ofValue,invoke,hx,hargs,he]
theorem cellsM_succ (m:Nat) (s:Int):cellsM (m + 1) s = cellsM m s ++ [cellM (sdM (m + 1) s)]:=by
 unfold cellsM
 rw [List.range_succ,List.map_append];rfl
theorem cellsM_len (m:Nat) (s:Int):(cellsM m s).length = m:=by unfold cellsM;rw [List.length_map,List.length_range]
structure MakeAt (w W:World) (b5 b6 b9 m1 m2:Nat) (s:Int) (v:Value) (l:List Int):Prop where
 p5:W.heap[b5]? = some (.cells #[.int .i64 s] 3 (0,0))
 p6:W.heap[b6]? = some (.cells #[.string (⟨#[]⟩:ByteArray),.string (⟨#[]⟩:ByteArray),.int .i64 0] 30 (0,0))
 p9:W.heap[b9]? = some (.cells #[.int .i64 m1,.int .i64 m2,v] 65 (0,0))
 row:Kd.R (Kd.int .u8) 5 W w.heap.size (fun _=>True) v l
 bel:Below w.heap.size w W
theorem MakeAt.next {w W:World} {b5 b6 b9 m1 m2:Nat} {s x:Int} {v:Value} {l:List Int} (a:MakeAt w W b5 b6 b9 m1 m2 s v l) (h56:b5 ≠ b6) (h59:b5 ≠ b9) (hb:w.heap.size ≤ b5):MakeAt w (W.setCell ⟨b5,0,none⟩ (.int .i64 x)) b5 b6 b9 m1 m2 x v l :=
 ⟨(blk_set a.p5 0 _).trans rfl,blk_far a.p6 (fun e=>h56 e.symm) _,blk_far a.p9 (fun e=>h59 e.symm) _,R_off (p:=⟨b5,0,none⟩) rfl a.row a.p5 d_c _,a.bel.setCell (p:=⟨b5,0,none⟩) hb _⟩
theorem MakeAt.drew {w W:World} {b5 b6 b9 m1 m2:Nat} {s:Int} {v:Value} {l:List Int} (a:MakeAt w W b5 b6 b9 m1 m2 s v l):MakeAt w W.drew b5 b6 b9 m1 m2 s v l :=
 ⟨blk_drew a.p5,blk_drew a.p6,blk_drew a.p9,Kd.R_drew a.row,below_drew1 a.bel⟩
theorem nxtM_range {s:Int} (h:0 ≤ s ∧ s ≤ 10006):0 ≤ nxtM s ∧ nxtM s ≤ 10006:=by
 have e1:wrap64 (s * 137) = s * 137:=w64 o_m o_m
 have e2:wrap64 (s * 137 + 187) = s * 137 + 187:=w64 o_m o_m
 unfold nxtM
 rw [e1,e2,Int.tmod_eq_emod_of_nonneg o_m]
 omega
theorem sdM_range {s:Int} (h:0 ≤ s ∧ s ≤ 10006):∀ k,0 ≤ sdM k s ∧ sdM k s ≤ 10006
 | 0=>h
 | k + 1=>nxtM_range (sdM_range h k)
theorem MakeAt.put {w W:World} {b5 b6 b9 m1 m2:Nat} {s:Int} {u v:Value} {l:List Int} (h5:W.heap[b5]? = some (.cells #[.int .i64 s] 3 (0,0))) (h6:W.heap[b6]? = some (.cells #[.string (⟨#[]⟩:ByteArray),.string (⟨#[]⟩:ByteArray),.int .i64 0] 30 (0,0)))
  (h9:W.heap[b9]? = some (.cells #[.int .i64 m1,.int .i64 m2,u] 65 (0,0))) (hr:Kd.R (Kd.int .u8) 5 W w.heap.size (fun _=>True) v l) (hB:Below w.heap.size w W) (h59:b5 ≠ b9) (h69:b6 ≠ b9) (hb:w.heap.size ≤ b9):MakeAt w (W.setCell ⟨b9,2,none⟩ v) b5 b6 b9 m1 m2 s v l :=
 ⟨blk_far h5 h59 _,blk_far h6 h69 _,(blk_set h9 2 _).trans rfl,R_off (p:=⟨b9,2,none⟩) rfl hr h9 d_c _,hB.setCell (p:=⟨b9,2,none⟩) hb _⟩
theorem make_true (k:Nat) (m1 m2:Nat) (a2:Int) (tx:ByteArray) (q1 q2:Int) (q3:Bool) (h1:2 ≤ m1 ∧ m1 ≤ 5) (h2:2 ≤ m2 ∧ m2 ≤ 5) (h3:0 ≤ a2 ∧ a2 ≤ 9999) (ht:impl_tray_text.f m1 m2 (trayM (m1 * m2) a2) = some tx) (hh:impl_HardestGoal.f k tx (⟨#[97]⟩:ByteArray) = some (q1,q2,q3)) (w:World) :
  Calls Tryz.prog 35 #[.int .i64 m1,.int .i64 m2,.int .i64 a2] w fun e w'=>e = .returned (.tuple (if q3 = true then #[.agg #[.string tx,.string (⟨#[97]⟩:ByteArray),.int .i64 q1],.bool true] else #[.agg #[.string (⟨#[]⟩:ByteArray),.string (⟨#[]⟩:ByteArray),.int .i64 0],.bool false])) ∧ Below w.heap.size w w':=by
 have HW1:=am ((within_eq (m1:Int) 2 5).trans (congrArg some (show inM (m1:Int) 2 5 = true by unfold inM;rw [decide_eq_true o_m,decide_eq_true o_m];rfl)))
 have HW2:=am ((within_eq (m2:Int) 2 5).trans (congrArg some (show inM (m2:Int) 2 5 = true by unfold inM;rw [decide_eq_true o_m,decide_eq_true o_m];rfl)))
 have HW3:=am ((within_eq a2 0 9999).trans (congrArg some (show inM a2 0 9999 = true by unfold inM;rw [decide_eq_true o_m,decide_eq_true o_m];rfl)))
 have HB:=am (Below.refl w.heap.size w)
 have hle:m1 * m2 ≤ 5 * 5:=Nat.mul_le_mul h1.2 h2.2
 have hge:2 * 2 ≤ m1 * m2:=Nat.mul_le_mul h1.1 h2.1
 obtain ⟨n,hn⟩:∃ n,m1 * m2 = n:=⟨_,rfl⟩
 rw [hn] at hle hge ht
 have hmul:(m1:Int) * (m2:Int) = (n:Int):=by rw [← hn];exact (Int.natCast_mul m1 m2).symm
 have hwm:wrap64 (n:Int) = (n:Int):=w64t o_m
 have HTX:=am ht
 have HHG:=am hh
 have HN:=am (And.intro hge hle)
 have HSR:=am (sdM_range (s:=a2) ⟨h3.1,by omega⟩)
 clear h1 h2 ht hh hle hge hn
 go_enter Tryz.func35,Tryz.ntmps35
 go_wp2_with (first
  | (refine bx 5 #[.int .i64 a2] 3 ?_;intro b5 hg w1 hbox hb;have X1:=am hbox;have HB1:=am hb;have G5:=am (show w.heap.size ≤ b5 by rw [hg];exact Nat.le_refl _);clear hg hbox hb)
  | (refine bx 6 #[.string (⟨#[]⟩:ByteArray),.string (⟨#[]⟩:ByteArray),.int .i64 0] 30 ?_;intro b6 hg w2 hbox hb;have Y2:=am hbox;have X2:=am (blk_below X1.out hb);have G6:=am (show w.heap.size ≤ b6 by rw [hg];exact HB1.out.size);have N56:=am (show b5 ≠ b6 by have:=blk_lt X1.out;omega);have HB2:=am (below_step HB1.out hb);obtain ⟨y0,y1,y2,f0,f1,f2⟩:=blk3_ hbox;have z5:w2.cell? ⟨b5,0,none⟩ = some (.int .i64 a2):=(blk_cell X2.out 0).trans rfl;clear hg hbox hb)
  | (go_at_call 70;(with_reducible refine (impl_within.calls m1 2 5 true _ HW1.out).mono ?_);rintro e w3 ⟨rfl,⟨⟨nd,hnd⟩⟩⟩;have X3:=am (show w3.heap[b5]? = some (.cells #[.int .i64 a2] 3 (0,0)) by rw [hnd];exact blk_drewN X2.out _);have Y3:=am (show w3.heap[b6]? = some (.cells #[.string (⟨#[]⟩:ByteArray),.string (⟨#[]⟩:ByteArray),.int .i64 0] 30 (0,0)) by rw [hnd];exact blk_drewN Y2.out _);have HB3:=am (show Below w.heap.size w w3 by rw [hnd];exact pw_below_drewN HB2.out _);clear hnd y0 y1 y2 f0 f1 f2 z5;obtain ⟨y0,y1,y2,f0,f1,f2⟩:=blk3_ Y3.out;have z5:w3.cell? ⟨b5,0,none⟩ = some (.int .i64 a2):=(blk_cell X3.out 0).trans rfl)
  | (go_at_call 70;(with_reducible refine (impl_within.calls m2 2 5 true _ HW2.out).mono ?_);rintro e w4 ⟨rfl,⟨⟨nd,hnd⟩⟩⟩;have X4:=am (show w4.heap[b5]? = some (.cells #[.int .i64 a2] 3 (0,0)) by rw [hnd];exact blk_drewN X3.out _);have Y4:=am (show w4.heap[b6]? = some (.cells #[.string (⟨#[]⟩:ByteArray),.string (⟨#[]⟩:ByteArray),.int .i64 0] 30 (0,0)) by rw [hnd];exact blk_drewN Y3.out _);have HB4:=am (show Below w.heap.size w w4 by rw [hnd];exact pw_below_drewN HB3.out _);clear hnd y0 y1 y2 f0 f1 f2 z5;obtain ⟨y0,y1,y2,f0,f1,f2⟩:=blk3_ Y4.out;have z5:w4.cell? ⟨b5,0,none⟩ = some (.int .i64 a2):=(blk_cell X4.out 0).trans rfl)
  | (go_at_call 70;(with_reducible refine (impl_within.calls a2 0 9999 true _ HW3.out).mono ?_);rintro e w5 ⟨rfl,⟨⟨nd,hnd⟩⟩⟩;have X5:=am (show w5.heap[b5]? = some (.cells #[.int .i64 a2] 3 (0,0)) by rw [hnd];exact blk_drewN X4.out _);have Y5:=am (show w5.heap[b6]? = some (.cells #[.string (⟨#[]⟩:ByteArray),.string (⟨#[]⟩:ByteArray),.int .i64 0] 30 (0,0)) by rw [hnd];exact blk_drewN Y4.out _);have HB5:=am (show Below w.heap.size w w5 by rw [hnd];exact pw_below_drewN HB4.out _);clear hnd y0 y1 y2 f0 f1 f2 z5;obtain ⟨y0,y1,y2,f0,f1,f2⟩:=blk3_ Y5.out;have z5:w5.cell? ⟨b5,0,none⟩ = some (.int .i64 a2):=(blk_cell X5.out 0).trans rfl)
  | (refine bx 9 #[.int .i64 0,.int .i64 0,.slice none 0 0] 65 ?_;intro b9 hg w6 hbox hb;have V6:=am hbox;have X6:=am (blk_below X5.out hb);have Y6:=am (blk_below Y5.out hb);have G9:=am (show w.heap.size ≤ b9 by rw [hg];exact HB5.out.size);have N59:=am (show b5 ≠ b9 by have:=blk_lt X5.out;omega);have N69:=am (show b6 ≠ b9 by have:=blk_lt Y5.out;omega);have HB6:=am (below_step HB5.out hb);clear y0 y1 y2 f0 f1 f2 z5;obtain ⟨y0,y1,y2,f0,f1,f2⟩:=blk3_ hbox;clear hg hbox hb))
 obtain ⟨w7,hw7⟩:∃ W,(((w6.setCell ⟨b9,0,none⟩ (.int .i64 m1)).setCell ⟨b9,1,none⟩ (.int .i64 m2)).setCell ⟨b9,2,none⟩ (.slice none 0 0)) = W:=⟨_,rfl⟩
 have HA0:Aside0 (MakeAt w w7 b5 b6 b9 m1 m2 a2 (.slice none 0 0) []):=by
  refine ⟨?_,?_,?_,Kd.R_nil _ _ _ _ _,?_⟩
  ·rw [← hw7];exact blk_far (blk_far (blk_far X6.out N59.out _) N59.out _) N59.out _
  ·rw [← hw7];exact blk_far (blk_far (blk_far Y6.out N69.out _) N69.out _) N69.out _
  ·rw [← hw7];exact blk_set3 V6.out _ _ _
  ·rw [← hw7];exact below_set3 HB6.out G9.out _ _ _
 rw [hw7,hwm]
 have HEN:=am (enters_of Tryz.func71 k_r rfl:∀ args w,(callFunc 71 args).run Tryz.prog w = .ok (.enter 71 args) w)
 clear hw7 y0 y1 y2 f0 f1 f2 X1 X2 X3 X4 X5 X6 Y2 Y3 Y4 Y5 Y6 V6 HB1 HB2 HB3 HB4 HB5 HB6
 go_loopw [36] (fun v36 wr=>∃ (i:Nat) (v:Value),i ≤ n ∧ v36 = .int .i64 i ∧ Aside0 (MakeAt w wr b5 b6 b9 m1 m2 (sdM i a2) v (cellsM i a2))) (fun v36 _=>n - (intOf v36).toNat)
 case atStart=>exact ⟨0,_,Nat.zero_le _,rfl,HA0⟩
 case round =>
  obtain ⟨i,v,hi,rfl,HA⟩:=hrel
  have hvl:=HA.out.row
  obtain ⟨Av,cv,rfl⟩:=Kd.R_slice hvl
  rw [cellsM_len] at HA
  clear hvl
  by_cases hlt:i < n
  ·have hltI:(i:Int) < (n:Int):=by omega
   have HL:=am hlt
   have hw1:IntKind.i64.wrap ((i:Int) + 1) = ((i + 1:Nat):Int):=by rw [IntKind.wrap_i64];have:=HN.out;omega
   have HSU:=am (cellsM_succ i a2)
   have HAL:=am (show ((cellsM i a2).length + 1) * 1 ≤ 140737488355328 by rw [cellsM_len];have:=HN.out;omega)
   have HLN:=am (cellsM_len i a2)
   obtain ⟨s1,hs1⟩:∃ x,sdM (i + 1) a2 = x:=⟨_,rfl⟩
   have hnx:nxtM (sdM i a2) = s1:=hs1
   rw [hs1] at HSU
   have HNX:=am hnx
   have HS1:=am hs1
   obtain ⟨l,hl⟩:∃ l,cellsM i a2 = l:=⟨_,rfl⟩
   rw [hl] at HA HSU HAL HLN
   clear hlt hi hs1 hnx hl
   by_cases h5:Int.tmod s1 5 ≤ 1
   ·have h5a:decide (Int.tmod s1 5 ≤ 1) = true:=decide_eq_true h5
    have h5b:(Int.tmod s1 5 ≤ 1) = True:=eq_true h5
    have HCE:=am (show cellM s1 = 35 from if_pos o_m)
    clear h5
    go_wp2_with (first
     | (go_at_call 71;refine (next_calls b5 (sdM i a2) _ HA.out.p5).mono ?_;rintro e w8 ⟨rfl,hw8⟩;rw [HNX.out] at hw8 ⊢;have HA8:=am (show MakeAt w w8 b5 b6 b9 m1 m2 s1 (.slice Av i cv) l by rw [hw8];exact HA.out.next N56.out N59.out G5.out);clear hw8;obtain ⟨y0,y1,y2,f0,f1,f2⟩:=blk3_ HA8.out.p9)
     | ((with_reducible refine gate_builtin (b:=.append) (xs:=#[.tmp 49,.tmp 51]) rfl ?_);at_builtin;refine Kd.R_append (Kd.int .u8) (w0:=w) w.heap.size rfl (.tmp 49) (.tmp 51) 63 5 (.int .u8 0) 1 rfl Tryz.underlying63 info5 rfl d_c o_m (.slice Av i cv) l (35:Int) [.int .u8 35] (fun _=>True) (fun _=>False) rfl rfl ?aP (fun _ hk=>hk.elim) ?aF ?aO ?aB ?aS ?aL ?_;(case aP=>exact rfl);(case aB=>exact HA8.out.bel);(case aF=>exact (fun _ _=>trivial));(case aO=>exact HA8.out.row);(case aS=>exact HA8.out.bel.size);(case aL=>exact HAL.out);intro v9 w9 ho9 hb9 hg9 hat9;obtain ⟨A9,c9,rfl⟩:=Kd.R_slice ho9;rw [List.length_append,List.length_singleton] at ho9;have HO9:=am ho9;have HB9:=am hb9;have P5:=am (show w9.heap[b5]? = some (.cells #[.int .i64 s1] 3 (0,0)) from blk_grown (by (with_reducible repeat (first | refine blk_drewN ?_ _ | refine blk_drew ?_ | refine blk_alloc ?_ _));exact HA8.out.p5) hg9 (Kd.R_ne HA8.out.row HA8.out.p5 d_c));have P6:=am (show w9.heap[b6]? = some (.cells #[.string (⟨#[]⟩:ByteArray),.string (⟨#[]⟩:ByteArray),.int .i64 0] 30 (0,0)) from blk_grown (by (with_reducible repeat (first | refine blk_drewN ?_ _ | refine blk_drew ?_ | refine blk_alloc ?_ _));exact HA8.out.p6) hg9 (Kd.R_ne HA8.out.row HA8.out.p6 d_c));have P9:=am (show w9.heap[b9]? = some (.cells #[.int .i64 m1,.int .i64 m2,.slice Av i cv] 65 (0,0)) from blk_grown (by (with_reducible repeat (first | refine blk_drewN ?_ _ | refine blk_drew ?_ | refine blk_alloc ?_ _));exact HA8.out.p9) hg9 (Kd.R_ne HA8.out.row HA8.out.p9 d_c));clear y0 y1 y2 f0 f1 f2 ho9 hb9 hg9 hat9;obtain ⟨y0,y1,y2,f0,f1,f2⟩:=blk3_ P9.out))
    go_roundw
    case rel=>exact ⟨i + 1,_,HL.out,by first | rfl | simp,⟨by rw [HS1.out,HSU.out,HCE.out];exact MakeAt.put P5.out P6.out P9.out HO9.out HB9.out N59.out N69.out G9.out⟩⟩
    case measure=>have:=HL.out;simp [intOf];omega
   have h5a:decide (Int.tmod s1 5 ≤ 1) = false:=decide_eq_false h5
   have h5b:(Int.tmod s1 5 ≤ 1) = False:=eq_false h5
   by_cases h11:Int.tmod s1 11 = 2
   rotate_left
   ·have h11a:(Int.tmod s1 11 == 2) = false:=beq_eq_false_iff_ne.2 h11
    have HCE:=am (show cellM s1 = 46 from (if_neg o_m).trans (if_neg h11))
    clear h5 h11
    go_wp2_with (first
     | (go_at_call 71;refine (next_calls b5 (sdM i a2) _ HA.out.p5).mono ?_;rintro e w8 ⟨rfl,hw8⟩;rw [HNX.out] at hw8 ⊢;have HA8:=am (show MakeAt w w8 b5 b6 b9 m1 m2 s1 (.slice Av i cv) l by rw [hw8];exact HA.out.next N56.out N59.out G5.out);clear hw8;obtain ⟨y0,y1,y2,f0,f1,f2⟩:=blk3_ HA8.out.p9)
     | ((with_reducible refine gate_builtin (b:=.append) (xs:=#[.tmp 49,.tmp 51]) rfl ?_);at_builtin;refine Kd.R_append (Kd.int .u8) (w0:=w) w.heap.size rfl (.tmp 49) (.tmp 51) 63 5 (.int .u8 0) 1 rfl Tryz.underlying63 info5 rfl d_c o_m (.slice Av i cv) l (46:Int) [.int .u8 46] (fun _=>True) (fun _=>False) rfl rfl ?aP (fun _ hk=>hk.elim) ?aF ?aO ?aB ?aS ?aL ?_;(case aP=>exact rfl);(case aB=>exact HA8.out.bel);(case aF=>exact (fun _ _=>trivial));(case aO=>exact HA8.out.row);(case aS=>exact HA8.out.bel.size);(case aL=>exact HAL.out);intro v9 w9 ho9 hb9 hg9 hat9;obtain ⟨A9,c9,rfl⟩:=Kd.R_slice ho9;rw [List.length_append,List.length_singleton] at ho9;have HO9:=am ho9;have HB9:=am hb9;have P5:=am (show w9.heap[b5]? = some (.cells #[.int .i64 s1] 3 (0,0)) from blk_grown (by (with_reducible repeat (first | refine blk_drewN ?_ _ | refine blk_drew ?_ | refine blk_alloc ?_ _));exact HA8.out.p5) hg9 (Kd.R_ne HA8.out.row HA8.out.p5 d_c));have P6:=am (show w9.heap[b6]? = some (.cells #[.string (⟨#[]⟩:ByteArray),.string (⟨#[]⟩:ByteArray),.int .i64 0] 30 (0,0)) from blk_grown (by (with_reducible repeat (first | refine blk_drewN ?_ _ | refine blk_drew ?_ | refine blk_alloc ?_ _));exact HA8.out.p6) hg9 (Kd.R_ne HA8.out.row HA8.out.p6 d_c));have P9:=am (show w9.heap[b9]? = some (.cells #[.int .i64 m1,.int .i64 m2,.slice Av i cv] 65 (0,0)) from blk_grown (by (with_reducible repeat (first | refine blk_drewN ?_ _ | refine blk_drew ?_ | refine blk_alloc ?_ _));exact HA8.out.p9) hg9 (Kd.R_ne HA8.out.row HA8.out.p9 d_c));clear y0 y1 y2 f0 f1 f2 ho9 hb9 hg9 hat9;obtain ⟨y0,y1,y2,f0,f1,f2⟩:=blk3_ P9.out))
    go_roundw
    case rel=>exact ⟨i + 1,_,HL.out,by first | rfl | simp,⟨by rw [HS1.out,HSU.out,HCE.out];exact MakeAt.put P5.out P6.out P9.out HO9.out HB9.out N59.out N69.out G9.out⟩⟩
    case measure=>have:=HL.out;simp [intOf];omega
   have h11a:(Int.tmod s1 11 == 2) = true:=beq_iff_eq.2 h11
   have HCE:=am (show cellM s1 = 111 from (if_neg o_m).trans (if_pos h11))
   clear h5 h11
   go_wp2_with (first
    | (go_at_call 71;refine (next_calls b5 (sdM i a2) _ HA.out.p5).mono ?_;rintro e w8 ⟨rfl,hw8⟩;rw [HNX.out] at hw8 ⊢;have HA8:=am (show MakeAt w w8 b5 b6 b9 m1 m2 s1 (.slice Av i cv) l by rw [hw8];exact HA.out.next N56.out N59.out G5.out);clear hw8;obtain ⟨y0,y1,y2,f0,f1,f2⟩:=blk3_ HA8.out.p9)
    | ((with_reducible refine gate_builtin (b:=.append) (xs:=#[.tmp 49,.tmp 51]) rfl ?_);at_builtin;refine Kd.R_append (Kd.int .u8) (w0:=w) w.heap.size rfl (.tmp 49) (.tmp 51) 63 5 (.int .u8 0) 1 rfl Tryz.underlying63 info5 rfl d_c o_m (.slice Av i cv) l (111:Int) [.int .u8 111] (fun _=>True) (fun _=>False) rfl rfl ?aP (fun _ hk=>hk.elim) ?aF ?aO ?aB ?aS ?aL ?_;(case aP=>exact rfl);(case aB=>exact HA8.out.bel);(case aF=>exact (fun _ _=>trivial));(case aO=>exact HA8.out.row);(case aS=>exact HA8.out.bel.size);(case aL=>exact HAL.out);intro v9 w9 ho9 hb9 hg9 hat9;obtain ⟨A9,c9,rfl⟩:=Kd.R_slice ho9;rw [List.length_append,List.length_singleton] at ho9;have HO9:=am ho9;have HB9:=am hb9;have P5:=am (show w9.heap[b5]? = some (.cells #[.int .i64 s1] 3 (0,0)) from blk_grown (by (with_reducible repeat (first | refine blk_drewN ?_ _ | refine blk_drew ?_ | refine blk_alloc ?_ _));exact HA8.out.p5) hg9 (Kd.R_ne HA8.out.row HA8.out.p5 d_c));have P6:=am (show w9.heap[b6]? = some (.cells #[.string (⟨#[]⟩:ByteArray),.string (⟨#[]⟩:ByteArray),.int .i64 0] 30 (0,0)) from blk_grown (by (with_reducible repeat (first | refine blk_drewN ?_ _ | refine blk_drew ?_ | refine blk_alloc ?_ _));exact HA8.out.p6) hg9 (Kd.R_ne HA8.out.row HA8.out.p6 d_c));have P9:=am (show w9.heap[b9]? = some (.cells #[.int .i64 m1,.int .i64 m2,.slice Av i cv] 65 (0,0)) from blk_grown (by (with_reducible repeat (first | refine blk_drewN ?_ _ | refine blk_drew ?_ | refine blk_alloc ?_ _));exact HA8.out.p9) hg9 (Kd.R_ne HA8.out.row HA8.out.p9 d_c));clear y0 y1 y2 f0 f1 f2 ho9 hb9 hg9 hat9;obtain ⟨y0,y1,y2,f0,f1,f2⟩:=blk3_ P9.out))
   go_roundw
   case rel=>exact ⟨i + 1,_,HL.out,by first | rfl | simp,⟨by rw [HS1.out,HSU.out,HCE.out];exact MakeAt.put P5.out P6.out P9.out HO9.out HB9.out N59.out N69.out G9.out⟩⟩
   case measure=>have:=HL.out;simp [intOf];omega
  have hge:¬ (i:Int) < (n:Int):=by omega
  obtain rfl:i = n:=by omega
  have hnp:0 < (cellsM i a2).length:=by rw [cellsM_len];have:=HN.out;omega
  obtain ⟨g,cap,hv,hgb,hgl,_⟩:=Kd.R_form HA.out.row hnp
  injection hv with e1 e2 e3
  clear e2
  subst e1
  obtain ⟨sn,hsn⟩:∃ x,sdM (i + 1) a2 = x:=⟨_,rfl⟩
  have hnx:nxtM (sdM i a2) = sn:=hsn
  have hrg:=HSR.out (i + 1)
  rw [hsn] at hrg
  obtain ⟨r,hr⟩:∃ r:Nat,Int.tmod sn (i:Int) = (r:Int):=⟨(Int.tmod sn (i:Int)).toNat,by rw [Int.tmod_eq_emod_of_nonneg hrg.1];exact (Int.toNat_of_nonneg (Int.emod_nonneg _ (by have:=HN.out;omega))).symm⟩
  have hri:r < i:=by
   have h1:=Int.emod_lt_of_pos sn (show (0:Int) < (i:Int) by have:=HN.out;omega)
   rw [← Int.tmod_eq_emod_of_nonneg hrg.1,hr] at h1
   omega
  have htr:trayM i a2 = (cellsM i a2).set r 97:=by unfold trayM;rw [hsn,hr];rfl
  have HNX:=am hnx
  have HTR:=am htr
  have HTL:=am (show (trayM i a2).length = i by rw [htr,List.length_set,cellsM_len])
  have HRI:=am hri
  have HRE:=am hr
  have HMU:=am (And.intro hmul hwm)
  have z2:wr.cell? ⟨b9,2,none⟩ = some (.slice (some ⟨g,0,none⟩) i cv):=(blk_cell HA.out.p9 2).trans rfl
  have HGB:=am hgb
  clear hgb hgl hnp hsn hnx hrg hri htr hi e3 hr hmul hwm
  go_wp2
  refine start_ (n:=10) (S:=fun w'=>w'.cell? ⟨b9,2,none⟩ = some (.slice (some ⟨g,0,none⟩) i cv)) (ds:=[]) (bm 10 0) k_r rfl rfl z2 (fun hHeld=>?_)
  refine take_ (i:=0) (N:=some 55) (v:=?_) (a':=?_) (bm 10 1) rfl rfl k_r (fun _ _ _ h=>h) (Or.inl ⟨by rfl,?_⟩) hHeld ?_ ?_
  rotate_left
  ·rintro w' s_0
   go_simp
   try with_reducible rfl
  rotate_left
  ·simp only [Act.put,ac_]
   rfl
  refine take_ (i:=1) (N:=some 56) (v:=?_) (a':=?_) (bm 10 3) rfl rfl k_r (fun _ _ _ h=>h) (Or.inl ⟨by rfl,?_⟩) hHeld ?_ ?_
  rotate_left
  ·rintro w' s_0
   go_simp
   try with_reducible rfl
  rotate_left
  ·simp only [Act.put,ac_]
   rfl
  refine take_ (i:=2) (N:=some 57) (v:=?_) (a':=?_) (bm 10 7) rfl rfl k_r (fun _ _ _ h=>h) (Or.inl ⟨by rfl,?_⟩) hHeld ?_ ?_
  rotate_left
  ·rintro w' s_0
   go_simp
   try with_reducible rfl
  rotate_left
  ·simp only [Act.put,ac_]
   rfl
  refine take_ (i:=4) (N:=some 59) (v:=?_) (a':=?_) (bm 10 23) rfl rfl k_r (fun _ _ _ h=>h) (Or.inl ⟨by rfl,?_⟩) hHeld ?_ ?_
  rotate_left
  ·rintro w' s_0
   go_simp
   try with_reducible rfl
  rotate_left
  ·simp only [Act.put,ac_]
   rfl
  refine take_ (i:=5) (N:=some 60) (v:=?_) (a':=?_) (bm 10 55) rfl rfl k_r (fun _ _ _ h=>h) (Or.inl ⟨by rfl,?_⟩) hHeld ?_ ?_
  rotate_left
  ·rintro w' s_0
   go_simp
   try with_reducible rfl
  rotate_left
  ·simp only [Act.put,ac_]
   rfl
  refine take_ (i:=6) (N:=some 61) (v:=?_) (a':=?_) (bm 10 119) rfl rfl k_r (fun _ _ _ h=>h) (Or.inl ⟨by rfl,?_⟩) hHeld ?_ ?_
  rotate_left
  ·rintro w' s_0
   go_simp
   try with_reducible rfl
  rotate_left
  ·simp only [Act.put,ac_]
   rfl
  refine one_ (i:=3) (N:=some 58) (bm 10 127) rfl rfl k_r d_c (fun K' hK'=>?_)
  refine goesV_ HEN.out #[.pointer (some ⟨b5,0,none⟩)] (by rfl) rfl rfl rfl (by simp) ?_
  refine (next_calls b5 (sdM i a2) _ (blk_drew HA.out.p5)).mono ?_
  rintro e w8 ⟨rfl,hw8⟩
  rw [HNX.out] at hw8
  rw [HNX.out]
  have HA8:=am (show MakeAt w w8 b5 b6 b9 m1 m2 sn (.slice (some ⟨g,0,none⟩) i cv) (cellsM i a2) by rw [hw8];exact HA.out.drew.next N56.out N59.out G5.out)
  refine ⟨_,rfl,?_⟩
  refine hK'.out _ _ ((blk_cell HA8.out.p9 2).trans rfl) (fun hHeld=>?_)
  clear hK' K' hw8 z2
  refine nm (some 58) ?_
  have hdiv:wrap64 ((m1:Int) * (m2:Int)) = (i:Int):=by rw [HMU.out.1,HMU.out.2]
  have hi0:((i:Int) = 0) = False:=eq_false (by have:=HN.out;omega)
  have hi1:((i:Int) == 0) = false:=beq_eq_false_iff_ne.2 (by have:=HN.out;omega)
  have hi2:(i = 0) = False:=eq_false (by have:=HN.out;omega)
  have hri4:(r < i) = True:=eq_true HRI.out
  have hr:=HRE.out
  have hri2:(r:Int) < (i:Int):=by have:=HRI.out;omega
  have hri3:((r:Int) < (i:Int)) = True:=eq_true hri2
  refine take_ (i:=7) (N:=some 62) (v:=?_) (a':=?_) (bm 10 255) rfl rfl k_r (fun _ _ _ h=>h) (Or.inl ⟨by rfl,?_⟩) hHeld ?_ ?_
  rotate_left
  ·rintro w' s_0
   go_simp
   try with_reducible rfl
  rotate_left
  ·simp only [Act.put,ac_]
   rfl
  refine take_ (i:=8) (N:=some 63) (v:=?_) (a':=?_) (bm 10 511) rfl rfl k_r (fun _ _ _ h=>h) (Or.inl ⟨by rfl,?_⟩) hHeld ?_ ?_
  rotate_left
  ·rintro w' s_0
   go_simp
   try with_reducible rfl
  rotate_left
  ·simp only [Act.put,ac_]
   rfl
  refine one_ (i:=9) (N:=none) (bm 10 1023) rfl rfl k_r d_c (fun K' hK'=>?_)
  obtain ⟨hsa,hsf⟩:=Kd.R_celln 0 HA8.out.row (r:Int) (Int.natCast_nonneg r) hri2
  rw [Int.toNat_natCast] at hsa hsf
  obtain ⟨w9,hw9⟩:∃ W,w8.setCell ⟨g,r,none⟩ (.int .u8 97) = W:=⟨_,rfl⟩
  have hng:∀ {t:TypeId} {b:Nat} {cells:Array Value},w8.heap[b]? = some (.cells cells t (0,0)) → 5 ≠ t → b ≠ g:=fun hb ht e=>Kd.R_ne HA8.out.row hb ht (by rw [e];rfl)
  have HR9:=am (show Kd.R (Kd.int .u8) 5 w9 w.heap.size (fun _=>True) (.slice (some ⟨g,0,none⟩) i cv) (trayM i a2) by rw [← hw9,HTR.out];have h:=Kd.R_putn HA8.out.row (r:Int) (97:Int);rw [Int.toNat_natCast] at h;exact h)
  have P6_9:=am (show w9.heap[b6]? = some (.cells #[.string (⟨#[]⟩:ByteArray),.string (⟨#[]⟩:ByteArray),.int .i64 0] 30 (0,0)) by rw [← hw9];exact blk_far HA8.out.p6 (hng HA8.out.p6 d_c) _)
  have P9_9:=am (show w9.heap[b9]? = some (.cells #[.int .i64 m1,.int .i64 m2,.slice (some ⟨g,0,none⟩) i cv] 65 (0,0)) by rw [← hw9];exact blk_far HA8.out.p9 (hng HA8.out.p9 d_c) _)
  have HB9:=am (show Below w.heap.size w w9 by rw [← hw9];exact HA8.out.bel.setCell (p:=⟨g,r,none⟩) HGB.out _)
  refine skip_ (w1:=?_) (by rfl) rfl ?_ ?_
  rotate_left
  ·go_simp
   rfl
  (try rw [hw9])
  refine hK'.out _ _ ((blk_cell P9_9.out 2).trans rfl) (fun hHeld=>?_)
  clear hK' K' hsa hsf hng hw9
  refine done_ k_r ?_
  clear hHeld hdiv hi0 hi1 hi2 hr hri2 hri3 hri4
  obtain ⟨y0,y1,y2,f0,f1,f2⟩:=blk3_ P6_9.out
  obtain ⟨x0,x1,x2,_,_,_⟩:=blk3_ P9_9.out
  have HTX1:=HTX
  have HTX2:=HTX
  cases q3 with
  | false =>
   go_wp2_with (first
    | (go_at_call 67;refine (show Calls Tryz.prog 67 #[.agg #[.int .i64 m1,.int .i64 m2,.slice (some ⟨g,0,none⟩) i cv]] _ (fun e w'=>e = .returned (.string tx) ∧ Below _ _ w') from by have h:=impl_tray_text.calls m1 m2 (some ⟨g,0,none⟩) cv (trayM i a2) tx _ (Kd.R_reads' HR9.out).2.2 (by rw [HTL.out];exact (Kd.R_reads' HR9.out).2.1) HTX1.out;rw [HTL.out] at h;exact h).mono ?_;clear HTX1;rintro e w10 ⟨rfl,hb10⟩;have HR10:=am (Kd.R_below HR9.out hb10);have P6_10:=am (blk_below P6_9.out hb10);have P9_10:=am (blk_below P9_9.out hb10);have HB10:=am (below_step HB9.out hb10);clear hb10 y0 y1 y2 f0 f1 f2 x0 x1 x2;obtain ⟨y0,y1,y2,f0,f1,f2⟩:=blk3_ P6_10.out;obtain ⟨x0,x1,x2,_,_,_⟩:=blk3_ P9_10.out)
    | (go_at_call 15;refine (impl_HardestGoal.calls k tx (⟨#[97]⟩:ByteArray) q1 q2 _ _ HHG.out).mono ?_;rintro e w11 ⟨rfl,hb11⟩;have HR11:=am (Kd.R_below HR10.out hb11);have P6_11:=am (blk_below P6_10.out hb11);have P9_11:=am (blk_below P9_10.out hb11);have HB11:=am (below_step HB10.out hb11);clear hb11 y0 y1 y2 f0 f1 f2 x0 x1 x2;obtain ⟨y0,y1,y2,f0,f1,f2⟩:=blk3_ P6_11.out;obtain ⟨x0,x1,x2,_,_,_⟩:=blk3_ P9_11.out))
   refine bodyPost_ret (results_ct rfl _ _ b6 30 #[.string (⟨#[]⟩:ByteArray),.string (⟨#[]⟩:ByteArray),.int .i64 0] (0,0) _ rfl (blk_set3 P6_11.out _ _ _) Tryz.underlying30 rfl k_r) rfl ?_
   exact ⟨rfl,below_set3 HB11.out G6.out _ _ _⟩
  | true =>
   go_wp2_with (first
    | (go_at_call 67;refine (show Calls Tryz.prog 67 #[.agg #[.int .i64 m1,.int .i64 m2,.slice (some ⟨g,0,none⟩) i cv]] _ (fun e w'=>e = .returned (.string tx) ∧ Below _ _ w') from by have h:=impl_tray_text.calls m1 m2 (some ⟨g,0,none⟩) cv (trayM i a2) tx _ (Kd.R_reads' HR9.out).2.2 (by rw [HTL.out];exact (Kd.R_reads' HR9.out).2.1) HTX1.out;rw [HTL.out] at h;exact h).mono ?_;clear HTX1;rintro e w10 ⟨rfl,hb10⟩;have HR10:=am (Kd.R_below HR9.out hb10);have P6_10:=am (blk_below P6_9.out hb10);have P9_10:=am (blk_below P9_9.out hb10);have HB10:=am (below_step HB9.out hb10);clear hb10 y0 y1 y2 f0 f1 f2 x0 x1 x2;obtain ⟨y0,y1,y2,f0,f1,f2⟩:=blk3_ P6_10.out;obtain ⟨x0,x1,x2,_,_,_⟩:=blk3_ P9_10.out)
    | (go_at_call 15;refine (impl_HardestGoal.calls k tx (⟨#[97]⟩:ByteArray) q1 q2 _ _ HHG.out).mono ?_;rintro e w11 ⟨rfl,hb11⟩;have HR11:=am (Kd.R_below HR10.out hb11);have P6_11:=am (blk_below P6_10.out hb11);have P9_11:=am (blk_below P9_10.out hb11);have HB11:=am (below_step HB10.out hb11);clear hb11 y0 y1 y2 f0 f1 f2 x0 x1 x2;obtain ⟨y0,y1,y2,f0,f1,f2⟩:=blk3_ P6_11.out;obtain ⟨x0,x1,x2,_,_,_⟩:=blk3_ P9_11.out)
    | (go_at_call 67;refine (show Calls Tryz.prog 67 #[.agg #[.int .i64 m1,.int .i64 m2,.slice (some ⟨g,0,none⟩) i cv]] _ (fun e w'=>e = .returned (.string tx) ∧ Below _ _ w') from by have h:=impl_tray_text.calls m1 m2 (some ⟨g,0,none⟩) cv (trayM i a2) tx _ (Kd.R_reads' HR11.out).2.2 (by rw [HTL.out];exact (Kd.R_reads' HR11.out).2.1) HTX2.out;rw [HTL.out] at h;exact h).mono ?_;clear HTX2;rintro e w12 ⟨rfl,hb12⟩;have HR12:=am (Kd.R_below HR11.out hb12);have P6_12:=am (blk_below P6_11.out hb12);have P9_12:=am (blk_below P9_11.out hb12);have HB12:=am (below_step HB11.out hb12);clear hb12 y0 y1 y2 f0 f1 f2 x0 x1 x2;obtain ⟨y0,y1,y2,f0,f1,f2⟩:=blk3_ P6_12.out;obtain ⟨x0,x1,x2,_,_,_⟩:=blk3_ P9_12.out))
   refine bodyPost_ret (results_ct rfl _ _ b6 30 #[.string tx,.string (⟨#[97]⟩:ByteArray),.int .i64 q1] (0,0) _ rfl (blk_set3 P6_12.out _ _ _) Tryz.underlying30 rfl k_r) rfl ?_
   exact ⟨rfl,below_set3 HB12.out G6.out _ _ _⟩
theorem inM_iff (a lo hi:Int):inM a lo hi = true ↔ lo ≤ a ∧ a ≤ hi:=by
 unfold inM
 rw [Bool.and_eq_true,decide_eq_true_iff,decide_eq_true_iff]
theorem impl_MakePuzzle.calls (k:Nat) (a0 a1 a2:Int) (r1 r2:ByteArray) (r3:Int) (r4:Bool) (w:World) (h:impl_MakePuzzle.f k a0 a1 a2 = some (r1,r2,r3,r4)) :
  Calls Tryz.prog 35 #[.int .i64 a0,.int .i64 a1,.int .i64 a2] w fun e w'=>e = .returned (.tuple #[.agg #[.string r1,.string r2,.int .i64 r3],.bool r4]) ∧ Below w.heap.size w w':=by
 unfold impl_MakePuzzle.f at h
 by_cases hc:inM a0 2 5 = true ∧ inM a1 2 5 = true ∧ inM a2 0 9999 = true
 rotate_left
 ·rw [if_neg hc] at h
  injection h with h
  injection h with e1 h
  injection h with e2 h
  injection h with e3 e4
  subst e1 e2 e3 e4
  exact make_false a0 a1 a2 hc w
 rw [if_pos hc] at h
 obtain ⟨tx,ht,h⟩:=Option.bind_eq_some_iff.mp h
 obtain ⟨⟨q1,q2,q3⟩,hh,h⟩:=Option.bind_eq_some_iff.mp h
 have c0:=(inM_iff _ _ _).1 hc.1
 have c1:=(inM_iff _ _ _).1 hc.2.1
 have c2:=(inM_iff _ _ _).1 hc.2.2
 obtain ⟨m1,rfl⟩:=Int.eq_ofNat_of_zero_le (show 0 ≤ a0 by omega)
 obtain ⟨m2,rfl⟩:=Int.eq_ofNat_of_zero_le (show 0 ≤ a1 by omega)
 rw [Int.toNat_natCast,Int.toNat_natCast] at ht
 refine (make_true k m1 m2 a2 tx q1 q2 q3 o_m o_m c2 ht hh w).mono ?_
 rintro e w' ⟨rfl,hB⟩
 refine ⟨?_,hB⟩
 cases q3 with
 | true =>
  rw [if_pos rfl] at h ⊢
  injection h with h
  injection h with e1 h
  injection h with e2 h
  injection h with e3 e4
  subst e1 e2 e3 e4
  rfl
 | false =>
  rw [if_neg Bool.false_ne_true] at h ⊢
  injection h with h
  injection h with e1 h
  injection h with e2 h
  injection h with e3 e4
  subst e1 e2 e3 e4
  rfl
end Go.Proofs.YtldhkbiomingbaaGreatDoor.F

namespace Go.Proofs.YtldhkbiomingbaaGreatDoor.F
open Go.Proofs.YtldhkbiomingbaaGreatDoor
open Go.RowKit Go.YW.PrintWords Go.YW.PrintLast Go.YW.PrintMore
attribute [local go_sem] max2_int min2_int max_two min_two max_three min_three max_four min_four
def spec_tyEmpty.l0:Nat → Int → Int → Int → Int → Int → List Int → Option (Int × Int × List Int)
 | 0,_,_,_,_,_,_=>none
 | k + 1,x0,x1,x6,x103000,x103001,x103002=>if x6 < (wrap64 (x0 * x1)) then (if x103002.length < 140737488355328 then (spec_tyEmpty.l0 k x0 x1 (wrap64 (x6 + 1)) x103000 x103001 (x103002 ++ [46])) else (none)) else (some (x103000,x103001,x103002))
def spec_tyEmpty.f (k:Nat) (a0:Int) (a1:Int):Option (Int × Int × List Int):=spec_tyEmpty.l0 k a0 a1 0 a0 a1 ([]:List Int)
theorem spec_tyEmpty.mono_l:∀ k,(∀ y0 y1 y2 y3 y4 y5,LeO (spec_tyEmpty.l0 k y0 y1 y2 y3 y4 y5) (spec_tyEmpty.l0 (k + 1) y0 y1 y2 y3 y4 y5))
 | 0=>fun _ _ _ _ _ _ r h=>by simp [spec_tyEmpty.l0] at h
 | k + 1=>by
  have ih0:=spec_tyEmpty.mono_l k
  ·intro y0 y1 y2 y3 y4 y5
   unfold spec_tyEmpty.l0
   exact mo
theorem spec_tyEmpty.mono:∀ a0 a1 k,LeO (spec_tyEmpty.f k a0 a1) (spec_tyEmpty.f (k + 1) a0 a1):=by
 intro a0 a1 k
 have ih0:=spec_tyEmpty.mono_l k
 unfold spec_tyEmpty.f
 exact mo
theorem spec_tyEmpty.calls (k:Nat) (a0:Int) (a1:Int) (r1:Int) (r2:Int) (r3:List Int) (w:World) (h:spec_tyEmpty.f k a0 a1 = some (r1,r2,r3)) :
  Calls Tryz.prog 69 #[.int .i64 a0,.int .i64 a1] w fun e w'=>∃ v2_:Value,e = .returned (.agg #[.int .i64 r1,.int .i64 r2,v2_]) ∧ Kd.R (Kd.int .u8) 5 w' w.heap.size (fun _=>True) v2_ r3 ∧ Below w.heap.size w w':=by
 have hu75:=Tryz.underlying75
 have HB:=am (Below.refl w.heap.size w)
 have H:(spec_tyEmpty.l0 k a0 a1 0 a0 a1 ([]:List Int)) = some (r1,r2,r3):=h
 clear h
 have H':=am H
 clear H
 go_enter Tryz.func69,Tryz.ntmps69
 go_wp2_with (first | (refine bx 4 #[.int .i64 0,.int .i64 0,.slice none 0 0] 75 ?_;intro gb101 hg w3 hbox hb;have BK101:=am (hbox);have GW101:=am ((by rw [hg];exact (below_size aq1):w.heap.size ≤ gb101));have GE101:=GW101;replace HB:=am (below_step aq1 hb);clear hb hbox hg) | (refine bx 5 #[.int .i64 0,.int .i64 0,.slice none 0 0] 75 ?_;intro gb102 hg w4 hbox hb;have BK102:=am (hbox);have GW102:=am ((by rw [hg];exact (below_size aq0):w.heap.size ≤ gb102));have GE102:=GW102;replace HB:=am (below_step aq0 hb);have NB101_102:=am ((by rw [hg];exact Nat.ne_of_lt (blk_lt (g:=gb101) (o:=.cells #[.int .i64 0,.int .i64 0,.slice none 0 0] 75 (0,0)) aq2):gb101 ≠ gb102));have NB102_101:=am ((by rw [hg];exact Nat.ne_of_gt (blk_lt (g:=gb101) (o:=.cells #[.int .i64 0,.int .i64 0,.slice none 0 0] 75 (0,0)) aq2):gb102 ≠ gb101));replace BK101:=am (bb BK101 hb);clear hb hbox hg;have hnb5:=NB102_101.out;have hnc5:=NB101_102.out;obtain ⟨hcz6_0,hcz6_1,hcz6_2,hfz6_0,hfz6_1,hfz6_2⟩:=blk3_ BK102.out))
 go_loopg [6] k (fun kq v6 w'=>∃ (x6_1:Int) (x103002_1:List Int) (u103002:Value),v6 = .int .i64 x6_1 ∧ Aside0 (spec_tyEmpty.l0 kq a0 a1 x6_1 a0 a1 x103002_1 = some (r1,r2,r3)) ∧ Aside0 (kq ≤ k) ∧ Aside0 (Kd.R (Kd.int .u8) 5 w' w.heap.size (fun _=>True) u103002 x103002_1) ∧ Aside0 (w'.heap[gb101]? = some (.cells #[.int .i64 0,.int .i64 0,(.slice none 0 0)] 75 (0,0))) ∧ Aside0 (w'.heap[gb102]? = some (.cells #[.int .i64 a0,.int .i64 a1,u103002] 75 (0,0))) ∧ Aside0 (Below w.heap.size w w'))
 case atStart=>exact ⟨(0),(([]:List Int)),(.slice none 0 0),aq7,H',⟨Nat.le_refl _⟩,⟨aq21⟩,⟨aq47⟩,⟨by (with_reducible repeat (first | refine blk_drewN ?_ _ | refine blk_drew ?_ | refine blk_alloc ?_ _));refine blk_put (cs:=#[.int .i64 a0,.int .i64 a1,.slice none 0 0]) ?_ 2 _ rfl;(with_reducible repeat (first | refine blk_drewN ?_ _ | refine blk_drew ?_ | refine blk_alloc ?_ _));refine blk_put (cs:=#[.int .i64 a0,.int .i64 0,.slice none 0 0]) ?_ 1 _ rfl;(with_reducible repeat (first | refine blk_drewN ?_ _ | refine blk_drew ?_ | refine blk_alloc ?_ _));refine blk_put (cs:=#[.int .i64 0,.int .i64 0,.slice none 0 0]) ?_ 0 _ rfl;(with_reducible repeat (first | refine blk_drewN ?_ _ | refine blk_drew ?_ | refine blk_alloc ?_ _));exact BK102.out⟩,⟨aq4⟩⟩
 case round =>
  clear H'
  try clear p2
  try clear c5
  try clear c6
  try clear hcz6_0
  try clear hcz6_1
  try clear hcz6_2
  try clear hfz6_0
  try clear hfz6_1
  try clear hfz6_2
  obtain ⟨x6_1,x103002_1,u103002,rfl,HA,HK1,HO_103002,BK101,BK102,HB⟩:=hrel
  cases gk with
  | zero=>exact absurd HA.out (by simp [spec_tyEmpty.l0])
  | succ k1 =>
   have H:=HA.out
   clear HA
   simp only [spec_tyEmpty.l0] at H
   by_cases c7:x6_1 < (wrap64 (a0 * a1))
   rotate_left
   ·rw [if_neg c7] at H
    have c7b0:=decide_eq_false c7
    clear c7
    simp only [Option.some.injEq,Prod.mk.injEq] at H
    obtain ⟨rfl,rfl,rfl⟩:=H
    have hnb14:=NB102_101.out
    have hnc14:=NB101_102.out
    obtain ⟨hcz15_0,hcz15_1,hcz15_2,hfz15_0,hfz15_1,hfz15_2⟩:=blk3_ BK102.out
    obtain ⟨hcz16_0,hcz16_1,hcz16_2,hfz16_0,hfz16_1,hfz16_2⟩:=blk3_ BK101.out
    obtain ⟨Ao17,co17,eo17⟩:=Kd.R_slice HO_103002.out
    subst eo17
    go_wp2
    refine bodyPost_ret (results_cell_row rfl _ _ gb101 75 #[.int .i64 a0,.int .i64 a1,.slice Ao17 x103002_1.length co17] (0,0) _ rfl (by (with_reducible repeat (first | refine blk_drewN ?_ _ | refine blk_drew ?_ | refine blk_alloc ?_ _));refine blk_put (cs:=#[.int .i64 a0,.int .i64 a1,.slice none 0 0]) ?_ 2 _ rfl;(with_reducible repeat (first | refine blk_drewN ?_ _ | refine blk_drew ?_ | refine blk_alloc ?_ _));refine blk_put (cs:=#[.int .i64 a0,.int .i64 0,.slice none 0 0]) ?_ 1 _ rfl;(with_reducible repeat (first | refine blk_drewN ?_ _ | refine blk_drew ?_ | refine blk_alloc ?_ _));refine blk_put (cs:=#[.int .i64 0,.int .i64 0,.slice none 0 0]) ?_ 0 _ rfl;(with_reducible repeat (first | refine blk_drewN ?_ _ | refine blk_drew ?_ | refine blk_alloc ?_ _));exact BK101.out) Tryz.underlying75 rfl k_r) rfl ?_
    exact ⟨_,aq8,by (with_reducible repeat (first | apply Kd.R_alloc | apply Kd.R_drewN | apply Kd.R_drew));exact Kd.R_mono (Kd.R_far (p:=⟨gb101,2,none⟩) (Kd.R_far (p:=⟨gb101,1,none⟩) (Kd.R_far (p:=⟨gb101,0,none⟩) (Kd.R_types HO_103002.out BK101.out d_c) (fun _ hk=>hk.2) (.int .i64 a0)) (fun _ hk=>hk.2) (.int .i64 a1)) (fun _ hk=>hk.2) (.slice Ao17 x103002_1.length co17)) (fun _ hk=>trivial),aq4⟩
   rw [if_pos c7] at H
   have c7b0:=decide_eq_true c7
   clear c7
   replace H:=gd H
   obtain ⟨c8,H⟩:=H
   have LMc8:=am c8
   clear c8
   obtain ⟨y103,hy_⟩:∃ y_:List Int,y_ = (x103002_1 ++ [46]):=⟨_,rfl⟩
   replace H:(spec_tyEmpty.l0 k1 a0 a1 (wrap64 (x6_1 + 1)) a0 a1 y103) = some (r1,r2,r3):=aq3
   have Ny103:=am hy_
   clear hy_
   have H':=am H
   clear H
   have hnb9:=NB102_101.out
   have hnc9:=NB101_102.out
   obtain ⟨hcz10_0,hcz10_1,hcz10_2,hfz10_0,hfz10_1,hfz10_2⟩:=blk3_ BK102.out
   go_wp2_with (first | ((with_reducible refine gate_builtin (b:=.append) (xs:=#[.tmp 18,.tmp 19]) rfl ?_);at_builtin;refine Kd.R_append (Kd.int .u8) (w0:=w) w.heap.size rfl (.tmp 18) (.tmp 19) 63 5 (.int .u8 0) 1 rfl Tryz.underlying63 info5 rfl d_c o_m u103002 x103002_1 46 [.int .u8 46] (fun _=>True) (fun _=>False) rfl rfl ?aP (fun _ hk=>hk.elim) ?aF ?aO ?aB ?aS ?aL ?_;(case aP=>exact rfl);(case aB=>exact aq4);(case aF=>exact aq78);(case aO=>exact aq23);(case aS=>exact (below_size aq4));(case aL=>have:=LMc8.out;omega);intro v104 w11 ho hb hg hat;rw [← Ny103.out] at ho;replace BK101:=am (bg BK101 hg (Kd.R_ne HO_103002.out BK101.out d_c));replace BK102:=am (bg BK102 hg (Kd.R_ne HO_103002.out BK102.out d_c));replace HB:=am (hb);have HO105:=am (ho);clear HO_103002 ho hb hg hat;obtain ⟨Ao12,co12,eo12⟩:=Kd.R_slice HO105.out;subst eo12;obtain ⟨hcz13_0,hcz13_1,hcz13_2,hfz13_0,hfz13_1,hfz13_2⟩:=blk3_ BK102.out))
   go_roundg k1
   case measure=>have:=HK1.out;omega
   case rel=>exact ⟨(wrap64 (x6_1 + 1)),(y103),(.slice Ao12 y103.length co12),aq7,H',⟨aq72⟩,⟨by (with_reducible repeat (first | apply Kd.R_alloc | apply Kd.R_drewN | apply Kd.R_drew));exact Kd.R_mono (Kd.R_far (p:=⟨gb102,2,none⟩) (Kd.R_types HO105.out BK102.out d_c) (fun _ hk=>hk.2) (.slice Ao12 y103.length co12)) (fun _ hk=>trivial)⟩,⟨aq105⟩,⟨by (with_reducible repeat (first | refine blk_drewN ?_ _ | refine blk_drew ?_ | refine blk_alloc ?_ _));refine blk_put (cs:=#[.int .i64 a0,.int .i64 a1,u103002]) ?_ 2 _ rfl;(with_reducible repeat (first | refine blk_drewN ?_ _ | refine blk_drew ?_ | refine blk_alloc ?_ _));exact BK102.out⟩,⟨aq4⟩⟩
mutual
def spec_MakePuzzle.j0:Nat → Int → Int → Int → Bool → Option (ByteArray × ByteArray × Int × Bool)
 | 0,_,_,_,_=>none
 | k + 1,x0,x1,x2,x26=>if x26 = true then (some ((⟨#[]⟩:ByteArray),(⟨#[]⟩:ByteArray),0,false)) else ((spec_tyEmpty.f k x0 x1).bind fun bt105=>(spec_MakePuzzle.l0 k x2 (bt105.2.2.length:Int) 0 bt105.1 bt105.2.1 bt105.2.2))
def spec_MakePuzzle.l0:Nat → Int → Int → Int → Int → Int → List Int → Option (ByteArray × ByteArray × Int × Bool)
 | 0,_,_,_,_,_,_=>none
 | k + 1,x9,x34,x35,x111000,x111001,x111002=>if x35 < x34 then (if (Int.tmod (Int.tmod (wrap64 ((wrap64 (x9 * 137)) + 187)) 10007) 5) < 2 then (if 0 ≤ x35 then (if x35 < (x111002.length:Int) then (spec_MakePuzzle.l0 k (Int.tmod (wrap64 ((wrap64 (x9 * 137)) + 187)) 10007) x34 (wrap64 (x35 + 1)) x111000 x111001 (x111002.set (x35:Int).toNat 35)) else (none)) else (none)) else (if (Int.tmod (Int.tmod (wrap64 ((wrap64 (x9 * 137)) + 187)) 10007) 11) = 2 then (if 0 ≤ x35 then (if x35 < (x111002.length:Int) then (spec_MakePuzzle.l0 k (Int.tmod (wrap64 ((wrap64 (x9 * 137)) + 187)) 10007) x34 (wrap64 (x35 + 1)) x111000 x111001 (x111002.set (x35:Int).toNat 111)) else (none)) else (none)) else (spec_MakePuzzle.l0 k (Int.tmod (wrap64 ((wrap64 (x9 * 137)) + 187)) 10007) x34 (wrap64 (x35 + 1)) x111000 x111001 x111002))) else (if (x111002.length:Int) = 0 then (none) else (if 0 ≤ (Int.tmod (Int.tmod (wrap64 ((wrap64 (x9 * 137)) + 187)) 10007) (x111002.length:Int)) then (if (Int.tmod (Int.tmod (wrap64 ((wrap64 (x9 * 137)) + 187)) 10007) (x111002.length:Int)) < (x111002.length:Int) then ((some (x111002.set ((Int.tmod (Int.tmod (wrap64 ((wrap64 (x9 * 137)) + 187)) 10007) (x111002.length:Int)):Int).toNat 97:List Int)).bind fun y113=>((spec_tyText.f k x111000 x111001 y113).bind fun t114=>((spec_puHardest.f t114 (⟨#[97]⟩:ByteArray)).bind fun bt115=>(if bt115.2.2 = true then ((spec_tyText.f k x111000 x111001 y113).bind fun t118=>(some (t118,(⟨#[97]⟩:ByteArray),bt115.1,true))) else (some ((⟨#[]⟩:ByteArray),(⟨#[]⟩:ByteArray),0,false)))))) else (none)) else (none)))
end
def spec_MakePuzzle.f (k:Nat) (a0:Int) (a1:Int) (a2:Int):Option (ByteArray × ByteArray × Int × Bool):=(spec_l1In.f a0 2 5).bind fun t102=>(if t102 = true then ((spec_l1In.f a1 2 5).bind fun t103=>(if t103 = true then ((spec_l1In.f a2 0 9999).bind fun t104=>(spec_MakePuzzle.j0 k a0 a1 a2 (!t104))) else (spec_MakePuzzle.j0 k a0 a1 a2 true))) else (spec_MakePuzzle.j0 k a0 a1 a2 true))
theorem spec_MakePuzzle.mono_l:∀ k,(∀ y0 y1 y2 y3,LeO (spec_MakePuzzle.j0 k y0 y1 y2 y3) (spec_MakePuzzle.j0 (k + 1) y0 y1 y2 y3)) ∧ (∀ y0 y1 y2 y3 y4 y5,LeO (spec_MakePuzzle.l0 k y0 y1 y2 y3 y4 y5) (spec_MakePuzzle.l0 (k + 1) y0 y1 y2 y3 y4 y5))
 | 0=>⟨fun _ _ _ _ r h=>by simp [spec_MakePuzzle.j0] at h,fun _ _ _ _ _ _ r h=>by simp [spec_MakePuzzle.l0] at h⟩
 | k + 1=>by
  obtain ⟨ih0,ih1⟩:=spec_MakePuzzle.mono_l k
  refine ⟨?_,?_⟩
  ·intro y0 y1 y2 y3
   unfold spec_MakePuzzle.j0
   have im0:=@spec_tyEmpty.mono;have im1:=@spec_tyText.mono;exact mo
  ·intro y0 y1 y2 y3 y4 y5
   unfold spec_MakePuzzle.l0
   have im0:=@spec_tyEmpty.mono;have im1:=@spec_tyText.mono;exact mo
def spec_MakePuzzle.T14:Bool × List (List Nat × List Nat):=(true,[([],[]),([0],[0]),([],[]),([],[]),([3],[3]),([4],[4]),([2,5],[2,5]),([1,6,0,1,2,3,4,5,6],[1,6]),([7,0,1,2,3,4,5,6],[7])])
def spec_MakePuzzle.B14:List Nat:=[0,1,0,0,8,24,60,127,255]
theorem spec_MakePuzzle.tab14:rtab .any (opsOf Tryz.f34 14) = spec_MakePuzzle.T14:=by kernel_rfl
theorem spec_MakePuzzle.bits14:waitsOk spec_MakePuzzle.T14.2 spec_MakePuzzle.B14 = true:=by kernel_rfl
theorem spec_MakePuzzle.calls (k:Nat) (a0:Int) (a1:Int) (a2:Int) (r1:ByteArray) (r2:ByteArray) (r3:Int) (r4:Bool) (w:World) (h:spec_MakePuzzle.f k a0 a1 a2 = some (r1,r2,r3,r4)) :
  Calls Tryz.prog 34 #[.int .i64 a0,.int .i64 a1,.int .i64 a2] w fun e w'=>e = .returned (.tuple #[.agg #[.string r1,.string r2,.int .i64 r3],.bool r4]) ∧ Below w.heap.size w w':=by
 have hu30:=Tryz.underlying30
 have hu75:=Tryz.underlying75
 have HB:=am (Below.refl w.heap.size w)
 have H:((spec_l1In.f a0 2 5).bind fun t102=>(if t102 = true then ((spec_l1In.f a1 2 5).bind fun t103=>(if t103 = true then ((spec_l1In.f a2 0 9999).bind fun t104=>(spec_MakePuzzle.j0 k a0 a1 a2 (!t104))) else (spec_MakePuzzle.j0 k a0 a1 a2 true))) else (spec_MakePuzzle.j0 k a0 a1 a2 true))) = some (r1,r2,r3,r4):=h
 clear h
 have HC4:=am H
 clear H
 go_enter Tryz.func34,Tryz.ntmps34
 go_upto_region 1 with (first | (refine bx 6 #[.string (⟨#[]⟩:ByteArray),.string (⟨#[]⟩:ByteArray),.int .i64 0] 30 ?_;intro gb101 hg w5 hbox hb;have BK101:=am (hbox);have GW101:=am ((by rw [hg];exact (below_size aq1):w.heap.size ≤ gb101));have GE101:=GW101;replace HB:=am (below_step aq1 hb);clear hb hbox hg))
 (try simp only [Act.put,List.setIfInBounds_toArray,List.set_cons_zero,List.set_cons_succ])
 go_cut [26] (fun v26 wc=>∃ (kq:Nat) (x26_3:Bool),v26 = .bool x26_3 ∧ Aside0 (spec_MakePuzzle.j0 kq a0 a1 a2 x26_3 = some (r1,r2,r3,r4)) ∧ Aside0 (kq ≤ k) ∧ Aside0 (wc.heap[gb101]? = some (.cells #[.string (⟨#[]⟩:ByteArray),.string (⟨#[]⟩:ByteArray),.int .i64 0] 30 (0,0))) ∧ Aside0 (Below w.heap.size w wc))
 case first =>
  have H:=HC4.out
  clear HC4
  obtain ⟨t102,A6,H⟩:=bn H
  by_cases c7:t102 = true
  rotate_left
  ·replace c7:=Bool.eq_false_iff.mpr c7
   subst c7
   rw [if_neg Bool.false_ne_true] at H
   have H':=am H
   clear H
   go_wp2_with (first | ((with_reducible refine gate_callee (f:=68) rfl ?_);refine goesL_ (some 15) rfl rfl Tryz.func68 k_r rfl #[.int .i64 a0,.int .i64 2,.int .i64 5] rfl aq6 ?_;(with_reducible refine (spec_l1In.calls a0 2 5 false _ A6.out).mono ?_);rintro e w' ⟨rfl,⟨nd,rfl⟩⟩;refine ⟨_,rfl,?_⟩))
   go_meet
   case rel=>exact ⟨_,(true),aq7,H',⟨aq73⟩,⟨aq2⟩,⟨aq0⟩⟩
  subst c7
  rw [if_pos rfl] at H
  obtain ⟨t103,A8,H⟩:=bn H
  by_cases c9:t103 = true
  rotate_left
  ·replace c9:=Bool.eq_false_iff.mpr c9
   subst c9
   rw [if_neg Bool.false_ne_true] at H
   have H':=am H
   clear H
   go_wp2_with (first | ((with_reducible refine gate_callee (f:=68) rfl ?_);refine goesL_ (some 15) rfl rfl Tryz.func68 k_r rfl #[.int .i64 a0,.int .i64 2,.int .i64 5] rfl aq6 ?_;(with_reducible refine (spec_l1In.calls a0 2 5 true _ A6.out).mono ?_);rintro e w' ⟨rfl,⟨nd,rfl⟩⟩;refine ⟨_,rfl,?_⟩) | (go_at_call 68;(with_reducible refine (spec_l1In.calls a1 2 5 false _ A8.out).mono ?_);rintro e w' ⟨rfl,⟨nd,rfl⟩⟩))
   go_meet
   case rel=>exact ⟨_,(true),aq7,H',⟨aq73⟩,⟨aq2⟩,⟨aq0⟩⟩
  subst c9
  rw [if_pos rfl] at H
  obtain ⟨t104,A10,H⟩:=bn H
  have H':=am H
  clear H
  go_wp2_with (first | ((with_reducible refine gate_callee (f:=68) rfl ?_);refine goesL_ (some 15) rfl rfl Tryz.func68 k_r rfl #[.int .i64 a0,.int .i64 2,.int .i64 5] rfl aq6 ?_;(with_reducible refine (spec_l1In.calls a0 2 5 true _ A6.out).mono ?_);rintro e w' ⟨rfl,⟨nd,rfl⟩⟩;refine ⟨_,rfl,?_⟩) | (go_at_call 68;(with_reducible refine (spec_l1In.calls a1 2 5 true _ A8.out).mono ?_);rintro e w' ⟨rfl,⟨nd,rfl⟩⟩) | (go_at_call 68;(with_reducible refine (spec_l1In.calls a2 0 9999 t104 _ A10.out).mono ?_);rintro e w' ⟨rfl,⟨nd,rfl⟩⟩))
  go_meet
  case rel=>exact ⟨_,(!t104),aq7,H',⟨aq73⟩,⟨aq2⟩,⟨aq0⟩⟩
 case rest =>
  clear HC4
  try clear p2
  try clear c3
  try clear c6
  try clear c7
  try clear c9
  obtain ⟨kq,x26_3,rfl,HA,HJ3,BK101,HB⟩:=hcut
  cases kq with
  | zero=>exact absurd HA.out (by simp [spec_MakePuzzle.j0])
  | succ kj3 =>
   have H:=HA.out
   clear HA
   simp only [spec_MakePuzzle.j0] at H
   by_cases c11:x26_3 = true
   ·subst c11
    rw [if_pos rfl] at H
    simp only [Option.some.injEq,Prod.mk.injEq] at H
    obtain ⟨rfl,rfl,rfl,rfl⟩:=H
    obtain ⟨hcz12_0,hcz12_1,hcz12_2,hfz12_0,hfz12_1,hfz12_2⟩:=blk3_ BK101.out
    go_wp2
    refine bodyPost_ret (results_ct rfl _ _ gb101 30 #[.string (⟨#[]⟩:ByteArray),.string (⟨#[]⟩:ByteArray),.int .i64 0] (0,0) _ rfl aq42 Tryz.underlying30 rfl k_r) rfl ?_
    exact ⟨aq8,aq0⟩
   replace c11:=Bool.eq_false_iff.mpr c11
   subst c11
   rw [if_neg Bool.false_ne_true] at H
   replace H:=Option.bind_eq_some_iff.mp H
   obtain ⟨⟨t105,t106,t107⟩,A130,H⟩:=H
   replace H:(spec_MakePuzzle.l0 kj3 a2 (t107.length:Int) 0 t105 t106 t107) = some (r1,r2,r3,r4):=H
   have A13:=am A130
   clear A130
   have H':=am H
   clear H
   go_wp2_with (first | ((with_reducible refine gate_callee (f:=69) rfl ?_);refine goesL_ (some 30) rfl rfl Tryz.func69 k_r rfl #[.int .i64 a0,.int .i64 a1] rfl aq6 ?_;(with_reducible refine (spec_tyEmpty.calls kj3 a0 a1 t105 t106 t107 _ A13.out).mono ?_);rintro e w14 ⟨v108,rfl,ho0,hb⟩;refine ⟨_,rfl,?_⟩;have HO109:=am (Kd.R_lower ho0 (below_size aq0));replace BK101:=am (blk_below (g:=gb101) (o:=.cells #[.string (⟨#[]⟩:ByteArray),.string (⟨#[]⟩:ByteArray),.int .i64 0] 30 (0,0)) aq2 hb);replace HB:=am (below_step aq0 hb);(try clear hb);(try clear ho0)) | (refine bx 8 #[.int .i64 0,.int .i64 0,.slice none 0 0] 75 ?_;intro gb110 hg w15 hbox hb;replace HO109:=am (Kd.R_below (by (with_reducible repeat (first | apply Kd.R_alloc | apply Kd.R_drewN | apply Kd.R_drew));exact HO109.out) hb);have BK110:=am (hbox);have GW110:=am ((by rw [hg];exact (below_size aq0):w.heap.size ≤ gb110));have GE110:=GW110;replace HB:=am (below_step aq0 hb);have NB101_110:=am ((by rw [hg];exact Nat.ne_of_lt (blk_lt (g:=gb101) (o:=.cells #[.string (⟨#[]⟩:ByteArray),.string (⟨#[]⟩:ByteArray),.int .i64 0] 30 (0,0)) aq2):gb101 ≠ gb110));have NB110_101:=am ((by rw [hg];exact Nat.ne_of_gt (blk_lt (g:=gb101) (o:=.cells #[.string (⟨#[]⟩:ByteArray),.string (⟨#[]⟩:ByteArray),.int .i64 0] 30 (0,0)) aq2):gb110 ≠ gb101));replace BK101:=am (blk_below (g:=gb101) (o:=.cells #[.string (⟨#[]⟩:ByteArray),.string (⟨#[]⟩:ByteArray),.int .i64 0] 30 (0,0)) aq2 hb);clear hb hbox hg;have hnb16:=NB110_101.out;have hnc16:=NB101_110.out;obtain ⟨hcz17_0,hcz17_1,hcz17_2,hfz17_0,hfz17_1,hfz17_2⟩:=blk3_ BK110.out;obtain ⟨Ao18,co18,eo18⟩:=Kd.R_slice HO109.out;subst eo18))
   go_loopg [9,35] kj3 (fun kq v9 v35 w'=>∃ (x9_2:Int) (x35_2:Int) (x111002_2:List Int) (u111002:Value),v9 = .int .i64 x9_2 ∧ v35 = .int .i64 x35_2 ∧ Aside0 (spec_MakePuzzle.l0 kq x9_2 (t107.length:Int) x35_2 t105 t106 x111002_2 = some (r1,r2,r3,r4)) ∧ Aside0 (kq ≤ kj3) ∧ Aside0 (Kd.R (Kd.int .u8) 5 w' w.heap.size (fun _=>True) u111002 x111002_2) ∧ Aside0 (w'.heap[gb101]? = some (.cells #[.string (⟨#[]⟩:ByteArray),.string (⟨#[]⟩:ByteArray),.int .i64 0] 30 (0,0))) ∧ Aside0 (w'.heap[gb110]? = some (.cells #[.int .i64 t105,.int .i64 t106,u111002] 75 (0,0))) ∧ Aside0 (Below w.heap.size w w'))
   case atStart=>exact ⟨(a2),(0),(t107),(.slice Ao18 t107.length co18),aq7,aq7,H',⟨Nat.le_refl _⟩,⟨by (with_reducible repeat (first | apply Kd.R_alloc | apply Kd.R_drewN | apply Kd.R_drew));exact Kd.R_mono (Kd.R_far (p:=⟨gb110,2,none⟩) (Kd.R_far (p:=⟨gb110,1,none⟩) (Kd.R_far (p:=⟨gb110,0,none⟩) (Kd.R_types HO109.out BK110.out d_c) (fun _ hk=>hk.2) (.int .i64 t105)) (fun _ hk=>hk.2) (.int .i64 t106)) (fun _ hk=>hk.2) (.slice Ao18 t107.length co18)) (fun _ hk=>trivial)⟩,⟨by (with_reducible repeat (first | refine blk_drewN ?_ _ | refine blk_drew ?_ | refine blk_alloc ?_ _));refine blk_far ?_ NB101_110.out _;(with_reducible repeat (first | refine blk_drewN ?_ _ | refine blk_drew ?_ | refine blk_alloc ?_ _));refine blk_far ?_ NB101_110.out _;(with_reducible repeat (first | refine blk_drewN ?_ _ | refine blk_drew ?_ | refine blk_alloc ?_ _));refine blk_far ?_ NB101_110.out _;(with_reducible repeat (first | refine blk_drewN ?_ _ | refine blk_drew ?_ | refine blk_alloc ?_ _));exact BK101.out⟩,⟨by (with_reducible repeat (first | refine blk_drewN ?_ _ | refine blk_drew ?_ | refine blk_alloc ?_ _));refine blk_put (cs:=#[.int .i64 t105,.int .i64 t106,.slice none 0 0]) ?_ 2 _ rfl;(with_reducible repeat (first | refine blk_drewN ?_ _ | refine blk_drew ?_ | refine blk_alloc ?_ _));refine blk_put (cs:=#[.int .i64 t105,.int .i64 0,.slice none 0 0]) ?_ 1 _ rfl;(with_reducible repeat (first | refine blk_drewN ?_ _ | refine blk_drew ?_ | refine blk_alloc ?_ _));refine blk_put (cs:=#[.int .i64 0,.int .i64 0,.slice none 0 0]) ?_ 0 _ rfl;(with_reducible repeat (first | refine blk_drewN ?_ _ | refine blk_drew ?_ | refine blk_alloc ?_ _));exact BK110.out⟩,⟨aq19⟩⟩
   case round =>
    clear H'
    try clear c1
    try clear p2
    try clear c3
    try clear c6
    try clear c7
    try clear c9
    try clear c11
    try clear c16
    try clear hcz12_0
    try clear hcz12_1
    try clear hcz12_2
    try clear hcz17_0
    try clear hcz17_1
    try clear hcz17_2
    try clear hfz12_0
    try clear hfz12_1
    try clear hfz12_2
    try clear hfz17_0
    try clear hfz17_1
    try clear hfz17_2
    try clear p2
    obtain ⟨x9_2,x35_2,x111002_2,u111002,rfl,rfl,HA,HK2,HO_111002,BK101,BK110,HB⟩:=hrel
    cases gk with
    | zero=>exact absurd HA.out (by simp [spec_MakePuzzle.l0])
    | succ k2 =>
     have H:=HA.out
     clear HA
     simp only [spec_MakePuzzle.l0] at H
     by_cases c19:x35_2 < (t107.length:Int)
     ·rw [if_pos c19] at H
      have c19b0:=decide_eq_true c19
      clear c19
      by_cases c20:(Int.tmod (Int.tmod (wrap64 ((wrap64 (x9_2 * 137)) + 187)) 10007) 5) < 2
      ·rw [if_pos c20] at H
       have c20b0:=decide_eq_true c20
       clear c20
       replace H:=gd H
       obtain ⟨c21,H⟩:=H
       have c21b0:=decide_eq_true c21
       clear c21
       replace H:=gd H
       obtain ⟨c22,H⟩:=H
       have c22b0:=decide_eq_true c22
       clear c22
       obtain ⟨y111,hy_⟩:∃ y_:List Int,y_ = (x111002_2.set (x35_2:Int).toNat 35):=⟨_,rfl⟩
       replace H:(spec_MakePuzzle.l0 k2 (Int.tmod (wrap64 ((wrap64 (x9_2 * 137)) + 187)) 10007) (t107.length:Int) (wrap64 (x35_2 + 1)) t105 t106 y111) = some (r1,r2,r3,r4):=aq3
       have Ny111:=am hy_
       clear hy_
       have H':=am H
       clear H
       have hnb24:=NB110_101.out
       have hnc24:=NB101_110.out
       obtain ⟨hcz25_0,hcz25_1,hcz25_2,hfz25_0,hfz25_1,hfz25_2⟩:=blk3_ BK110.out
       have p23:0 ≤ (x35_2:Int):=of_decide_eq_true aq5
       have q23:(x35_2:Int) < ((x111002_2.length:Int):Int):=of_decide_eq_true aq5
       obtain ⟨go23,co23,eo23,gb23,gl23,cl23,HG23⟩:=Kd.R_form HO_111002.out o_m
       (first | cases eo23 | (injection eo23 with ea_ en_ ec_;(first | subst ea_ | (injection ea_ with ea_;subst ea_));subst ec_;clear en_))
       have GB23:=am gb23
       have GG23:=am HG23
       clear gb23 gl23 HG23
       obtain ⟨hx23_0,hf23_0⟩:=Kd.R_celln 0 HO_111002.out (x35_2:Int) p23 q23
       replace p23:=eq_true p23
       replace q23:=eq_true q23
       have HP26:=Kd.R_putg HO_111002.out (x35_2:Int) 35
       go_wp2_with (first | ((with_reducible refine gate_store (t:=5) (p:=49) rfl ?_);refine store_event (t:=5) (p:=49) (v:=?vo_w27) (w1:=(wr.setCell ⟨go23,(x35_2:Int).toNat,none⟩ (.int .u8 35))) ?hg ?ho ?hn ?hr ?_;(case ho=>rfl);(case hg=>rfl);(case hn=>rfl);(case hr=>exact aq15);intro w27 hw;have hg:wr.grownBy w27 (some go23):=(by rw [hw];exact HP26.2);have hp_:Kd.R (Kd.int .u8) 5 w27 w.heap.size (fun _=>True) (.slice (some ⟨go23,0,none⟩) x111002_2.length co23) y111:=(by rw [hw,Ny111.out];exact HP26.1);clear HP26;replace BK101:=am (blk_grown (g:=gb101) (o:=.cells #[.string (⟨#[]⟩:ByteArray),.string (⟨#[]⟩:ByteArray),.int .i64 0] 30 (0,0)) aq2 hg (Kd.R_ne HO_111002.out BK101.out d_c));replace BK110:=am (bg BK110 hg (Kd.R_ne HO_111002.out BK110.out d_c));replace HO_111002:=am (hp_);replace HB:=am ((by rw [hw];exact below_set (HB.out) GB23.out:Below w.heap.size w w27));clear hg hw hp_))
       go_roundg k2
       case measure=>have:=HJ3.out;have:=HK2.out;omega
       case rel=>exact ⟨(Int.tmod (wrap64 ((wrap64 (x9_2 * 137)) + 187)) 10007),(wrap64 (x35_2 + 1)),(y111),(.slice (some ⟨go23,0,none⟩) x111002_2.length co23),aq7,aq7,H',⟨by have:=HJ3.out;have:=HK2.out;omega⟩,⟨aq41⟩,⟨aq2⟩,⟨aq36⟩,⟨aq19⟩⟩
      rw [if_neg c20] at H
      have c20b0:=decide_eq_false c20
      clear c20
      by_cases c28:(Int.tmod (Int.tmod (wrap64 ((wrap64 (x9_2 * 137)) + 187)) 10007) 11) = 2
      rotate_left
      ·rw [if_neg c28] at H
       have c28b0:=beq_eq_false_iff_ne.mpr c28
       have c28b1:=bne_iff_ne.mpr c28
       have H':=am H
       clear H
       go_wp2
       go_roundg k2
       case measure=>have:=HJ3.out;have:=HK2.out;omega
       case rel=>exact ⟨(Int.tmod (wrap64 ((wrap64 (x9_2 * 137)) + 187)) 10007),(wrap64 (x35_2 + 1)),(x111002_2),(u111002),aq7,aq7,H',⟨by have:=HJ3.out;have:=HK2.out;omega⟩,⟨aq41⟩,⟨aq2⟩,⟨aq36⟩,⟨aq19⟩⟩
      rw [if_pos c28] at H
      have c28b0:=beq_iff_eq.mpr c28
      have c28b1:=bne_eq_false_iff_eq.mpr c28
      clear c28
      replace H:=gd H
      obtain ⟨c29,H⟩:=H
      have c29b0:=decide_eq_true c29
      clear c29
      replace H:=gd H
      obtain ⟨c30,H⟩:=H
      have c30b0:=decide_eq_true c30
      clear c30
      obtain ⟨y112,hy_⟩:∃ y_:List Int,y_ = (x111002_2.set (x35_2:Int).toNat 111):=⟨_,rfl⟩
      replace H:(spec_MakePuzzle.l0 k2 (Int.tmod (wrap64 ((wrap64 (x9_2 * 137)) + 187)) 10007) (t107.length:Int) (wrap64 (x35_2 + 1)) t105 t106 y112) = some (r1,r2,r3,r4):=aq3
      have Ny112:=am hy_
      clear hy_
      have H':=am H
      clear H
      have hnb32:=NB110_101.out
      have hnc32:=NB101_110.out
      obtain ⟨hcz33_0,hcz33_1,hcz33_2,hfz33_0,hfz33_1,hfz33_2⟩:=blk3_ BK110.out
      have p31:0 ≤ (x35_2:Int):=of_decide_eq_true aq5
      have q31:(x35_2:Int) < ((x111002_2.length:Int):Int):=of_decide_eq_true aq5
      obtain ⟨go31,co31,eo31,gb31,gl31,cl31,HG31⟩:=Kd.R_form HO_111002.out o_m
      (first | cases eo31 | (injection eo31 with ea_ en_ ec_;(first | subst ea_ | (injection ea_ with ea_;subst ea_));subst ec_;clear en_))
      have GB31:=am gb31
      have GG31:=am HG31
      clear gb31 gl31 HG31
      obtain ⟨hx31_0,hf31_0⟩:=Kd.R_celln 0 HO_111002.out (x35_2:Int) p31 q31
      replace p31:=eq_true p31
      replace q31:=eq_true q31
      have HP34:=Kd.R_putg HO_111002.out (x35_2:Int) 111
      go_wp2_with (first | ((with_reducible refine gate_store (t:=5) (p:=57) rfl ?_);refine store_event (t:=5) (p:=57) (v:=?vo_w35) (w1:=(wr.setCell ⟨go31,(x35_2:Int).toNat,none⟩ (.int .u8 111))) ?hg ?ho ?hn ?hr ?_;(case ho=>rfl);(case hg=>rfl);(case hn=>rfl);(case hr=>exact aq15);intro w35 hw;have hg:wr.grownBy w35 (some go31):=(by rw [hw];exact HP34.2);have hp_:Kd.R (Kd.int .u8) 5 w35 w.heap.size (fun _=>True) (.slice (some ⟨go31,0,none⟩) x111002_2.length co31) y112:=(by rw [hw,Ny112.out];exact HP34.1);clear HP34;replace BK101:=am (blk_grown (g:=gb101) (o:=.cells #[.string (⟨#[]⟩:ByteArray),.string (⟨#[]⟩:ByteArray),.int .i64 0] 30 (0,0)) aq2 hg (Kd.R_ne HO_111002.out BK101.out d_c));replace BK110:=am (bg BK110 hg (Kd.R_ne HO_111002.out BK110.out d_c));replace HO_111002:=am (hp_);replace HB:=am ((by rw [hw];exact below_set (HB.out) GB31.out:Below w.heap.size w w35));clear hg hw hp_))
      go_roundg k2
      case measure=>have:=HJ3.out;have:=HK2.out;omega
      case rel=>exact ⟨(Int.tmod (wrap64 ((wrap64 (x9_2 * 137)) + 187)) 10007),(wrap64 (x35_2 + 1)),(y112),(.slice (some ⟨go31,0,none⟩) x111002_2.length co31),aq7,aq7,H',⟨by have:=HJ3.out;have:=HK2.out;omega⟩,⟨aq41⟩,⟨aq2⟩,⟨aq36⟩,⟨aq19⟩⟩
     rw [if_neg c19] at H
     have c19b0:=decide_eq_false c19
     clear c19
     by_cases c36:(x111002_2.length:Int) = 0
     ·rw [if_pos c36] at H
      exact absurd H (by simp)
     rw [if_neg c36] at H
     have c36b0:=beq_eq_false_iff_ne.mpr c36
     have c36b1:=bne_iff_ne.mpr c36
     have c36b2:¬ (x111002_2 = []):=fun h_=>c36 (by rw [h_];rfl)
     obtain ⟨ji37,hji37⟩:∃ j_:Int,(Int.tmod (Int.tmod (wrap64 ((wrap64 (x9_2 * 137)) + 187)) 10007) (x111002_2.length:Int)) = j_:=⟨_,rfl⟩
     first | rw [hji37] at H | simp only [hji37] at H
     replace H:=gd H
     obtain ⟨c38,H⟩:=H
     have c38b0:=decide_eq_true c38
     clear c38
     replace H:=gd H
     obtain ⟨c39,H⟩:=H
     have c39b0:=decide_eq_true c39
     clear c39
     obtain ⟨y113,hy_⟩:∃ y_:List Int,y_ = (x111002_2.set ((ji37):Int).toNat 97):=⟨_,rfl⟩
     replace H:((spec_tyText.f k2 t105 t106 y113).bind fun t114=>((spec_puHardest.f t114 (⟨#[97]⟩:ByteArray)).bind fun bt115=>(if bt115.2.2 = true then ((spec_tyText.f k2 t105 t106 y113).bind fun t118=>(some (t118,(⟨#[97]⟩:ByteArray),bt115.1,true))) else (some ((⟨#[]⟩:ByteArray),(⟨#[]⟩:ByteArray),0,false))))) = some (r1,r2,r3,r4):=aq3
     have Ny113:=am hy_
     clear hy_
     obtain ⟨t114,A41,H⟩:=bn H
     replace H:=Option.bind_eq_some_iff.mp H
     obtain ⟨⟨t115,t116,t117⟩,A420,H⟩:=H
     replace H:(if t117 = true then ((spec_tyText.f k2 t105 t106 y113).bind fun t118=>(some (t118,(⟨#[97]⟩:ByteArray),t115,true))) else (some ((⟨#[]⟩:ByteArray),(⟨#[]⟩:ByteArray),0,false))) = some (r1,r2,r3,r4):=H
     have A42:=am A420
     clear A420
     by_cases c43:t117 = true
     rotate_left
     ·replace c43:=Bool.eq_false_iff.mpr c43
      subst c43
      rw [if_neg Bool.false_ne_true] at H
      simp only [Option.some.injEq,Prod.mk.injEq] at H
      obtain ⟨rfl,rfl,rfl,rfl⟩:=H
      try go_wp2
      replace HO_111002:=am (Kd.R_drew HO_111002.out)
      replace BK101:=am (blk_drew BK101.out)
      replace BK110:=am (blk_drew BK110.out)
      replace HB:=am (below_drew1 HB.out)
      obtain ⟨Ao57,co57,eo57⟩:=Kd.R_slice HO_111002.out
      (first | subst eo57 | (injection eo57 with f1_ f2_ f3_;have f4_:=f1_.symm;have f5_:=f3_.symm;clear f1_ f2_ f3_;subst f4_;subst f5_))
      have p40:0 ≤ ((ji37):Int):=of_decide_eq_true aq5
      have q40:((ji37):Int) < ((x111002_2.length:Int):Int):=of_decide_eq_true aq5
      obtain ⟨go40,co40,eo40,gb40,gl40,cl40,HG40⟩:=Kd.R_form HO_111002.out o_m
      (first | cases eo40 | (injection eo40 with ea_ en_ ec_;(first | subst ea_ | (injection ea_ with ea_;subst ea_));subst ec_;clear en_))
      have GB40:=am gb40
      have GG40:=am HG40
      clear gb40 gl40 HG40
      obtain ⟨hx40_0,hf40_0⟩:=Kd.R_celln 0 HO_111002.out ((ji37):Int) p40 q40
      replace p40:=eq_true p40
      replace q40:=eq_true q40
      have HP58:=Kd.R_putn HO_111002.out ((ji37):Int) 97
      rw [← Ny113.out] at HP58
      have HQ58:=am HP58
      clear HP58
      refine start_ (n:=9) (S:=fun w'=>w'.cell? ⟨gb110,0,none⟩ = some (.int .i64 t105) ∧ w'.cell? ⟨gb110,1,none⟩ = some (.int .i64 t106) ∧ w'.cell? ⟨gb110,2,none⟩ = some (.slice (some ⟨go40,0,none⟩) x111002_2.length co57)) (ds:=[8]) (bm 9 0) k_r rfl rfl ⟨bk BK110 0,bk BK110 1,bk BK110 2⟩ (fun hHeld=>?_);refine with_tabW spec_MakePuzzle.tab14 spec_MakePuzzle.bits14 (fun HT_ HW_=>?_)
      generalize wr.drew = w56 at HO_111002 BK101 BK110 HB GG40 HQ58 hf40_0 hx40_0 hHeld ⊢
      refine py (i:=0) (N:=some 63) (bm 9 1) ?_
      refine py (i:=2) (N:=some 65) (bm 9 5) ?_
      refine py (i:=3) (N:=some 66) (bm 9 13) ?_
      refine tk3 (i:=1) (N:=some 64) (bm 9 15) hHeld ?_
      refine tk3 (i:=4) (N:=some 67) (bm 9 31) hHeld ?_
      refine py (i:=5) (N:=some 68) (bm 9 63) ?_
      refine py (i:=6) (N:=some 69) (bm 9 127) ?_
      refine py (i:=7) (N:=some 70) (bm 9 255) ?_
      refine last_ (i:=8) (N:=none) (bm 9 511) rfl rfl (one_of HT_.out k_r) d_c (fun K hK=>?_)
      refine skip_ (w1:=?_) (by rfl) rfl ?_ ?_
      rotate_left
      ·go_simp
       rfl
      refine hK.out _ _ ?_
      clear hK K
      refine done_ (done_of HT_.out k_r) ?_
      have n0_:Aside0 (Kd.R (Kd.int .u8) 5 (w56.setCell ⟨go40,((ji37):Int).toNat,none⟩ (.int .u8 97)) w.heap.size (fun _=>True) (.slice (some ⟨go40,0,none⟩) x111002_2.length co57) y113):=⟨by (with_reducible repeat (first | apply Kd.R_alloc | apply Kd.R_drewN | apply Kd.R_drew));exact HQ58.out⟩
      have n1_:Aside0 ((w56.setCell ⟨go40,((ji37):Int).toNat,none⟩ (.int .u8 97)).heap[gb101]? = some (.cells #[.string (⟨#[]⟩:ByteArray),.string (⟨#[]⟩:ByteArray),.int .i64 0] 30 (0,0))):=⟨aq56⟩
      have n2_:Aside0 ((w56.setCell ⟨go40,((ji37):Int).toNat,none⟩ (.int .u8 97)).heap[gb110]? = some (.cells #[.int .i64 t105,.int .i64 t106,.slice (some ⟨go40,0,none⟩) x111002_2.length co57] 75 (0,0))):=⟨aq69⟩
      have n3_:Aside0 (Below w.heap.size w (w56.setCell ⟨go40,((ji37):Int).toNat,none⟩ (.int .u8 97))):=⟨aq75⟩
      (try clear HO_111002)
      (try clear BK101)
      (try clear BK110)
      (try clear HB)
      generalize (w56.setCell ⟨go40,((ji37):Int).toNat,none⟩ (.int .u8 97)) = w59 at n0_ n1_ n2_ n3_ ⊢
      have HO_111002:=n0_
      have BK101:=n1_
      have BK110:=n2_
      have HB:=n3_
      clear n0_ n1_ n2_ n3_
      have hnb60:=NB110_101.out
      have hnc60:=NB101_110.out
      obtain ⟨hcz61_0,hcz61_1,hcz61_2,hfz61_0,hfz61_1,hfz61_2⟩:=blk3_ BK110.out
      try go_wp2_with (first | ((with_reducible refine gate_callee (f:=65) rfl ?_);refine goesL_ (some 73) rfl rfl Tryz.func65 k_r rfl #[.agg #[.int .i64 t105,.int .i64 t106,.slice (some ⟨go40,0,none⟩) y113.length co57]] rfl aq51 ?_;(with_reducible refine (spec_tyText.calls k2 t105 t106 _ _ y113 t114 _ ?side1 ?side2 A41.out).mono ?_);(case side1=>exact aq58);(case side2=>exact aq84);rintro e w62 ⟨rfl,hb⟩;refine ⟨_,rfl,?_⟩;replace HO_111002:=am (Kd.R_below aq41 hb);replace BK101:=am (blk_below (g:=gb101) (o:=.cells #[.string (⟨#[]⟩:ByteArray),.string (⟨#[]⟩:ByteArray),.int .i64 0] 30 (0,0)) aq2 hb);replace BK110:=am (bb BK110 hb);replace HB:=am (below_step aq19 hb);(try clear hb)) | ((with_reducible refine gate_callee (f:=48) rfl ?_);refine goesL_ (some 74) rfl rfl Tryz.func48 k_r rfl #[.string t114,.string (⟨#[97]⟩:ByteArray)] rfl aq6 ?_;(with_reducible refine (spec_puHardest.calls t114 (⟨#[97]⟩:ByteArray) t115 t116 false _ A42.out).mono ?_);rintro e w63 ⟨rfl,hb⟩;refine ⟨_,rfl,?_⟩;replace HO_111002:=am (Kd.R_below aq41 hb);replace BK101:=am (blk_below (g:=gb101) (o:=.cells #[.string (⟨#[]⟩:ByteArray),.string (⟨#[]⟩:ByteArray),.int .i64 0] 30 (0,0)) aq2 hb);replace BK110:=am (bb BK110 hb);replace HB:=am (below_step aq19 hb);(try clear hb);obtain ⟨hcz64_0,hcz64_1,hcz64_2,hfz64_0,hfz64_1,hfz64_2⟩:=blk3_ BK101.out))
      refine bodyPost_ret (results_ct rfl _ _ gb101 30 #[.string (⟨#[]⟩:ByteArray),.string (⟨#[]⟩:ByteArray),.int .i64 0] (0,0) _ rfl aq42 Tryz.underlying30 rfl k_r) rfl ?_
      exact ⟨aq92,aq19⟩
     subst c43
     rw [if_pos rfl] at H
     obtain ⟨t118,A44,H⟩:=bn H
     simp only [Option.some.injEq,Prod.mk.injEq] at H
     obtain ⟨rfl,rfl,rfl,rfl⟩:=H
     try go_wp2
     replace HO_111002:=am (Kd.R_drew HO_111002.out)
     replace BK101:=am (blk_drew BK101.out)
     replace BK110:=am (blk_drew BK110.out)
     replace HB:=am (below_drew1 HB.out)
     obtain ⟨Ao46,co46,eo46⟩:=Kd.R_slice HO_111002.out
     (first | subst eo46 | (injection eo46 with f1_ f2_ f3_;have f4_:=f1_.symm;have f5_:=f3_.symm;clear f1_ f2_ f3_;subst f4_;subst f5_))
     have p40:0 ≤ ((ji37):Int):=of_decide_eq_true aq5
     have q40:((ji37):Int) < ((x111002_2.length:Int):Int):=of_decide_eq_true aq5
     obtain ⟨go40,co40,eo40,gb40,gl40,cl40,HG40⟩:=Kd.R_form HO_111002.out o_m
     (first | cases eo40 | (injection eo40 with ea_ en_ ec_;(first | subst ea_ | (injection ea_ with ea_;subst ea_));subst ec_;clear en_))
     have GB40:=am gb40
     have GG40:=am HG40
     clear gb40 gl40 HG40
     obtain ⟨hx40_0,hf40_0⟩:=Kd.R_celln 0 HO_111002.out ((ji37):Int) p40 q40
     replace p40:=eq_true p40
     replace q40:=eq_true q40
     have HP47:=Kd.R_putn HO_111002.out ((ji37):Int) 97
     rw [← Ny113.out] at HP47
     have HQ47:=am HP47
     clear HP47
     refine start_ (n:=9) (S:=fun w'=>w'.cell? ⟨gb110,0,none⟩ = some (.int .i64 t105) ∧ w'.cell? ⟨gb110,1,none⟩ = some (.int .i64 t106) ∧ w'.cell? ⟨gb110,2,none⟩ = some (.slice (some ⟨go40,0,none⟩) x111002_2.length co46)) (ds:=[8]) (bm 9 0) k_r rfl rfl ⟨bk BK110 0,bk BK110 1,bk BK110 2⟩ (fun hHeld=>?_);refine with_tabW spec_MakePuzzle.tab14 spec_MakePuzzle.bits14 (fun HT_ HW_=>?_)
     generalize wr.drew = w45 at HO_111002 BK101 BK110 HB GG40 HQ47 hf40_0 hx40_0 hHeld ⊢
     refine py (i:=0) (N:=some 63) (bm 9 1) ?_
     refine py (i:=2) (N:=some 65) (bm 9 5) ?_
     refine py (i:=3) (N:=some 66) (bm 9 13) ?_
     refine tk3 (i:=1) (N:=some 64) (bm 9 15) hHeld ?_
     refine tk3 (i:=4) (N:=some 67) (bm 9 31) hHeld ?_
     refine py (i:=5) (N:=some 68) (bm 9 63) ?_
     refine py (i:=6) (N:=some 69) (bm 9 127) ?_
     refine py (i:=7) (N:=some 70) (bm 9 255) ?_
     refine last_ (i:=8) (N:=none) (bm 9 511) rfl rfl (one_of HT_.out k_r) d_c (fun K hK=>?_)
     refine skip_ (w1:=?_) (by rfl) rfl ?_ ?_
     rotate_left
     ·go_simp
      rfl
     refine hK.out _ _ ?_
     clear hK K
     refine done_ (done_of HT_.out k_r) ?_
     have n0_:Aside0 (Kd.R (Kd.int .u8) 5 (w45.setCell ⟨go40,((ji37):Int).toNat,none⟩ (.int .u8 97)) w.heap.size (fun _=>True) (.slice (some ⟨go40,0,none⟩) x111002_2.length co46) y113):=⟨by (with_reducible repeat (first | apply Kd.R_alloc | apply Kd.R_drewN | apply Kd.R_drew));exact HQ47.out⟩
     have n1_:Aside0 ((w45.setCell ⟨go40,((ji37):Int).toNat,none⟩ (.int .u8 97)).heap[gb101]? = some (.cells #[.string (⟨#[]⟩:ByteArray),.string (⟨#[]⟩:ByteArray),.int .i64 0] 30 (0,0))):=⟨aq56⟩
     have n2_:Aside0 ((w45.setCell ⟨go40,((ji37):Int).toNat,none⟩ (.int .u8 97)).heap[gb110]? = some (.cells #[.int .i64 t105,.int .i64 t106,.slice (some ⟨go40,0,none⟩) x111002_2.length co46] 75 (0,0))):=⟨aq69⟩
     have n3_:Aside0 (Below w.heap.size w (w45.setCell ⟨go40,((ji37):Int).toNat,none⟩ (.int .u8 97))):=⟨aq75⟩
     (try clear HO_111002)
     (try clear BK101)
     (try clear BK110)
     (try clear HB)
     generalize (w45.setCell ⟨go40,((ji37):Int).toNat,none⟩ (.int .u8 97)) = w48 at n0_ n1_ n2_ n3_ ⊢
     have HO_111002:=n0_
     have BK101:=n1_
     have BK110:=n2_
     have HB:=n3_
     clear n0_ n1_ n2_ n3_
     have hnb49:=NB110_101.out
     have hnc49:=NB101_110.out
     obtain ⟨hcz50_0,hcz50_1,hcz50_2,hfz50_0,hfz50_1,hfz50_2⟩:=blk3_ BK110.out
     try go_wp2_with (first | ((with_reducible refine gate_callee (f:=65) rfl ?_);refine goesL_ (some 73) rfl rfl Tryz.func65 k_r rfl #[.agg #[.int .i64 t105,.int .i64 t106,.slice (some ⟨go40,0,none⟩) y113.length co46]] rfl aq51 ?_;(with_reducible refine (spec_tyText.calls k2 t105 t106 _ _ y113 t114 _ ?side1 ?side2 A41.out).mono ?_);(case side1=>exact aq58);(case side2=>exact aq84);rintro e w51 ⟨rfl,hb⟩;refine ⟨_,rfl,?_⟩;replace HO_111002:=am (Kd.R_below aq41 hb);replace BK101:=am (blk_below (g:=gb101) (o:=.cells #[.string (⟨#[]⟩:ByteArray),.string (⟨#[]⟩:ByteArray),.int .i64 0] 30 (0,0)) aq2 hb);replace BK110:=am (bb BK110 hb);replace HB:=am (below_step aq19 hb);(try clear hb)) | ((with_reducible refine gate_callee (f:=48) rfl ?_);refine goesL_ (some 74) rfl rfl Tryz.func48 k_r rfl #[.string t114,.string (⟨#[97]⟩:ByteArray)] rfl aq6 ?_;(with_reducible refine (spec_puHardest.calls t114 (⟨#[97]⟩:ByteArray) t115 t116 true _ A42.out).mono ?_);rintro e w52 ⟨rfl,hb⟩;refine ⟨_,rfl,?_⟩;replace HO_111002:=am (Kd.R_below aq41 hb);replace BK101:=am (blk_below (g:=gb101) (o:=.cells #[.string (⟨#[]⟩:ByteArray),.string (⟨#[]⟩:ByteArray),.int .i64 0] 30 (0,0)) aq2 hb);replace BK110:=am (bb BK110 hb);replace HB:=am (below_step aq19 hb);(try clear hb);obtain ⟨hcz53_0,hcz53_1,hcz53_2,hfz53_0,hfz53_1,hfz53_2⟩:=blk3_ BK110.out) | ((with_reducible refine gate_callee (f:=65) rfl ?_);refine goesL_ (some 82) rfl rfl Tryz.func65 k_r rfl #[.agg #[.int .i64 t105,.int .i64 t106,.slice (some ⟨go40,0,none⟩) y113.length co46]] rfl aq51 ?_;(with_reducible refine (spec_tyText.calls k2 t105 t106 _ _ y113 t118 _ ?side1 ?side2 A44.out).mono ?_);(case side1=>exact aq58);(case side2=>exact aq84);rintro e w54 ⟨rfl,hb⟩;refine ⟨_,rfl,?_⟩;replace HO_111002:=am (Kd.R_below aq41 hb);replace BK101:=am (blk_below (g:=gb101) (o:=.cells #[.string (⟨#[]⟩:ByteArray),.string (⟨#[]⟩:ByteArray),.int .i64 0] 30 (0,0)) aq2 hb);replace BK110:=am (bb BK110 hb);replace HB:=am (below_step aq19 hb);(try clear hb);obtain ⟨hcz55_0,hcz55_1,hcz55_2,hfz55_0,hfz55_1,hfz55_2⟩:=blk3_ BK101.out))
     refine bodyPost_ret (results_ct rfl _ _ gb101 30 #[.string t118,.string (⟨#[97]⟩:ByteArray),.int .i64 t115] (0,0) _ rfl (by (with_reducible repeat (first | refine blk_drewN ?_ _ | refine blk_drew ?_ | refine blk_alloc ?_ _));refine blk_put (cs:=#[.string t118,.string (⟨#[97]⟩:ByteArray),.int .i64 0]) ?_ 2 _ rfl;(with_reducible repeat (first | refine blk_drewN ?_ _ | refine blk_drew ?_ | refine blk_alloc ?_ _));refine blk_put (cs:=#[.string t118,.string (⟨#[]⟩:ByteArray),.int .i64 0]) ?_ 1 _ rfl;(with_reducible repeat (first | refine blk_drewN ?_ _ | refine blk_drew ?_ | refine blk_alloc ?_ _));refine blk_put (cs:=#[.string (⟨#[]⟩:ByteArray),.string (⟨#[]⟩:ByteArray),.int .i64 0]) ?_ 0 _ rfl;(with_reducible repeat (first | refine blk_drewN ?_ _ | refine blk_drew ?_ | refine blk_alloc ?_ _));exact BK101.out) Tryz.underlying30 rfl k_r) rfl ?_
     exact ⟨aq92,aq19⟩
def laws_eqPuzzle.f (a0_0:ByteArray) (a0_1:ByteArray) (a0_2:Int) (a1_0:ByteArray) (a1_1:ByteArray) (a1_2:Int):Option (Bool):=if a0_0.toList = a1_0.toList then (if a0_1.toList = a1_1.toList then (if a0_2 = a1_2 then (some true) else (some false)) else (some false)) else (some false)
theorem laws_eqPuzzle.calls (a0_0:ByteArray) (a0_1:ByteArray) (a0_2:Int) (a1_0:ByteArray) (a1_1:ByteArray) (a1_2:Int) (r:Bool) (w:World) (h:laws_eqPuzzle.f a0_0 a0_1 a0_2 a1_0 a1_1 a1_2 = some r) :
  Calls Tryz.prog 36 #[.agg #[.string a0_0,.string a0_1,.int .i64 a0_2],.agg #[.string a1_0,.string a1_1,.int .i64 a1_2]] w fun e w'=>e = .returned (.bool r) ∧ Below w.heap.size w w':=by
 have hu30:=Tryz.underlying30
 have HB:=am (Below.refl w.heap.size w)
 have H:(if a0_0.toList = a1_0.toList then (if a0_1.toList = a1_1.toList then (if a0_2 = a1_2 then (some true) else (some false)) else (some false)) else (some false)) = some r:=h
 clear h
 by_cases c3:a0_0.toList = a1_0.toList
 rotate_left
 ·rw [if_neg c3] at H
  have c3b0:=beq_eq_false_iff_ne.mpr c3
  have c3b1:=bne_iff_ne.mpr c3
  obtain rfl:=Option.some.inj H
  go_enter Tryz.func36,Tryz.ntmps36
  go_wp2_with (first | (refine bx 2 #[.string a0_0,.string a0_1,.int .i64 a0_2] 30 ?_;intro gb101 hg w21 hbox hb;have BK101:=am (hbox);have GW101:=am ((by rw [hg];exact (below_size aq1):w.heap.size ≤ gb101));have GE101:=GW101;replace HB:=am (below_step aq1 hb);clear hb hbox hg) | (refine bx 3 #[.string a1_0,.string a1_1,.int .i64 a1_2] 30 ?_;intro gb102 hg w22 hbox hb;have BK102:=am (hbox);have GW102:=am ((by rw [hg];exact (below_size aq0):w.heap.size ≤ gb102));have GE102:=GW102;replace HB:=am (below_step aq0 hb);have NB101_102:=am ((by rw [hg];exact Nat.ne_of_lt (blk_lt (g:=gb101) (o:=.cells #[.string a0_0,.string a0_1,.int .i64 a0_2] 30 (0,0)) aq2):gb101 ≠ gb102));have NB102_101:=am ((by rw [hg];exact Nat.ne_of_gt (blk_lt (g:=gb101) (o:=.cells #[.string a0_0,.string a0_1,.int .i64 a0_2] 30 (0,0)) aq2):gb102 ≠ gb101));replace BK101:=am (bb BK101 hb);clear hb hbox hg;have hnb23:=NB101_102.out;have hnc23:=NB102_101.out;obtain ⟨hcz24_0,hcz24_1,hcz24_2,hfz24_0,hfz24_1,hfz24_2⟩:=blk3_ BK101.out;obtain ⟨hcz25_0,hcz25_1,hcz25_2,hfz25_0,hfz25_1,hfz25_2⟩:=blk3_ BK102.out))
  go_ret
  exact ⟨aq8,aq4⟩
 rw [if_pos c3] at H
 have c3b0:=beq_iff_eq.mpr c3
 have c3b1:=bne_eq_false_iff_eq.mpr c3
 clear c3
 by_cases c4:a0_1.toList = a1_1.toList
 rotate_left
 ·rw [if_neg c4] at H
  have c4b0:=beq_eq_false_iff_ne.mpr c4
  have c4b1:=bne_iff_ne.mpr c4
  obtain rfl:=Option.some.inj H
  go_enter Tryz.func36,Tryz.ntmps36
  go_wp2_with (first | (refine bx 2 #[.string a0_0,.string a0_1,.int .i64 a0_2] 30 ?_;intro gb101 hg w16 hbox hb;have BK101:=am (hbox);have GW101:=am ((by rw [hg];exact (below_size aq1):w.heap.size ≤ gb101));have GE101:=GW101;replace HB:=am (below_step aq1 hb);clear hb hbox hg) | (refine bx 3 #[.string a1_0,.string a1_1,.int .i64 a1_2] 30 ?_;intro gb102 hg w17 hbox hb;have BK102:=am (hbox);have GW102:=am ((by rw [hg];exact (below_size aq0):w.heap.size ≤ gb102));have GE102:=GW102;replace HB:=am (below_step aq0 hb);have NB101_102:=am ((by rw [hg];exact Nat.ne_of_lt (blk_lt (g:=gb101) (o:=.cells #[.string a0_0,.string a0_1,.int .i64 a0_2] 30 (0,0)) aq2):gb101 ≠ gb102));have NB102_101:=am ((by rw [hg];exact Nat.ne_of_gt (blk_lt (g:=gb101) (o:=.cells #[.string a0_0,.string a0_1,.int .i64 a0_2] 30 (0,0)) aq2):gb102 ≠ gb101));replace BK101:=am (bb BK101 hb);clear hb hbox hg;have hnb18:=NB101_102.out;have hnc18:=NB102_101.out;obtain ⟨hcz19_0,hcz19_1,hcz19_2,hfz19_0,hfz19_1,hfz19_2⟩:=blk3_ BK101.out;obtain ⟨hcz20_0,hcz20_1,hcz20_2,hfz20_0,hfz20_1,hfz20_2⟩:=blk3_ BK102.out))
  go_ret
  exact ⟨aq8,aq4⟩
 rw [if_pos c4] at H
 have c4b0:=beq_iff_eq.mpr c4
 have c4b1:=bne_eq_false_iff_eq.mpr c4
 clear c4
 by_cases c5:a0_2 = a1_2
 rotate_left
 ·rw [if_neg c5] at H
  have c5b0:=beq_eq_false_iff_ne.mpr c5
  have c5b1:=bne_iff_ne.mpr c5
  obtain rfl:=Option.some.inj H
  go_enter Tryz.func36,Tryz.ntmps36
  go_wp2_with (first | (refine bx 2 #[.string a0_0,.string a0_1,.int .i64 a0_2] 30 ?_;intro gb101 hg w11 hbox hb;have BK101:=am (hbox);have GW101:=am ((by rw [hg];exact (below_size aq1):w.heap.size ≤ gb101));have GE101:=GW101;replace HB:=am (below_step aq1 hb);clear hb hbox hg) | (refine bx 3 #[.string a1_0,.string a1_1,.int .i64 a1_2] 30 ?_;intro gb102 hg w12 hbox hb;have BK102:=am (hbox);have GW102:=am ((by rw [hg];exact (below_size aq0):w.heap.size ≤ gb102));have GE102:=GW102;replace HB:=am (below_step aq0 hb);have NB101_102:=am ((by rw [hg];exact Nat.ne_of_lt (blk_lt (g:=gb101) (o:=.cells #[.string a0_0,.string a0_1,.int .i64 a0_2] 30 (0,0)) aq2):gb101 ≠ gb102));have NB102_101:=am ((by rw [hg];exact Nat.ne_of_gt (blk_lt (g:=gb101) (o:=.cells #[.string a0_0,.string a0_1,.int .i64 a0_2] 30 (0,0)) aq2):gb102 ≠ gb101));replace BK101:=am (bb BK101 hb);clear hb hbox hg;have hnb13:=NB101_102.out;have hnc13:=NB102_101.out;obtain ⟨hcz14_0,hcz14_1,hcz14_2,hfz14_0,hfz14_1,hfz14_2⟩:=blk3_ BK101.out;obtain ⟨hcz15_0,hcz15_1,hcz15_2,hfz15_0,hfz15_1,hfz15_2⟩:=blk3_ BK102.out))
  go_ret
  exact ⟨aq8,aq4⟩
 rw [if_pos c5] at H
 have c5b0:=beq_iff_eq.mpr c5
 have c5b1:=bne_eq_false_iff_eq.mpr c5
 clear c5
 obtain rfl:=Option.some.inj H
 go_enter Tryz.func36,Tryz.ntmps36
 go_wp2_with (first | (refine bx 2 #[.string a0_0,.string a0_1,.int .i64 a0_2] 30 ?_;intro gb101 hg w6 hbox hb;have BK101:=am (hbox);have GW101:=am ((by rw [hg];exact (below_size aq1):w.heap.size ≤ gb101));have GE101:=GW101;replace HB:=am (below_step aq1 hb);clear hb hbox hg) | (refine bx 3 #[.string a1_0,.string a1_1,.int .i64 a1_2] 30 ?_;intro gb102 hg w7 hbox hb;have BK102:=am (hbox);have GW102:=am ((by rw [hg];exact (below_size aq0):w.heap.size ≤ gb102));have GE102:=GW102;replace HB:=am (below_step aq0 hb);have NB101_102:=am ((by rw [hg];exact Nat.ne_of_lt (blk_lt (g:=gb101) (o:=.cells #[.string a0_0,.string a0_1,.int .i64 a0_2] 30 (0,0)) aq2):gb101 ≠ gb102));have NB102_101:=am ((by rw [hg];exact Nat.ne_of_gt (blk_lt (g:=gb101) (o:=.cells #[.string a0_0,.string a0_1,.int .i64 a0_2] 30 (0,0)) aq2):gb102 ≠ gb101));replace BK101:=am (bb BK101 hb);clear hb hbox hg;have hnb8:=NB101_102.out;have hnc8:=NB102_101.out;obtain ⟨hcz9_0,hcz9_1,hcz9_2,hfz9_0,hfz9_1,hfz9_2⟩:=blk3_ BK101.out;obtain ⟨hcz10_0,hcz10_1,hcz10_2,hfz10_0,hfz10_1,hfz10_2⟩:=blk3_ BK102.out))
 go_ret
 exact ⟨aq8,aq4⟩
def laws_FnExactMakePuzzle.f (k:Nat) (a0:Int) (a1:Int) (a2:Int):Option (Bool):=(spec_MakePuzzle.f k a0 a1 a2).bind fun bt101=>((impl_MakePuzzle.f k a0 a1 a2).bind fun bt106=>((laws_eqPuzzle.f bt106.1 bt106.2.1 bt106.2.2.1 bt101.1 bt101.2.1 bt101.2.2.1).bind fun t111=>(if t111 = true then (if (bt106.2.2.2 != bt101.2.2.2) = true then (some false) else (some true)) else (some false))))
theorem laws_FnExactMakePuzzle.calls (k:Nat) (a0:Int) (a1:Int) (a2:Int) (r:Bool) (w:World) (h:laws_FnExactMakePuzzle.f k a0 a1 a2 = some r) :
  Calls Tryz.prog 9 #[.int .i64 a0,.int .i64 a1,.int .i64 a2] w fun e w'=>e = .returned (.bool r) ∧ Below w.heap.size w w':=by
 have hu30:=Tryz.underlying30
 have HB:=am (Below.refl w.heap.size w)
 have H:((spec_MakePuzzle.f k a0 a1 a2).bind fun bt101=>((impl_MakePuzzle.f k a0 a1 a2).bind fun bt106=>((laws_eqPuzzle.f bt106.1 bt106.2.1 bt106.2.2.1 bt101.1 bt101.2.1 bt101.2.2.1).bind fun t111=>(if t111 = true then (if (bt106.2.2.2 != bt101.2.2.2) = true then (some false) else (some true)) else (some false))))) = some r:=h
 clear h
 replace H:=Option.bind_eq_some_iff.mp H
 obtain ⟨⟨t101,t102,t103,t104⟩,A40,H⟩:=H
 replace H:((impl_MakePuzzle.f k a0 a1 a2).bind fun bt106=>((laws_eqPuzzle.f bt106.1 bt106.2.1 bt106.2.2.1 t101 t102 t103).bind fun t111=>(if t111 = true then (if (bt106.2.2.2 != t104) = true then (some false) else (some true)) else (some false)))) = some r:=H
 have A4:=am A40
 clear A40
 replace H:=Option.bind_eq_some_iff.mp H
 obtain ⟨⟨t106,t107,t108,t109⟩,A50,H⟩:=H
 replace H:((laws_eqPuzzle.f t106 t107 t108 t101 t102 t103).bind fun t111=>(if t111 = true then (if (t109 != t104) = true then (some false) else (some true)) else (some false))) = some r:=H
 have A5:=am A50
 clear A50
 obtain ⟨t111,A6,H⟩:=bn H
 by_cases c7:t111 = true
 rotate_left
 ·replace c7:=Bool.eq_false_iff.mpr c7
  subst c7
  rw [if_neg Bool.false_ne_true] at H
  obtain rfl:=Option.some.inj H
  go_enter Tryz.func9,Tryz.ntmps9
  go_wp2_with (first | ((with_reducible refine gate_callee (f:=34) rfl ?_);refine goesL_ (some 15) rfl rfl Tryz.func34 k_r rfl #[.int .i64 a0,.int .i64 a1,.int .i64 a2] rfl aq6 ?_;(with_reducible refine (spec_MakePuzzle.calls k a0 a1 a2 t101 t102 t103 t104 _ A4.out).mono ?_);rintro e w27 ⟨rfl,hb⟩;refine ⟨_,rfl,?_⟩;replace HB:=am (below_step aq1 hb);(try clear hb)) | (refine bx 7 #[.string (⟨#[]⟩:ByteArray),.string (⟨#[]⟩:ByteArray),.int .i64 0] 30 ?_;intro gb105 hg w28 hbox hb;have BK105:=am (hbox);have GW105:=am ((by rw [hg];exact (below_size aq1):w.heap.size ≤ gb105));have GE105:=GW105;replace HB:=am (below_step aq1 hb);clear hb hbox hg;obtain ⟨hcz29_0,hcz29_1,hcz29_2,hfz29_0,hfz29_1,hfz29_2⟩:=blk3_ BK105.out) | ((with_reducible refine gate_callee (f:=35) rfl ?_);refine goesL_ (some 22) rfl rfl Tryz.func35 k_r rfl #[.int .i64 a0,.int .i64 a1,.int .i64 a2] rfl aq6 ?_;(with_reducible refine (impl_MakePuzzle.calls k a0 a1 a2 t106 t107 t108 t109 _ A5.out).mono ?_);rintro e w30 ⟨rfl,hb⟩;refine ⟨_,rfl,?_⟩;replace BK105:=am (blk_below (g:=gb105) (o:=.cells #[.string t101,.string t102,.int .i64 t103] 30 (0,0)) aq26 hb);replace HB:=am (below_step aq20 hb);(try clear hb)) | (refine bx 9 #[.string (⟨#[]⟩:ByteArray),.string (⟨#[]⟩:ByteArray),.int .i64 0] 30 ?_;intro gb110 hg w31 hbox hb;have BK110:=am (hbox);have GW110:=am ((by rw [hg];exact (below_size aq20):w.heap.size ≤ gb110));have GE110:=GW110;replace HB:=am (below_step aq20 hb);have NB105_110:=am ((by rw [hg];exact Nat.ne_of_lt (blk_lt (g:=gb105) (o:=.cells #[.string t101,.string t102,.int .i64 t103] 30 (0,0)) aq67):gb105 ≠ gb110));have NB110_105:=am ((by rw [hg];exact Nat.ne_of_gt (blk_lt (g:=gb105) (o:=.cells #[.string t101,.string t102,.int .i64 t103] 30 (0,0)) aq67):gb110 ≠ gb105));replace BK105:=am (bb BK105 hb);clear hb hbox hg;have hnb32:=NB110_105.out;have hnc32:=NB105_110.out;obtain ⟨hcz33_0,hcz33_1,hcz33_2,hfz33_0,hfz33_1,hfz33_2⟩:=blk3_ BK110.out;obtain ⟨hcz34_0,hcz34_1,hcz34_2,hfz34_0,hfz34_1,hfz34_2⟩:=blk3_ BK105.out) | ((with_reducible refine gate_callee (f:=36) rfl ?_);refine goesL_ (some 27) rfl rfl Tryz.func36 k_r rfl #[.agg #[.string t106,.string t107,.int .i64 t108],.agg #[.string t101,.string t102,.int .i64 t103]] rfl aq6 ?_;(with_reducible refine (laws_eqPuzzle.calls t106 t107 t108 t101 t102 t103 false _ A6.out).mono ?_);rintro e w35 ⟨rfl,hb⟩;refine ⟨_,rfl,?_⟩;replace BK105:=am (blk_below (g:=gb105) (o:=.cells #[.string t101,.string t102,.int .i64 t103] 30 (0,0)) aq35 hb);replace BK110:=am (blk_below (g:=gb110) (o:=.cells #[.string t106,.string t107,.int .i64 t108] 30 (0,0)) aq25 hb);replace HB:=am (below_step aq38 hb);(try clear hb)))
  go_ret
  exact ⟨aq8,aq38⟩
 subst c7
 rw [if_pos rfl] at H
 by_cases c8:(t109 != t104) = true
 rotate_left
 ·rw [if_neg c8] at H
  have c8b0:(t109 != t104) = false:=by simpa using c8
  (try (have c8b1:decide (t109 = t104) = true:=by simpa using c8))
  (try (have c8b2:(t109 == t104) = true:=by simpa using c8))
  clear c8
  obtain rfl:=Option.some.inj H
  go_enter Tryz.func9,Tryz.ntmps9
  go_wp2_with (first | ((with_reducible refine gate_callee (f:=34) rfl ?_);refine goesL_ (some 15) rfl rfl Tryz.func34 k_r rfl #[.int .i64 a0,.int .i64 a1,.int .i64 a2] rfl aq6 ?_;(with_reducible refine (spec_MakePuzzle.calls k a0 a1 a2 t101 t102 t103 t104 _ A4.out).mono ?_);rintro e w18 ⟨rfl,hb⟩;refine ⟨_,rfl,?_⟩;replace HB:=am (below_step aq1 hb);(try clear hb)) | (refine bx 7 #[.string (⟨#[]⟩:ByteArray),.string (⟨#[]⟩:ByteArray),.int .i64 0] 30 ?_;intro gb105 hg w19 hbox hb;have BK105:=am (hbox);have GW105:=am ((by rw [hg];exact (below_size aq1):w.heap.size ≤ gb105));have GE105:=GW105;replace HB:=am (below_step aq1 hb);clear hb hbox hg;obtain ⟨hcz20_0,hcz20_1,hcz20_2,hfz20_0,hfz20_1,hfz20_2⟩:=blk3_ BK105.out) | ((with_reducible refine gate_callee (f:=35) rfl ?_);refine goesL_ (some 22) rfl rfl Tryz.func35 k_r rfl #[.int .i64 a0,.int .i64 a1,.int .i64 a2] rfl aq6 ?_;(with_reducible refine (impl_MakePuzzle.calls k a0 a1 a2 t106 t107 t108 t109 _ A5.out).mono ?_);rintro e w21 ⟨rfl,hb⟩;refine ⟨_,rfl,?_⟩;replace BK105:=am (blk_below (g:=gb105) (o:=.cells #[.string t101,.string t102,.int .i64 t103] 30 (0,0)) aq26 hb);replace HB:=am (below_step aq20 hb);(try clear hb)) | (refine bx 9 #[.string (⟨#[]⟩:ByteArray),.string (⟨#[]⟩:ByteArray),.int .i64 0] 30 ?_;intro gb110 hg w22 hbox hb;have BK110:=am (hbox);have GW110:=am ((by rw [hg];exact (below_size aq20):w.heap.size ≤ gb110));have GE110:=GW110;replace HB:=am (below_step aq20 hb);have NB105_110:=am ((by rw [hg];exact Nat.ne_of_lt (blk_lt (g:=gb105) (o:=.cells #[.string t101,.string t102,.int .i64 t103] 30 (0,0)) aq67):gb105 ≠ gb110));have NB110_105:=am ((by rw [hg];exact Nat.ne_of_gt (blk_lt (g:=gb105) (o:=.cells #[.string t101,.string t102,.int .i64 t103] 30 (0,0)) aq67):gb110 ≠ gb105));replace BK105:=am (bb BK105 hb);clear hb hbox hg;have hnb23:=NB110_105.out;have hnc23:=NB105_110.out;obtain ⟨hcz24_0,hcz24_1,hcz24_2,hfz24_0,hfz24_1,hfz24_2⟩:=blk3_ BK110.out;obtain ⟨hcz25_0,hcz25_1,hcz25_2,hfz25_0,hfz25_1,hfz25_2⟩:=blk3_ BK105.out) | ((with_reducible refine gate_callee (f:=36) rfl ?_);refine goesL_ (some 27) rfl rfl Tryz.func36 k_r rfl #[.agg #[.string t106,.string t107,.int .i64 t108],.agg #[.string t101,.string t102,.int .i64 t103]] rfl aq6 ?_;(with_reducible refine (laws_eqPuzzle.calls t106 t107 t108 t101 t102 t103 true _ A6.out).mono ?_);rintro e w26 ⟨rfl,hb⟩;refine ⟨_,rfl,?_⟩;replace BK105:=am (blk_below (g:=gb105) (o:=.cells #[.string t101,.string t102,.int .i64 t103] 30 (0,0)) aq35 hb);replace BK110:=am (blk_below (g:=gb110) (o:=.cells #[.string t106,.string t107,.int .i64 t108] 30 (0,0)) aq25 hb);replace HB:=am (below_step aq38 hb);(try clear hb)))
  go_ret
  exact ⟨aq8,aq38⟩
 rw [if_pos c8] at H
 have c8b0:(t109 != t104) = true:=c8
 (try (have c8b1:decide (t109 = t104) = false:=by simpa using c8))
 (try (have c8b2:(t109 == t104) = false:=by simpa using c8))
 (try (have c8b3:¬ (t109 = t104):=by simpa using c8))
 clear c8
 obtain rfl:=Option.some.inj H
 go_enter Tryz.func9,Tryz.ntmps9
 go_wp2_with (first | ((with_reducible refine gate_callee (f:=34) rfl ?_);refine goesL_ (some 15) rfl rfl Tryz.func34 k_r rfl #[.int .i64 a0,.int .i64 a1,.int .i64 a2] rfl aq6 ?_;(with_reducible refine (spec_MakePuzzle.calls k a0 a1 a2 t101 t102 t103 t104 _ A4.out).mono ?_);rintro e w9 ⟨rfl,hb⟩;refine ⟨_,rfl,?_⟩;replace HB:=am (below_step aq1 hb);(try clear hb)) | (refine bx 7 #[.string (⟨#[]⟩:ByteArray),.string (⟨#[]⟩:ByteArray),.int .i64 0] 30 ?_;intro gb105 hg w10 hbox hb;have BK105:=am (hbox);have GW105:=am ((by rw [hg];exact (below_size aq1):w.heap.size ≤ gb105));have GE105:=GW105;replace HB:=am (below_step aq1 hb);clear hb hbox hg;obtain ⟨hcz11_0,hcz11_1,hcz11_2,hfz11_0,hfz11_1,hfz11_2⟩:=blk3_ BK105.out) | ((with_reducible refine gate_callee (f:=35) rfl ?_);refine goesL_ (some 22) rfl rfl Tryz.func35 k_r rfl #[.int .i64 a0,.int .i64 a1,.int .i64 a2] rfl aq6 ?_;(with_reducible refine (impl_MakePuzzle.calls k a0 a1 a2 t106 t107 t108 t109 _ A5.out).mono ?_);rintro e w12 ⟨rfl,hb⟩;refine ⟨_,rfl,?_⟩;replace BK105:=am (blk_below (g:=gb105) (o:=.cells #[.string t101,.string t102,.int .i64 t103] 30 (0,0)) aq26 hb);replace HB:=am (below_step aq20 hb);(try clear hb)) | (refine bx 9 #[.string (⟨#[]⟩:ByteArray),.string (⟨#[]⟩:ByteArray),.int .i64 0] 30 ?_;intro gb110 hg w13 hbox hb;have BK110:=am (hbox);have GW110:=am ((by rw [hg];exact (below_size aq20):w.heap.size ≤ gb110));have GE110:=GW110;replace HB:=am (below_step aq20 hb);have NB105_110:=am ((by rw [hg];exact Nat.ne_of_lt (blk_lt (g:=gb105) (o:=.cells #[.string t101,.string t102,.int .i64 t103] 30 (0,0)) aq67):gb105 ≠ gb110));have NB110_105:=am ((by rw [hg];exact Nat.ne_of_gt (blk_lt (g:=gb105) (o:=.cells #[.string t101,.string t102,.int .i64 t103] 30 (0,0)) aq67):gb110 ≠ gb105));replace BK105:=am (bb BK105 hb);clear hb hbox hg;have hnb14:=NB110_105.out;have hnc14:=NB105_110.out;obtain ⟨hcz15_0,hcz15_1,hcz15_2,hfz15_0,hfz15_1,hfz15_2⟩:=blk3_ BK110.out;obtain ⟨hcz16_0,hcz16_1,hcz16_2,hfz16_0,hfz16_1,hfz16_2⟩:=blk3_ BK105.out) | ((with_reducible refine gate_callee (f:=36) rfl ?_);refine goesL_ (some 27) rfl rfl Tryz.func36 k_r rfl #[.agg #[.string t106,.string t107,.int .i64 t108],.agg #[.string t101,.string t102,.int .i64 t103]] rfl aq6 ?_;(with_reducible refine (laws_eqPuzzle.calls t106 t107 t108 t101 t102 t103 true _ A6.out).mono ?_);rintro e w17 ⟨rfl,hb⟩;refine ⟨_,rfl,?_⟩;replace BK105:=am (blk_below (g:=gb105) (o:=.cells #[.string t101,.string t102,.int .i64 t103] 30 (0,0)) aq35 hb);replace BK110:=am (blk_below (g:=gb110) (o:=.cells #[.string t106,.string t107,.int .i64 t108] 30 (0,0)) aq25 hb);replace HB:=am (below_step aq38 hb);(try clear hb)))
 go_ret
 exact ⟨aq8,aq38⟩
end Go.Proofs.YtldhkbiomingbaaGreatDoor.F

namespace Go.Proofs.YtldhkbiomingbaaGreatDoor.F
open Go.RowKit Go.Proofs.YtldhkbiomingbaaGreatDoor Go.YW.PrintWords Go.YW.PrintMore
theorem cellM_or (s:Int):cellM s = 35 ∨ cellM s = 111 ∨ cellM s = 46:=by
 unfold cellM
 split
 ·exact .inl rfl
 ·split
  ·exact .inr (.inl rfl)
  ·exact .inr (.inr rfl)
theorem cellsM_or {n:Nat} {s c:Int} (h:c ∈ cellsM n s):c = 35 ∨ c = 111 ∨ c = 46:=by
 unfold cellsM at h
 obtain ⟨j,_,rfl⟩:=List.mem_map.1 h
 exact cellM_or _
theorem trayM_len (n:Nat) (s:Int):(trayM n s).length = n:=by unfold trayM;rw [List.length_set,cellsM_len]
theorem trayM_V {m1 m2:Nat} (h1:2 ≤ m1 ∧ m1 ≤ 5) (h2:2 ≤ m2 ∧ m2 ≤ 5) (s:Int):VG m1 m2 (trayM (m1 * m2) s):=by
 have hle:m1 * m2 ≤ 5 * 5:=Nat.mul_le_mul h1.2 h2.2
 refine ⟨by omega,by omega,by omega,by omega,trayM_len _ _,by omega,fun c hc=>?_,?_⟩
 ·unfold trayM at hc
  rcases List.mem_or_eq_of_mem_set hc with h | h
  ·rcases cellsM_or h with h | h | h <;> rw [h] <;> decide
  ·rw [h];decide
 ·rw [namesOk_iff]
  intro n hn1 hn2
  have h0:(cellsM (m1 * m2) s).count n = 0:=by
   rw [List.count_eq_zero]
   intro hm
   rcases cellsM_or hm with h | h | h <;> omega
  unfold trayM
  generalize (Int.tmod (sdM (m1 * m2 + 1) s) ((m1 * m2:Nat):Int)).toNat = r
  by_cases hr:r < (cellsM (m1 * m2) s).length
  rotate_left
  ·rw [List.set_eq_of_length_le o_m,h0];omega
  rw [List.count_set hr,h0]
  split <;> simp <;> split <;> omega
def makeA (a0 a1 a2:Int):ByteArray × ByteArray × Int × Bool :=
 if inM a0 2 5 = true ∧ inM a1 2 5 = true ∧ inM a2 0 9999 = true then
  (if (hardA (textB (a0.toNat,a1.toNat,trayM (a0.toNat * a1.toNat) a2)) (⟨#[97]⟩:ByteArray)).2.2 = true then (textB (a0.toNat,a1.toNat,trayM (a0.toNat * a1.toNat) a2),(⟨#[97]⟩:ByteArray),(hardA (textB (a0.toNat,a1.toNat,trayM (a0.toNat * a1.toNat) a2)) (⟨#[97]⟩:ByteArray)).1,true) else ((⟨#[]⟩:ByteArray),(⟨#[]⟩:ByteArray),0,false))
 else ((⟨#[]⟩:ByteArray),(⟨#[]⟩:ByteArray),0,false)
theorem impl_make_ev (a0 a1 a2:Int):Ev (fun k=>impl_MakePuzzle.f k a0 a1 a2) (makeA a0 a1 a2):=by
 unfold impl_MakePuzzle.f makeA
 by_cases hc:inM a0 2 5 = true ∧ inM a1 2 5 = true ∧ inM a2 0 9999 = true
 rotate_left
 ·rw [if_neg hc]
  exact Ev.congr (fun k=>if_neg hc) (Ev.now _)
 rw [if_pos hc]
 refine Ev.congr (fun k=>if_pos hc) ?_
 have c0:=(inM_iff _ _ _).1 hc.1
 have c1:=(inM_iff _ _ _).1 hc.2.1
 obtain ⟨m1,rfl⟩:=Int.eq_ofNat_of_zero_le (show 0 ≤ a0 by omega)
 obtain ⟨m2,rfl⟩:=Int.eq_ofNat_of_zero_le (show 0 ≤ a1 by omega)
 rw [Int.toNat_natCast,Int.toNat_natCast]
 have v:=trayM_V (m1:=m1) (m2:=m2) o_m o_m a2
 have ht:impl_tray_text.f (m1:Int) (m2:Int) (trayM (m1 * m2) a2) = some (textB (m1,m2,trayM (m1 * m2) a2)):=impl_text_eq (g:=(m1,m2,trayM (m1 * m2) a2)) v
 have hs:=textB_small (g:=(m1,m2,trayM (m1 * m2) a2)) v
 generalize textB (m1,m2,trayM (m1 * m2) a2) = tx at ht hs ⊢
 refine Ev.congr (fun k=>by rw [ht,Option.bind_some]) ?_
 refine Ev.bind (impl_hard_ev tx (⟨#[97]⟩:ByteArray) o_m) ?_
 unfold hardG
 by_cases hh:(hardA tx (⟨#[97]⟩:ByteArray)).2.2 = true
 rotate_left
 ·rw [if_neg hh,if_neg hh]
  exact Ev.congr (fun k=>if_neg Bool.false_ne_true) (Ev.now _)
 rw [if_pos hh,if_pos hh]
 exact Ev.congr (fun k=>if_pos rfl) (Ev.now _)
theorem l1In_eq (a lo hi:Int):spec_l1In.f a lo hi = some (inM a lo hi):=by
 unfold spec_l1In.f inM
 by_cases h:lo ≤ a
 rotate_left
 ·rw [if_neg h,decide_eq_false h,Bool.false_and]
 rw [if_pos h,decide_eq_true h,Bool.true_and]
theorem empty_l0 {w h:Int} {n:Nat} (hn:n ≤ 100) (hm:wrap64 (w * h) = (n:Int)):∀ (d i:Nat),i + d = n → Ev (fun k=>spec_tyEmpty.l0 k w h (i:Int) w h (List.replicate i 46)) (w,h,List.replicate n 46)
 | 0,i,hi=>by
  obtain rfl:i = n:=by omega
  exact Ev.step (fun k=>by rw [spec_tyEmpty.l0,hm,if_neg o_m]) (Ev.now _)
 | d + 1,i,hi=>by
  have ih:=empty_l0 (w:=w) (h:=h) hn hm d (i + 1) o_m
  refine Ev.step (fun k=>?_) ih
  rw [spec_tyEmpty.l0,hm,if_pos o_m,if_pos (by rw [List.length_replicate];omega),show wrap64 ((i:Int) + 1) = ((i + 1:Nat):Int) from w64t (n:=i + 1) o_m,List.replicate_succ']
theorem set_at {l r:List Int} {x y:Int} {i:Nat} (hl:l.length = i):(l ++ x :: r).set i y = (l ++ [y]) ++ r:=by
 rw [List.set_append_right _ _ o_m,hl,Nat.sub_self,List.append_assoc];rfl
theorem make_l0 {m1 m2:Nat} (h1:2 ≤ m1 ∧ m1 ≤ 5) (h2:2 ≤ m2 ∧ m2 ≤ 5) {a2:Int} (h3:0 ≤ a2 ∧ a2 ≤ 9999) {n:Nat} (hn:m1 * m2 = n) {R:ByteArray × ByteArray × Int × Bool}
  (hR:R = (if (hardA (textB (m1,m2,trayM n a2)) (⟨#[97]⟩:ByteArray)).2.2 = true then (textB (m1,m2,trayM n a2),(⟨#[97]⟩:ByteArray),(hardA (textB (m1,m2,trayM n a2)) (⟨#[97]⟩:ByteArray)).1,true) else ((⟨#[]⟩:ByteArray),(⟨#[]⟩:ByteArray),0,false))) :
  ∀ (d i:Nat),i + d = n → Ev (fun k=>spec_MakePuzzle.l0 k (sdM i a2) (n:Int) (i:Int) (m1:Int) (m2:Int) (cellsM i a2 ++ List.replicate d 46)) R
 | 0,i,hi=>by
  obtain rfl:i = n:=by omega
  have hle:m1 * m2 ≤ 5 * 5:=Nat.mul_le_mul h1.2 h2.2
  have hge:2 * 2 ≤ m1 * m2:=Nat.mul_le_mul h1.1 h2.1
  have hrg:=sdM_range (s:=a2) ⟨h3.1,by omega⟩ (i + 1)
  obtain ⟨r,hr⟩:∃ r:Nat,Int.tmod (sdM (i + 1) a2) (i:Int) = (r:Int):=⟨(Int.tmod (sdM (i + 1) a2) (i:Int)).toNat,by rw [Int.tmod_eq_emod_of_nonneg hrg.1];exact (Int.toNat_of_nonneg (Int.emod_nonneg _ o_m)).symm⟩
  have hri:r < i:=by
   have h1:=Int.emod_lt_of_pos (sdM (i + 1) a2) (show (0:Int) < (i:Int) by omega)
   rw [← Int.tmod_eq_emod_of_nonneg hrg.1,hr] at h1
   omega
  have htr:trayM i a2 = (cellsM i a2).set r 97:=by unfold trayM;rw [hr];rfl
  have hl:=cellsM_len i a2
  have v:=trayM_V h1 h2 a2
  rw [hn] at v
  have htx:=spec_text_ev (w:=m1) (h:=m2) (cs:=trayM i a2) o_m o_m (by rw [trayM_len,hn])
  rw [List.replicate_zero,List.append_nil]
  have f1:¬ (i:Int) < (i:Int):=by omega
  have f2:¬ ((i:Nat):Int) = 0:=by omega
  have f3:(0:Int) ≤ (r:Int):=by omega
  have f4:(r:Int) < (i:Int):=by omega
  have hnx:Int.tmod (wrap64 ((wrap64 (sdM i a2 * 137)) + 187)) 10007 = sdM (i + 1) a2:=rfl
  refine Ev.step (f:=fun k=>(spec_tyText.f k (m1:Int) (m2:Int) (trayM i a2)).bind fun t114=>((spec_puHardest.f t114 (⟨#[97]⟩:ByteArray)).bind fun bt115=>(if bt115.2.2 = true then ((spec_tyText.f k (m1:Int) (m2:Int) (trayM i a2)).bind fun t118=>(some (t118,(⟨#[97]⟩:ByteArray),bt115.1,true))) else (some ((⟨#[]⟩:ByteArray),(⟨#[]⟩:ByteArray),0,false))))) (fun k=>?_) ?_
  ·rw [spec_MakePuzzle.l0,if_neg f1,hnx,hl,if_neg f2,hr,if_pos f3,if_pos f4,Int.toNat_natCast,Option.bind_some,htr]
  ·refine Ev.bind htx ?_
   refine Ev.congr (fun k=>by rw [show spec_puHardest.f (textB (m1,m2,trayM i a2)) (⟨#[97]⟩:ByteArray) = some (hardA (textB (m1,m2,trayM i a2)) (⟨#[97]⟩:ByteArray)) from rfl,Option.bind_some]) ?_
   rw [hR]
   by_cases hh:(hardA (textB (m1,m2,trayM i a2)) (⟨#[97]⟩:ByteArray)).2.2 = true
   rotate_left
   ·rw [if_neg hh]
    exact Ev.congr (fun k=>if_neg hh) (Ev.now _)
   rw [if_pos hh]
   exact Ev.congr (fun k=>if_pos hh) (Ev.bind htx (Ev.now _))
 | d + 1,i,hi=>by
  have hle:m1 * m2 ≤ 5 * 5:=Nat.mul_le_mul h1.2 h2.2
  have ih:=make_l0 h1 h2 h3 hn hR d (i + 1) o_m
  have hl:=cellsM_len i a2
  have f1:(i:Int) < (n:Int):=by omega
  have f2:(0:Int) ≤ (i:Int):=by omega
  have f3:(i:Int) < ((i + (d + 1):Nat):Int):=by omega
  have hnx:Int.tmod (wrap64 ((wrap64 (sdM i a2 * 137)) + 187)) 10007 = sdM (i + 1) a2:=rfl
  have hW:wrap64 ((i:Int) + 1) = ((i + 1:Nat):Int):=w64t (n:=i + 1) (by clear hnx;omega)
  have hll:(cellsM i a2 ++ List.replicate (d + 1) 46).length = i + (d + 1):=by rw [List.length_append,List.length_replicate,hl]
  have hrep:(List.replicate (d + 1) (46:Int)) = 46 :: List.replicate d 46:=rfl
  rw [cellsM_succ] at ih
  refine Ev.step (fun k=>?_) ih
  rw [spec_MakePuzzle.l0,if_pos f1,hnx,hW,hll]
  unfold cellM
  by_cases c1:Int.tmod (sdM (i + 1) a2) 5 < 2
  ·rw [if_pos c1,if_pos c1,if_pos f2,if_pos f3,Int.toNat_natCast,hrep,set_at hl]
  rw [if_neg c1,if_neg c1]
  by_cases c2:Int.tmod (sdM (i + 1) a2) 11 = 2
  rotate_left
  ·rw [if_neg c2,if_neg c2,hrep,List.append_assoc];rfl
  rw [if_pos c2,if_pos c2,if_pos f2,if_pos f3,Int.toNat_natCast,hrep,set_at hl]
theorem spec_make_ev (a0 a1 a2:Int):Ev (fun k=>spec_MakePuzzle.f k a0 a1 a2) (makeA a0 a1 a2):=by
 unfold spec_MakePuzzle.f makeA
 have hno:Ev (fun k=>spec_MakePuzzle.j0 k a0 a1 a2 true) ((⟨#[]⟩:ByteArray),(⟨#[]⟩:ByteArray),0,false):=Ev.step (f:=fun _=>some ((⟨#[]⟩:ByteArray),(⟨#[]⟩:ByteArray),0,false)) (fun k=>by rw [spec_MakePuzzle.j0,if_pos rfl]) (Ev.now _)
 refine Ev.congr (fun k=>by rw [l1In_eq,Option.bind_some]) ?_
 cases e0:inM a0 2 5 with
 | false =>
  rw [if_neg (fun q=>Bool.false_ne_true q.1)]
  exact Ev.congr (fun k=>if_neg Bool.false_ne_true) hno
 | true =>
  refine Ev.congr (fun k=>by rw [if_pos rfl,l1In_eq,Option.bind_some]) ?_
  cases e1:inM a1 2 5 with
  | false =>
   rw [if_neg (fun q=>Bool.false_ne_true q.2.1)]
   exact Ev.congr (fun k=>if_neg Bool.false_ne_true) hno
  | true =>
   refine Ev.congr (fun k=>by rw [if_pos rfl,l1In_eq,Option.bind_some]) ?_
   cases e2:inM a2 0 9999 with
   | false =>
    rw [if_neg (fun q=>Bool.false_ne_true q.2.2)]
    exact hno
   | true =>
    rw [if_pos ⟨rfl,rfl,rfl⟩]
    have c0:=(inM_iff _ _ _).1 e0
    have c1:=(inM_iff _ _ _).1 e1
    have c2:=(inM_iff _ _ _).1 e2
    obtain ⟨m1,rfl⟩:=Int.eq_ofNat_of_zero_le (show 0 ≤ a0 by omega)
    obtain ⟨m2,rfl⟩:=Int.eq_ofNat_of_zero_le (show 0 ≤ a1 by omega)
    rw [Int.toNat_natCast,Int.toNat_natCast]
    have hle:m1 * m2 ≤ 5 * 5:=Nat.mul_le_mul o_m o_m
    have hmul:wrap64 ((m1:Int) * (m2:Int)) = ((m1 * m2:Nat):Int):=by rw [← Int.natCast_mul];exact w64t o_m
    have hE:Ev (fun k=>spec_tyEmpty.f k (m1:Int) (m2:Int)) ((m1:Int),(m2:Int),List.replicate (m1 * m2) 46):=empty_l0 o_m hmul (m1 * m2) 0 (Nat.zero_add _)
    have hL:=make_l0 (m1:=m1) (m2:=m2) o_m o_m c2 rfl rfl (m1 * m2) 0 (Nat.zero_add _)
    refine Ev.step (fun k=>by rw [show (!true) = false from rfl,spec_MakePuzzle.j0,if_neg Bool.false_ne_true]) (Ev.bind hE ?_)
    refine Ev.congr (fun k=>?_) hL
    simp only [List.length_replicate]
    rfl
theorem FnExactMakePuzzle (a b c:Int) (ha:(Lit.int .i64 a).wf = true) (hb:(Lit.int .i64 b).wf = true) (hc:(Lit.int .i64 c).wf = true):∃ k,laws_FnExactMakePuzzle.f k a b c = some true:=by
 refine Ev.rounds (g:=fun k=>laws_FnExactMakePuzzle.f k a b c) ?_
 unfold laws_FnExactMakePuzzle.f
 refine Ev.bind (spec_make_ev a b c) (Ev.bind (impl_make_ev a b c) ?_)
 refine Ev.congr (fun k=>?_) (Ev.now _)
 unfold laws_eqPuzzle.f
 rw [if_pos rfl,if_pos rfl,if_pos rfl,Option.bind_some,if_pos rfl,bne_self_eq_false];rfl
end Go.Proofs.YtldhkbiomingbaaGreatDoor.F
