/- The proof that the law's row holds, part 7: the kit's words, the printed walks and the plain law. No conditions beyond the card's own. -/
import Derived.Lib.SlicesCompact
import Derived.Test.YtldhkbiomingbaaGreatDoorM0
import Derived.Test.YtldhkbiomingbaaGreatDoorM1
import Derived.Test.YtldhkbiomingbaaGreatDoorM2
import Derived.Test.YtldhkbiomingbaaGreatDoorM3
import Derived.Test.YtldhkbiomingbaaGreatDoorM4
import Derived.Test.YtldhkbiomingbaaGreatDoorM5
import Derived.Test.YtldhkbiomingbaaGreatDoorM6
set_option linter.unusedVariables false
set_option linter.unusedSimpArgs false
namespace Go.Proofs.YtldhkbiomingbaaGreatDoor.F
open Go.Proofs.YtldhkbiomingbaaGreatDoor
open Go.RowKit Go.Proofs.YtldhkbiomingbaaGreatDoorW.PrintWords Go.Proofs.YtldhkbiomingbaaGreatDoorW.PrintLast Go.Proofs.YtldhkbiomingbaaGreatDoorW.PrintMore
attribute [local go_sem] max2_int min2_int max_two min_two max_three min_three max_four min_four
def impl_reach_cells.l0:Nat → ByteArray → List Int → List ByteArray → Int → Int → Option (List Int)
 | 0,_,_,_,_,_=>none
 | k + 1,x1,x5,x10,x11,x12=>if x12 < x11 then (if 0 ≤ x12 then (if x12 < (x10.length:Int) then ((impl_read.f (rdOf ByteArray.empty x10 x12)).bind fun bt106=>(if 0 < (x1.size:Int) then ((slices_Index_byte_byte.f k bt106.2.2 (bt x1 0)).bind fun t111=>(if x5.length < 17592186044416 then (impl_reach_cells.l0 k x1 (x5 ++ [t111]) x10 x11 (wrap64 (x12 + 1))) else (none))) else (none))) else (none)) else (none)) else (some x5)
def impl_reach_cells.f (k:Nat) (l0_0:List ByteArray) (l0_1:List Int) (l0_2:List (List Int)) (l0_3:List ByteArray) (a1:ByteArray):Option (List Int):=impl_reach_cells.l0 k a1 (([]:List Int)) l0_0 (l0_0.length:Int) 0
theorem impl_reach_cells.mono_l:∀ k,(∀ y0 y1 y2 y3 y4,LeO (impl_reach_cells.l0 k y0 y1 y2 y3 y4) (impl_reach_cells.l0 (k + 1) y0 y1 y2 y3 y4))
 | 0=>fun _ _ _ _ _ r h=>by simp [impl_reach_cells.l0] at h
 | k + 1=>by
  have ih0:=impl_reach_cells.mono_l k
  ·intro y0 y1 y2 y3 y4
   unfold impl_reach_cells.l0
   have im0:=@slices_Index_byte_byte.mono;exact mo
theorem impl_reach_cells.mono:∀ a0 a1 a2 a3 a4 k,LeO (impl_reach_cells.f k a0 a1 a2 a3 a4) (impl_reach_cells.f (k + 1) a0 a1 a2 a3 a4):=by
 intro a0 a1 a2 a3 a4 k
 have ih0:=impl_reach_cells.mono_l k
 unfold impl_reach_cells.f
 have im0:=@slices_Index_byte_byte.mono;exact mo
def impl_reach_cells.T5:Bool × List (List Nat × List Nat):=(true,[([],[]),([],[]),([1],[1]),([2],[2]),([],[]),([4],[4]),([3,5,2],[3,5]),([6],[6]),([0,7,6],[0,7]),([8,8,0,1,2,3,4,5,6,7,8],[0,8])])
def impl_reach_cells.B5:List Nat:=[0,0,2,6,0,16,62,126,255,511]
theorem impl_reach_cells.tab5:rtab .any (opsOf Tryz.f50 5) = impl_reach_cells.T5:=by kernel_rfl
theorem impl_reach_cells.bits5:waitsOk impl_reach_cells.T5.2 impl_reach_cells.B5 = true:=by kernel_rfl
set_option maxHeartbeats 8000000 in
set_option maxRecDepth 100000 in
theorem impl_reach_cells.calls (k:Nat) (A0_0:Option Addr) (c0_0:Nat) (l0_0:List ByteArray) (A0_1:Option Addr) (c0_1:Nat) (l0_1:List Int) (A0_2:Option Addr) (c0_2:Nat) (l0_2:List (List Int)) (A0_3:Option Addr) (c0_3:Nat) (l0_3:List ByteArray) (a1:ByteArray) (r:List Int) (w:World) (hr0_0:Kd.C Kd.string w A0_0 l0_0.length l0_0) (hc0_0:l0_0.length ≤ c0_0) (hr0_1:Kd.C (Kd.int .i64) w A0_1 l0_1.length l0_1) (hc0_1:l0_1.length ≤ c0_1) (hr0_2:Kd.C (Kd.slice 3 (Kd.int .i64)) w A0_2 l0_2.length l0_2) (hc0_2:l0_2.length ≤ c0_2) (hr0_3:Kd.C Kd.string w A0_3 l0_3.length l0_3) (hc0_3:l0_3.length ≤ c0_3) (h:impl_reach_cells.f k l0_0 l0_1 l0_2 l0_3 a1 = some r) :
  Calls Tryz.prog 50 #[.agg #[.slice A0_0 l0_0.length c0_0,.slice A0_1 l0_1.length c0_1,.slice A0_2 l0_2.length c0_2,.slice A0_3 l0_3.length c0_3],.string a1] w fun e w'=>∃ v0_:Value,e = .returned (v0_) ∧ Kd.R (Kd.int .i64) 3 w' w.heap.size (fun _=>True) v0_ r ∧ Below w.heap.size w w':=by
 have hu59:=Tryz.underlying59
 have hfd65_2:∀ (x0_ x1_ x2_:Value) (W:World),(Instr.field 65 (.agg #[x0_,x1_,x2_]) 2).run Tryz.prog W = .ok x2_ W:=fun _ _ _  _=>by kernel_rfl
 have HR0_0:=am hr0_0
 have HC0_0:=am hc0_0
 clear hr0_0 hc0_0
 have HR0_1:=am hr0_1
 have HC0_1:=am hc0_1
 clear hr0_1 hc0_1
 have HR0_2:=am hr0_2
 have HC0_2:=am hc0_2
 clear hr0_2 hc0_2
 have HR0_3:=am hr0_3
 have HC0_3:=am hc0_3
 clear hr0_3 hc0_3
 have HB:=am (Below.refl w.heap.size w)
 have H:(impl_reach_cells.l0 k a1 (([]:List Int)) l0_0 (l0_0.length:Int) 0) = some r:=h
 clear h
 obtain ⟨y102,hy_⟩:∃ y_:List Int,y_ = (([]:List Int)):=⟨_,rfl⟩
 replace H:(impl_reach_cells.l0 k a1 y102 l0_0 (l0_0.length:Int) 0) = some r:=aq3
 have Ny102:=am hy_
 clear hy_
 have H':=am H
 clear H
 go_enter Tryz.func50,Tryz.ntmps50
 go_wp2_with (first | (refine bx 2 #[.slice A0_0 l0_0.length c0_0,.slice A0_1 l0_1.length c0_1,.slice A0_2 l0_2.length c0_2,.slice A0_3 l0_3.length c0_3] 59 ?_;intro gb101 hg w3 hbox hb;have BK101:=am (hbox);have GW101:=am ((by rw [hg];exact (below_size aq1):w.heap.size ≤ gb101));have GE101:=GW101;replace HB:=am (below_step aq1 hb);clear hb hbox hg) | ((with_reducible refine gate_dst (N:=8) rfl ?_);refine Kd.R_lit (Kd.int .i64) _ 3 ?hg (N:=8) ?hd (xs:=([]:List Int)) (inner:=[]) (ok:=fun _=>True) (okp:=fun _=>True) ?hr ?hp (fun _ hk=>hk) trivial (Below.refl _ _) (Nat.le_refl _) (by simp) ?_;(case hd=>rfl);(case hg=>rfl);(case hr=>exact aq20);(case hp=>exact aq101);intro v103 w4 ho5 hb hg_ hnew_;clear hg_ hnew_;(first | rw [← Ny102.out] at ho5 | (simp only [Int.reduceToNat] at ho5;rw [← Ny102.out] at ho5));have HO104:=am (Kd.R_lower ho5 (below_size aq0));replace BK101:=am (bb BK101 hb);replace HB:=am (below_step aq0 hb);clear hb ho5;obtain ⟨hcz6_0,hcz6_1,hcz6_2,hcz6_3,hfz6_0,hfz6_1,hfz6_2,hfz6_3⟩:=blk4_ BK101.out))
 go_loopg [5,12] k (fun kq v5 v12 w'=>∃ (x5_1:List Int) (x12_1:Int),v12 = .int .i64 x12_1 ∧ Aside0 (impl_reach_cells.l0 kq a1 x5_1 l0_0 (l0_0.length:Int) x12_1 = some r) ∧ Aside0 (kq ≤ k) ∧ Aside0 (Kd.R (Kd.int .i64) 3 w' w.heap.size (fun _=>True) v5 x5_1) ∧ Aside0 (w'.heap[gb101]? = some (.cells #[(.slice A0_0 l0_0.length c0_0),(.slice A0_1 l0_1.length c0_1),(.slice A0_2 l0_2.length c0_2),(.slice A0_3 l0_3.length c0_3)] 59 (0,0))) ∧ Aside0 (Below w.heap.size w w'))
 case atStart=>exact ⟨(y102),(0),aq7,H',⟨Nat.le_refl _⟩,⟨aq43⟩,⟨aq2⟩,⟨aq0⟩⟩
 case round =>
  clear H'
  try clear p2
  try clear c5
  try clear hcz6_0
  try clear hcz6_1
  try clear hcz6_2
  try clear hcz6_3
  try clear hfz6_0
  try clear hfz6_1
  try clear hfz6_2
  try clear hfz6_3
  obtain ⟨x5_1,x12_1,rfl,HA,HK1,HO_5,BK101,HB⟩:=hrel
  cases gk with
  | zero=>exact absurd HA.out (by simp [impl_reach_cells.l0])
  | succ k1 =>
   have H:=HA.out
   clear HA
   simp only [impl_reach_cells.l0] at H
   by_cases c7:x12_1 < (l0_0.length:Int)
   rotate_left
   ·rw [if_neg c7] at H
    have c7b0:=decide_eq_false c7
    clear c7
    obtain rfl:=Option.some.inj H
    go_wp2
    go_ret
    exact ⟨_,aq8,aq44,aq0⟩
   rw [if_pos c7] at H
   have c7b0:=decide_eq_true c7
   clear c7
   by_cases c8:0 ≤ x12_1
   rotate_left
   ·rw [if_neg c8] at H
    exact absurd H (by simp)
   rw [if_pos c8] at H
   have c8b0:=decide_eq_true c8
   clear c8
   by_cases c9:x12_1 < (l0_0.length:Int)
   rotate_left
   ·rw [if_neg c9] at H
    exact absurd H (by simp)
   rw [if_pos c9] at H
   have c9b0:=decide_eq_true c9
   clear c9
   replace H:=Option.bind_eq_some_iff.mp H
   obtain ⟨⟨t106,t107,t108⟩,A100,H⟩:=H
   replace H:(if 0 < (a1.size:Int) then ((slices_Index_byte_byte.f k1 t108 (bt a1 0)).bind fun t111=>(if x5_1.length < 17592186044416 then (impl_reach_cells.l0 k1 a1 (x5_1 ++ [t111]) l0_0 (l0_0.length:Int) (wrap64 (x12_1 + 1))) else (none))) else (none)) = some r:=H
   have A10:=am A100
   clear A100
   by_cases c11:0 < (a1.size:Int)
   rotate_left
   ·rw [if_neg c11] at H
    exact absurd H (by simp)
   rw [if_pos c11] at H
   have c11b0:=decide_eq_true c11
   have c11b1:decide (0 < a1.size) = true:=decide_eq_true (by omega)
   clear c11
   obtain ⟨t111,A130,H⟩:=Option.bind_eq_some_iff.mp H
   have A13:=am A130
   clear A130
   by_cases c14:x5_1.length < 17592186044416
   rotate_left
   ·rw [if_neg c14] at H
    exact absurd H (by simp)
   rw [if_pos c14] at H
   have LMc14:=am c14
   clear c14
   obtain ⟨y112,hy_⟩:∃ y_:List Int,y_ = (x5_1 ++ [t111]):=⟨_,rfl⟩
   replace H:(impl_reach_cells.l0 k1 a1 y112 l0_0 (l0_0.length:Int) (wrap64 (x12_1 + 1))) = some r:=aq3
   have Ny112:=am hy_
   clear hy_
   have H':=am H
   clear H
   have p105:0 ≤ (x12_1:Int):=of_decide_eq_true aq4
   have q105:x12_1 < (l0_0.length:Int):=of_decide_eq_true aq4
   obtain ⟨ad105,e105,hx105_0⟩:=Kd.at_string HR0_0.out x12_1 p105 q105
   cases e105
   try replace hx105_0:=(HB.out.cell (World.block_lt_of_cell? w _ hx105_0)).trans hx105_0
   replace p105:=eq_true p105
   replace q105:=eq_true q105
   try go_wp2
   replace HO_5:=am (Kd.R_drew HO_5.out)
   replace BK101:=am (blk_drew BK101.out)
   replace HB:=am (below_drew1 HB.out)
   have p12:0 ≤ (0:Int):=(by omega)
   have q12:0 < a1.size:=(by have:(0:Int) < (a1.size:Int):=of_decide_eq_true aq4;omega)
   have hx12:∀ h:0 < a1.size,((a1[0]'h).toNat:Int) = bt a1 0:=bt_at a1 0
   clear p12
   have qi12:(0 < (a1.size:Int)) = True:=eq_true (of_decide_eq_true aq4)
   replace q12:=eq_true q12
   refine start_ (n:=10) (S:=fun w'=>True) (ds:=[]) (bm 10 0) (by kernel_rfl) rfl rfl trivial (fun hHeld=>?_);refine with_tabW impl_reach_cells.tab5 impl_reach_cells.bits5 (fun HT_ HW_=>?_)
   generalize wr.drew = w15 at HO_5 BK101 HB hHeld ⊢
   refine py (i:=0) (N:=some 16) (bm 10 1) ?_
   refine py (i:=1) (N:=some 17) (bm 10 3) ?_
   refine py (i:=4) (N:=some 20) (bm 10 19) ?_
   refine tk1 (i:=5) (N:=some 21) (bm 10 51) hHeld ?_
   refine one_ (i:=2) (N:=some 18) (bm 10 55) rfl rfl (one_of HT_.out (by kernel_rfl)) (by decide) (fun K hK=>?_)
   refine goes_ Tryz.func51 (by kernel_rfl) rfl #[.string (rdOf ByteArray.empty l0_0 x12_1)] (by rfl) rfl rfl aq5 ?_
   with_reducible refine (impl_read.calls (rdOf ByteArray.empty l0_0 x12_1) t106 t107 t108 _ A10.out).mono ?_
   rintro e w16 ⟨v109,rfl,ho0,hb⟩
   refine ⟨_,rfl,?_⟩
   have HO110:=am (Kd.V_lower (Kd.V_mono (ok':=fun k_=>some k_ ≠ (u5:Value).ownBlock ∧ k_ ≠ gb101) ho0 (fun k_ hk_=>⟨(Kd.fresh' (Kd.R_lt aq44) k_ hk_),(Kd.freshB (g:=gb101) (o:=.cells #[.slice (some ad105) l0_0.length c0_0,.slice A0_1 l0_1.length c0_1,.slice A0_2 l0_2.length c0_2,.slice A0_3 l0_3.length c0_3] 59 (0,0)) aq2 k_ hk_)⟩)) (below_size aq0))
   replace HO_5:=am (Kd.R_below aq44 hb)
   replace BK101:=am (bb BK101 hb)
   replace HB:=am (below_step aq0 hb)
   (try clear hb)
   (try clear ho0)
   obtain ⟨Ao17,co17,eo17⟩:=Kd.V_slice HO110.out
   (first | subst eo17 | (injection eo17 with f1_ f2_ f3_;have f4_:=f1_.symm;have f5_:=f3_.symm;clear f1_ f2_ f3_;subst f4_;subst f5_))
   refine hK.out _ _ trivial (fun hHeld=>?_)
   clear hK K
   refine nm (some 18) ?_
   refine py (i:=3) (N:=some 19) (bm 10 63) ?_
   refine one_ (i:=6) (N:=some 22) (bm 10 127) rfl rfl (one_of HT_.out (by kernel_rfl)) (by decide) (fun K hK=>?_)
   refine goes_ Tryz.func89 (by kernel_rfl) rfl #[.slice Ao17 t108.length co17,.int .u8 (bt a1 0)] (by rfl) rfl rfl aq5 ?_
   with_reducible refine (slices_Index_byte_byte.calls k1 _ _ t108 (bt a1 0) t111 _ ?side1 ?side2 A13.out).mono ?_
   (case side1=>repeat (first | exact (Kd.V_reads' HO110.out).2.2 | (with_reducible refine Kd.C_alloc ?_ _) | (with_reducible refine Kd.C_drewN ?_ _) | (with_reducible refine Kd.C_drew ?_)))
   (case side2=>exact (Kd.V_reads' HO110.out).2.1)
   rintro e w' ⟨rfl,⟨nd,rfl⟩⟩
   refine ⟨_,rfl,?_⟩
   refine hK.out _ _ trivial (fun hHeld=>?_)
   clear hK K
   refine nm (some 22) ?_
   refine one_ (i:=7) (N:=some 23) (bm 10 255) rfl rfl (one_of HT_.out (by kernel_rfl)) (by decide) (fun K hK=>?_)
   refine value_ (w1:=?_) (v:=?_) (by rfl) rfl ?_ ?_
   rotate_left 2
   ·go_simp
    constructor
    ·rfl
    ·rfl
   refine hK.out _ _ trivial (fun hHeld=>?_)
   clear hK K
   refine nm (some 23) ?_
   refine one_ (i:=8) (N:=some 24) (bm 10 511) rfl rfl (one_of HT_.out (by kernel_rfl)) (by decide) (fun K hK=>?_)
   refine Kd.R_append_step (Kd.int .i64) (w0:=w) w.heap.size (by rfl) (.tmp 16) (.tmp 23) 40 3 (.int .i64 0) 8 rfl Tryz.underlying40 info3 rfl (by decide) (by omega) u5 x5_1 t111 [.int .i64 t111] (fun _=>True) (fun _=>False) rfl rfl ?aP (fun _ hk=>hk.elim) ?aF ?aO ?aB ?aS ?aL ?_
   (case aP=>exact rfl)
   (case aB=>exact aq0)
   (case aF=>exact aq77)
   (case aO=>exact aq44)
   (case aS=>exact aq64)
   (case aL=>have:=LMc14.out;omega)
   intro v113 w18 ho hb hg hat
   rw [← Ny112.out] at ho
   replace BK101:=am (bg BK101 hg (Kd.R_ne HO_5.out BK101.out (by decide)))
   replace HO110:=am (Kd.V_afterv (ok:=(fun k_=>k_ ≠ gb101)) (by (with_reducible repeat (first | apply Kd.V_alloc | apply Kd.V_drewN | apply Kd.V_drew));exact Kd.V_mono HO110.out (fun _ hk=>⟨hk.2,hk.1⟩)) hg hat)
   replace HB:=am (hb)
   have HO114:=am (ho)
   clear HO_5 ho hb hg hat
   refine hK.out _ _ trivial (fun hHeld=>?_)
   clear hK K
   refine nm (some 24) ?_
   refine py (i:=9) (N:=some 5) (bm 10 1023) ?_
   refine done_ (done_of HT_.out (by kernel_rfl)) ?_
   try go_wp2
   go_roundg k1
   case measure=>have:=HK1.out;omega
   case rel=>exact ⟨(y112),(wrap64 (x12_1 + 1)),aq7,H',⟨aq53⟩,⟨by (with_reducible repeat (first | apply Kd.R_alloc | apply Kd.R_drewN | apply Kd.R_drew));exact HO114.out⟩,⟨aq2⟩,⟨aq0⟩⟩
def slices_Index_int_int.l0:Nat → List Int → Int → Int → Int → Option (Int)
 | 0,_,_,_,_=>none
 | k + 1,x0,x1,x7,x8=>if x8 < x7 then (if 0 ≤ x8 then (if x8 < (x0.length:Int) then (if x1 = (rd x0 x8) then (some x8) else (slices_Index_int_int.l0 k x0 x1 x7 (wrap64 (x8 + 1)))) else (none)) else (none)) else (some (-1))
def slices_Index_int_int.f (k:Nat) (l0:List Int) (a1:Int):Option (Int):=slices_Index_int_int.l0 k l0 a1 (l0.length:Int) 0
theorem slices_Index_int_int.mono_l:∀ k,(∀ y0 y1 y2 y3,LeO (slices_Index_int_int.l0 k y0 y1 y2 y3) (slices_Index_int_int.l0 (k + 1) y0 y1 y2 y3))
 | 0=>fun _ _ _ _ r h=>by simp [slices_Index_int_int.l0] at h
 | k + 1=>by
  have ih0:=slices_Index_int_int.mono_l k
  ·intro y0 y1 y2 y3
   unfold slices_Index_int_int.l0
   exact mo
theorem slices_Index_int_int.mono:∀ a0 a1 k,LeO (slices_Index_int_int.f k a0 a1) (slices_Index_int_int.f (k + 1) a0 a1):=by
 intro a0 a1 k
 have ih0:=slices_Index_int_int.mono_l k
 unfold slices_Index_int_int.f
 exact mo
set_option maxHeartbeats 8000000 in
set_option maxRecDepth 100000 in
theorem slices_Index_int_int.calls (k:Nat) (A0:Option Addr) (c0:Nat) (l0:List Int) (a1:Int) (r:Int) (w:World) (hr0:Kd.C (Kd.int .i64) w A0 l0.length l0) (hc0:l0.length ≤ c0) (h:slices_Index_int_int.f k l0 a1 = some r) :
  Calls Tryz.prog 52 #[.slice A0 l0.length c0,.int .i64 a1] w fun e w'=>e = .returned (.int .i64 r) ∧ Drawn0 w w':=by
 have HR0:=am hr0
 have HC0:=am hc0
 clear hr0 hc0
 have H:(slices_Index_int_int.l0 k l0 a1 (l0.length:Int) 0) = some r:=h
 clear h
 have H':=am H
 clear H
 go_enter Tryz.func52,Tryz.ntmps52
 go_wp2
 go_loopg [8] k (fun kq v8 w'=>∃ (x8_1:Int),v8 = .int .i64 x8_1 ∧ Aside0 (slices_Index_int_int.l0 kq l0 a1 (l0.length:Int) x8_1 = some r) ∧ Aside0 (kq ≤ k) ∧ Drawn0 w w')
 case atStart=>exact ⟨(0),aq7,H',⟨Nat.le_refl _⟩,aq16⟩
 case round =>
  clear H'
  try clear p2
  obtain ⟨x8_1,rfl,HA,HK1,⟨m1,rfl⟩⟩:=hrel
  cases gk with
  | zero=>exact absurd HA.out (by simp [slices_Index_int_int.l0])
  | succ k1 =>
   have H:=HA.out
   clear HA
   simp only [slices_Index_int_int.l0] at H
   by_cases c3:x8_1 < (l0.length:Int)
   rotate_left
   ·rw [if_neg c3] at H
    have c3b0:=decide_eq_false c3
    clear c3
    obtain rfl:=Option.some.inj H
    go_wp2
    go_ret
    exact ⟨aq7,aq16⟩
   rw [if_pos c3] at H
   have c3b0:=decide_eq_true c3
   clear c3
   by_cases c4:0 ≤ x8_1
   rotate_left
   ·rw [if_neg c4] at H
    exact absurd H (by simp)
   rw [if_pos c4] at H
   have c4b0:=decide_eq_true c4
   clear c4
   by_cases c5:x8_1 < (l0.length:Int)
   rotate_left
   ·rw [if_neg c5] at H
    exact absurd H (by simp)
   rw [if_pos c5] at H
   have c5b0:=decide_eq_true c5
   clear c5
   by_cases c6:a1 = (rd l0 x8_1)
   ·rw [if_pos c6] at H
    have c6b0:=beq_iff_eq.mpr c6
    have c6b1:=bne_eq_false_iff_eq.mpr c6
    clear c6
    obtain rfl:=Option.some.inj H
    have p101:0 ≤ (x8_1:Int):=of_decide_eq_true aq4
    have q101:x8_1 < (l0.length:Int):=of_decide_eq_true aq4
    obtain ⟨ad101,e101,hx101_0⟩:=Kd.at_int HR0.out x8_1 p101 q101
    cases e101
    replace p101:=eq_true p101
    replace q101:=eq_true q101
    go_wp2
    go_ret
    exact ⟨aq7,aq16⟩
   rw [if_neg c6] at H
   have c6b0:=beq_eq_false_iff_ne.mpr c6
   have c6b1:=bne_iff_ne.mpr c6
   have H':=am H
   clear H
   have p101:0 ≤ (x8_1:Int):=of_decide_eq_true aq4
   have q101:x8_1 < (l0.length:Int):=of_decide_eq_true aq4
   obtain ⟨ad101,e101,hx101_0⟩:=Kd.at_int HR0.out x8_1 p101 q101
   cases e101
   replace p101:=eq_true p101
   replace q101:=eq_true q101
   go_wp2
   go_roundg k1
   case measure=>have:=HK1.out;omega
   case rel=>exact ⟨(wrap64 (x8_1 + 1)),aq7,H',⟨aq53⟩,aq16⟩

end Go.Proofs.YtldhkbiomingbaaGreatDoor.F

namespace Go.Proofs.YtldhkbiomingbaaGreatDoor.F
open Go.Proofs.YtldhkbiomingbaaGreatDoor
open Go.RowKit Go.Proofs.YtldhkbiomingbaaGreatDoorW.PrintWords Go.Proofs.YtldhkbiomingbaaGreatDoorW.PrintMore
theorem placeI_read {w h:Nat} {c:List Int} (v:Vg (w,h,c)):impl_read.f (textB (w,h,c)) = some ((w:Int),(h:Int),c):=impl_read_eq _ (grid_textB v)
theorem cells_l0 {w h:Nat} {s:RS} {n:ByteArray} (hn:n.size = 1) (hv:∀ c ∈ s.T,Vg (w,h,c)) (hl:s.T.length ≤ 300):∀ (d i:Nat),i + d = s.T.length →
  Ev (fun k=>impl_reach_cells.l0 k n ((cellsI s (bt n 0)).take i) (rT w h s) ((rT w h s).length:Int) i) (cellsI s (bt n 0))
 | 0,i,hi=>by
  refine Ev.step (f:=fun _=>some (cellsI s (bt n 0))) (fun k=>?_) (Ev.now _)
  rw [impl_reach_cells.l0,if_neg (by rw [rT_len];omega),List.take_of_length_le (by rw [cellsI_len];omega)]
 | d + 1,i,hi=>by
  have hlt:i < s.T.length:=by omega
  have ih:=cells_l0 hn hv hl d (i + 1) (by omega)
  have hvi:=hv _ (getD_mem (d:=([]:List Int)) hlt)
  have hrd:rdOf ByteArray.empty (rT w h s) (i:Int) = textB (w,h,s.T.getD i []):=by
   unfold rdOf rT
   rw [Int.toNat_natCast,List.getD_eq_getElem?_getD,List.getElem?_map,List.getElem?_eq_getElem hlt,getD_lt hlt];rfl
  have hll:=(tray_small hvi).2
  simp only at hll
  have hix:=index_l0 (cs:=s.T.getD i []) (by omega) (bt n 0) _ 0 (Nat.zero_add _) (fun j hj=>by omega)
  have htk:(cellsI s (bt n 0)).take i ++ [placeI (bt n 0) (s.T.getD i [])] = (cellsI s (bt n 0)).take (i + 1):=by
   rw [List.take_succ_eq_append_getElem (by rw [cellsI_len];exact hlt),← cellsI_get s (bt n 0) hlt,getD_lt (by rw [cellsI_len];exact hlt)]
  refine Ev.step (f:=fun k=>(slices_Index_byte_byte.f k (s.T.getD i []) (bt n 0)).bind fun t111=>(if ((cellsI s (bt n 0)).take i).length < 17592186044416 then (impl_reach_cells.l0 k n ((cellsI s (bt n 0)).take i ++ [t111]) (rT w h s) ((rT w h s).length:Int) (wrap64 ((i:Int) + 1))) else none)) (fun k=>?_) ?_
  ·rw [impl_reach_cells.l0,if_pos (by rw [rT_len];omega),if_pos (by omega),if_pos (by rw [rT_len];omega),hrd,placeI_read hvi,Option.bind_some,if_pos (by omega)]
  ·refine Ev.bind hix (Ev.congr (fun k=>?_) ih)
   rw [if_pos (by rw [List.length_take];omega)]
   show impl_reach_cells.l0 k n (_ ++ [placeI (bt n 0) (s.T.getD i [])]) _ _ _ = _
   rw [htk,show (i:Int) + 1 = ((i + 1:Nat):Int) by omega,w64t (by omega)]
theorem cells_ev {w h:Nat} {s:RS} {n:ByteArray} (hn:n.size = 1) (hv:∀ c ∈ s.T,Vg (w,h,c)) (hl:s.T.length ≤ 300) (l1:List Int) (l2:List (List Int)) (l3:List ByteArray) :
  Ev (fun k=>impl_reach_cells.f k (rT w h s) l1 l2 l3 n) (cellsI s (bt n 0)):=cells_l0 hn hv hl s.T.length 0 (Nat.zero_add _)
theorem indexI_l0 {l:List Int} (hl:l.length ≤ 1000) (c:Int):∀ (d i:Nat),i + d = l.length → (∀ j,j < i → l.getD j 0 ≠ c) →
  Ev (fun k=>slices_Index_int_int.l0 k l c (l.length:Int) i) (if l.findIdx (fun x=>decide (x = c)) < l.length then (l.findIdx (fun x=>decide (x = c)):Int) else -1)
 | 0,i,hi,hn=>by
  obtain rfl:i = l.length:=by omega
  have:l.findIdx (fun x=>decide (x = c)) = l.length:=List.findIdx_eq_length.2 (fun x hx=>by
   obtain ⟨j,hj,rfl⟩:=List.mem_iff_getElem.1 hx
   have:=hn j hj
   rw [getD_lt hj] at this
   simpa using this)
  rw [this,if_neg (Nat.lt_irrefl _)]
  refine Ev.step (f:=fun _=>some (-1)) (fun k=>?_) (Ev.now _)
  rw [slices_Index_int_int.l0,if_neg (by omega)]
 | d + 1,i,hi,hn=>by
  have hlt:i < l.length:=by omega
  have hrd:rd l (i:Int) = l.getD i 0:=by unfold rd;rw [Int.toNat_natCast]
  by_cases he:c = l.getD i 0
  rotate_left
  ·have ih:=indexI_l0 hl c d (i + 1) (by omega) (fun j hj=>by
    by_cases e:j = i
    ·subst e;exact fun h=>he h.symm
    ·exact hn j (by omega))
   refine Ev.step (fun k=>?_) ih
   rw [slices_Index_int_int.l0,if_pos (by omega),if_pos (by omega),if_pos (by omega),hrd,if_neg he,show (i:Int) + 1 = ((i + 1:Nat):Int) by omega,w64t (by omega)]
  have hf:l.findIdx (fun x=>decide (x = c)) = i:=by
   rw [List.findIdx_eq hlt]
   refine ⟨by rw [he,getD_lt hlt];simp,fun j hj=>?_⟩
   have:=hn j hj
   rw [getD_lt (by omega)] at this
   simpa using this
  rw [hf,if_pos hlt]
  refine Ev.step (f:=fun _=>some (i:Int)) (fun k=>?_) (Ev.now _)
  rw [slices_Index_int_int.l0,if_pos (by omega),if_pos (by omega),if_pos (by omega),hrd,if_pos he]
end Go.Proofs.YtldhkbiomingbaaGreatDoor.F

namespace Go.Proofs.YtldhkbiomingbaaGreatDoor.F
open Go.Proofs.YtldhkbiomingbaaGreatDoor
open Go.RowKit Go.Proofs.YtldhkbiomingbaaGreatDoorW.PrintWords Go.Proofs.YtldhkbiomingbaaGreatDoorW.PrintLast Go.Proofs.YtldhkbiomingbaaGreatDoorW.PrintMore
attribute [local go_sem] max2_int min2_int max_two min_two max_three min_three max_four min_four


end Go.Proofs.YtldhkbiomingbaaGreatDoor.F

namespace Go.Proofs.YtldhkbiomingbaaGreatDoor.F
open Go.Proofs.YtldhkbiomingbaaGreatDoor
open Go.RowKit Go.Proofs.YtldhkbiomingbaaGreatDoorW.PrintWords Go.Proofs.YtldhkbiomingbaaGreatDoorW.PrintMore
theorem reachOf_some {t:ByteArray} {w h:Nat} {s:RS} (ht:t.size < 4294967281) (hs:srch t = some (w,h,s)):impl_reachOf.f t = some (rT w h s,castsI s.F,s.N.map castsI,rW s,true):=by
 unfold impl_reachOf.f
 rw [if_pos ht,hs]
theorem reachOf_none {t:ByteArray} (ht:t.size < 4294967281) (hs:srch t = none):impl_reachOf.f t = some ([],[],[],[],false):=by
 unfold impl_reachOf.f
 rw [if_pos ht,hs]
theorem casts_far {s:RS} {i:Nat} (hF:i < s.F.length):rd (castsI s.F) (i:Int) = ((s.F.getD i 0:Nat):Int):=by
 unfold rd
 rw [Int.toNat_natCast,List.getD_eq_getElem?_getD,castsI_getD _ _ hF,getD_lt hF];rfl
end Go.Proofs.YtldhkbiomingbaaGreatDoor.F

namespace Go.Proofs.YtldhkbiomingbaaGreatDoor.F
open Go.Proofs.YtldhkbiomingbaaGreatDoor
open Go.RowKit Go.Proofs.YtldhkbiomingbaaGreatDoorW.PrintWords Go.Proofs.YtldhkbiomingbaaGreatDoorW.PrintLast Go.Proofs.YtldhkbiomingbaaGreatDoorW.PrintMore
attribute [local go_sem] max2_int min2_int max_two min_two max_three min_three max_four min_four
def impl_reachWith.f (k:Nat) (a0:ByteArray) (a1:ByteArray):Option (List ByteArray × List Int × (List (List Int)) × List ByteArray × Bool):=(impl_cellOf.f k a0 a1).bind fun bt102=>(if bt102.2 = true then ((impl_reachOf.f a0).bind fun bt104=>(some (bt104.1,bt104.2.1,bt104.2.2.1,bt104.2.2.2.1,bt104.2.2.2.2))) else (some (([]:List ByteArray),([]:List Int),([]:List (List Int)),([]:List ByteArray),false)))
theorem impl_reachWith.mono:∀ a0 a1 k,LeO (impl_reachWith.f k a0 a1) (impl_reachWith.f (k + 1) a0 a1):=by
 intro a0 a1 k
 unfold impl_reachWith.f
 have im0:=@impl_cellOf.mono;exact mo
set_option maxHeartbeats 8000000 in
set_option maxRecDepth 100000 in
theorem impl_reachWith.calls (k:Nat) (a0:ByteArray) (a1:ByteArray) (r1:List ByteArray) (r2:List Int) (r3:List (List Int)) (r4:List ByteArray) (r5:Bool) (w:World) (h:impl_reachWith.f k a0 a1 = some (r1,r2,r3,r4,r5)) :
  Calls Tryz.prog 49 #[.string a0,.string a1] w fun e w'=>∃ v0_ v1_ v2_ v3_:Value,e = .returned (.tuple #[.agg #[v0_,v1_,v2_,v3_],.bool r5]) ∧ Kd.R Kd.string 9 w' w.heap.size (fun k_=>some k_ ≠ (v3_:Value).ownBlock) v0_ r1 ∧ Kd.R (Kd.int .i64) 3 w' w.heap.size (fun _=>True) v1_ r2 ∧ Kd.S (Kd.slice 3 (Kd.int .i64)) 40 w' w.heap.size (fun k_=>some k_ ≠ (v1_:Value).ownBlock) v2_ r3 ∧ Kd.R Kd.string 9 w' w.heap.size (fun k_=>some k_ ≠ (v0_:Value).ownBlock) v3_ r4 ∧ Below w.heap.size w w':=by
 have hu59:=Tryz.underlying59
 have HB:=am (Below.refl w.heap.size w)
 have H:((impl_cellOf.f k a0 a1).bind fun bt102=>(if bt102.2 = true then ((impl_reachOf.f a0).bind fun bt104=>(some (bt104.1,bt104.2.1,bt104.2.2.1,bt104.2.2.2.1,bt104.2.2.2.2))) else (some (([]:List ByteArray),([]:List Int),([]:List (List Int)),([]:List ByteArray),false)))) = some (r1,r2,r3,r4,r5):=h
 clear h
 replace H:=Option.bind_eq_some_iff.mp H
 obtain ⟨⟨t102,t103⟩,A30,H⟩:=H
 replace H:(if t103 = true then ((impl_reachOf.f a0).bind fun bt104=>(some (bt104.1,bt104.2.1,bt104.2.2.1,bt104.2.2.2.1,bt104.2.2.2.2))) else (some (([]:List ByteArray),([]:List Int),([]:List (List Int)),([]:List ByteArray),false))) = some (r1,r2,r3,r4,r5):=H
 have A3:=am A30
 clear A30
 by_cases c4:t103 = true
 rotate_left
 ·replace c4:=Bool.eq_false_iff.mpr c4
  subst c4
  rw [if_neg Bool.false_ne_true] at H
  simp only [Option.some.injEq,Prod.mk.injEq] at H
  obtain ⟨rfl,rfl,rfl,rfl,rfl⟩:=H
  go_enter Tryz.func49,Tryz.ntmps49
  go_wp2_with (first | (refine bx 4 #[.slice none 0 0,.slice none 0 0,.slice none 0 0,.slice none 0 0] 59 ?_;intro gb101 hg w14 hbox hb;have BK101:=am (hbox);have GW101:=am ((by rw [hg];exact (below_size aq1):w.heap.size ≤ gb101));have GE101:=GW101;replace HB:=am (below_step aq1 hb);clear hb hbox hg) | ((with_reducible refine gate_callee (f:=88) rfl ?_);refine goesL_ (some 11) rfl rfl Tryz.func88 (by kernel_rfl) rfl #[.string a0,.string a1] rfl aq5 ?_;(with_reducible refine (impl_cellOf.calls k a0 a1 t102 false _ A3.out).mono ?_);rintro e w15 ⟨rfl,hb⟩;refine ⟨_,rfl,?_⟩;replace BK101:=am (bb BK101 hb);replace HB:=am (below_step aq0 hb);(try clear hb);obtain ⟨hcz16_0,hcz16_1,hcz16_2,hcz16_3,hfz16_0,hfz16_1,hfz16_2,hfz16_3⟩:=blk4_ BK101.out))
  refine bodyPost_ret (results_ct rfl _ _ gb101 59 #[.slice none 0 0,.slice none 0 0,.slice none 0 0,.slice none 0 0] (0,0) _ rfl (by (with_reducible repeat (first | refine blk_drewN ?_ _ | refine blk_drew ?_ | refine blk_alloc ?_ _));refine blk_put (cs:=#[.slice none 0 0,.slice none 0 0,.slice none 0 0,.slice none 0 0]) ?_ 3 _ rfl;(with_reducible repeat (first | refine blk_drewN ?_ _ | refine blk_drew ?_ | refine blk_alloc ?_ _));refine blk_put (cs:=#[.slice none 0 0,.slice none 0 0,.slice none 0 0,.slice none 0 0]) ?_ 2 _ rfl;(with_reducible repeat (first | refine blk_drewN ?_ _ | refine blk_drew ?_ | refine blk_alloc ?_ _));refine blk_put (cs:=#[.slice none 0 0,.slice none 0 0,.slice none 0 0,.slice none 0 0]) ?_ 1 _ rfl;(with_reducible repeat (first | refine blk_drewN ?_ _ | refine blk_drew ?_ | refine blk_alloc ?_ _));refine blk_put (cs:=#[.slice none 0 0,.slice none 0 0,.slice none 0 0,.slice none 0 0]) ?_ 0 _ rfl;(with_reducible repeat (first | refine blk_drewN ?_ _ | refine blk_drew ?_ | refine blk_alloc ?_ _));exact BK101.out) Tryz.underlying59 rfl (by kernel_rfl)) rfl ?_
  exact ⟨_,_,_,_,aq8,aq22,aq22,aq96,aq22,aq0⟩
 subst c4
 rw [if_pos rfl] at H
 replace H:=Option.bind_eq_some_iff.mp H
 obtain ⟨⟨t104,t107,t110,t113,t116⟩,A50,H⟩:=H
 replace H:(some (t104,t107,t110,t113,t116)) = some (r1,r2,r3,r4,r5):=H
 have A5:=am A50
 clear A50
 simp only [Option.some.injEq,Prod.mk.injEq] at H
 obtain ⟨rfl,rfl,rfl,rfl,rfl⟩:=H
 go_enter Tryz.func49,Tryz.ntmps49
 go_wp2_with (first | (refine bx 4 #[.slice none 0 0,.slice none 0 0,.slice none 0 0,.slice none 0 0] 59 ?_;intro gb101 hg w6 hbox hb;have BK101:=am (hbox);have GW101:=am ((by rw [hg];exact (below_size aq1):w.heap.size ≤ gb101));have GE101:=GW101;replace HB:=am (below_step aq1 hb);clear hb hbox hg) | ((with_reducible refine gate_callee (f:=88) rfl ?_);refine goesL_ (some 11) rfl rfl Tryz.func88 (by kernel_rfl) rfl #[.string a0,.string a1] rfl aq5 ?_;(with_reducible refine (impl_cellOf.calls k a0 a1 t102 true _ A3.out).mono ?_);rintro e w7 ⟨rfl,hb⟩;refine ⟨_,rfl,?_⟩;replace BK101:=am (bb BK101 hb);replace HB:=am (below_step aq0 hb);(try clear hb)) | ((with_reducible refine gate_callee (f:=74) rfl ?_);refine goesL_ (some 18) rfl rfl Tryz.func74 (by kernel_rfl) rfl #[.string a0] rfl aq5 ?_;(with_reducible refine (impl_reachOf.calls a0 t104 t107 t110 t113 t116 _ A5.out).mono ?_);rintro e w8 ⟨v105,v108,v111,v114,rfl,ho0,ho1,ho2,ho3,hb⟩;refine ⟨_,rfl,?_⟩;have HO106:=am (Kd.R_lower ho0 (below_size aq0));have HO109:=am (Kd.R_lower ho1 (below_size aq0));have HO112:=am (Kd.S_lower ho2 (below_size aq0));have HO115:=am (Kd.R_lower ho3 (below_size aq0));replace BK101:=am (bb BK101 hb);replace HB:=am (below_step aq0 hb);(try clear hb);(try clear ho0);(try clear ho1);(try clear ho2);(try clear ho3);obtain ⟨Ao9,co9,eo9⟩:=Kd.R_slice HO106.out;subst eo9;obtain ⟨hcz10_0,hcz10_1,hcz10_2,hcz10_3,hfz10_0,hfz10_1,hfz10_2,hfz10_3⟩:=blk4_ BK101.out;obtain ⟨Ao11,co11,eo11⟩:=Kd.R_slice HO109.out;subst eo11;obtain ⟨Ao12,co12,eo12⟩:=Kd.S_slice HO112.out;subst eo12;obtain ⟨Ao13,co13,eo13⟩:=Kd.R_slice HO115.out;subst eo13))
 refine bodyPost_ret (results_ct rfl _ _ gb101 59 #[.slice Ao9 t104.length co9,.slice Ao11 t107.length co11,.slice Ao12 t110.length co12,.slice Ao13 t113.length co13] (0,0) _ rfl (by (with_reducible repeat (first | refine blk_drewN ?_ _ | refine blk_drew ?_ | refine blk_alloc ?_ _));refine blk_put (cs:=#[.slice Ao9 t104.length co9,.slice Ao11 t107.length co11,.slice Ao12 t110.length co12,.slice none 0 0]) ?_ 3 _ rfl;(with_reducible repeat (first | refine blk_drewN ?_ _ | refine blk_drew ?_ | refine blk_alloc ?_ _));refine blk_put (cs:=#[.slice Ao9 t104.length co9,.slice Ao11 t107.length co11,.slice none 0 0,.slice none 0 0]) ?_ 2 _ rfl;(with_reducible repeat (first | refine blk_drewN ?_ _ | refine blk_drew ?_ | refine blk_alloc ?_ _));refine blk_put (cs:=#[.slice Ao9 t104.length co9,.slice none 0 0,.slice none 0 0,.slice none 0 0]) ?_ 1 _ rfl;(with_reducible repeat (first | refine blk_drewN ?_ _ | refine blk_drew ?_ | refine blk_alloc ?_ _));refine blk_put (cs:=#[.slice none 0 0,.slice none 0 0,.slice none 0 0,.slice none 0 0]) ?_ 0 _ rfl;(with_reducible repeat (first | refine blk_drewN ?_ _ | refine blk_drew ?_ | refine blk_alloc ?_ _));exact BK101.out) Tryz.underlying59 rfl (by kernel_rfl)) rfl ?_
 exact ⟨_,_,_,_,aq8,by (with_reducible repeat (first | apply Kd.R_alloc | apply Kd.R_drewN | apply Kd.R_drew));exact Kd.R_mono (Kd.R_far (p:=⟨gb101,3,none⟩) (Kd.R_far (p:=⟨gb101,2,none⟩) (Kd.R_far (p:=⟨gb101,1,none⟩) (Kd.R_far (p:=⟨gb101,0,none⟩) (Kd.R_types HO106.out BK101.out (by decide)) (fun _ hk=>hk.2) (.slice Ao9 t104.length co9)) (fun _ hk=>hk.2) (.slice Ao11 t107.length co11)) (fun _ hk=>hk.2) (.slice Ao12 t110.length co12)) (fun _ hk=>hk.2) (.slice Ao13 t113.length co13)) (fun _ hk=>hk.1),by (with_reducible repeat (first | apply Kd.R_alloc | apply Kd.R_drewN | apply Kd.R_drew));exact Kd.R_mono (Kd.R_far (p:=⟨gb101,3,none⟩) (Kd.R_far (p:=⟨gb101,2,none⟩) (Kd.R_far (p:=⟨gb101,1,none⟩) (Kd.R_far (p:=⟨gb101,0,none⟩) (Kd.R_types HO109.out BK101.out (by decide)) (fun _ hk=>hk.2) (.slice Ao9 t104.length co9)) (fun _ hk=>hk.2) (.slice Ao11 t107.length co11)) (fun _ hk=>hk.2) (.slice Ao12 t110.length co12)) (fun _ hk=>hk.2) (.slice Ao13 t113.length co13)) (fun _ hk=>trivial),by (with_reducible repeat (first | apply Kd.S_alloc | apply Kd.S_drewN | apply Kd.S_drew));exact Kd.S_mono (Kd.S_far (p:=⟨gb101,3,none⟩) (Kd.S_far (p:=⟨gb101,2,none⟩) (Kd.S_far (p:=⟨gb101,1,none⟩) (Kd.S_far (p:=⟨gb101,0,none⟩) (Kd.S_types HO112.out BK101.out (by decide)) (fun _ hk=>hk.2) (.slice Ao9 t104.length co9)) (fun _ hk=>hk.2) (.slice Ao11 t107.length co11)) (fun _ hk=>hk.2) (.slice Ao12 t110.length co12)) (fun _ hk=>hk.2) (.slice Ao13 t113.length co13)) (fun _ hk=>hk.1),by (with_reducible repeat (first | apply Kd.R_alloc | apply Kd.R_drewN | apply Kd.R_drew));exact Kd.R_mono (Kd.R_far (p:=⟨gb101,3,none⟩) (Kd.R_far (p:=⟨gb101,2,none⟩) (Kd.R_far (p:=⟨gb101,1,none⟩) (Kd.R_far (p:=⟨gb101,0,none⟩) (Kd.R_types HO115.out BK101.out (by decide)) (fun _ hk=>hk.2) (.slice Ao9 t104.length co9)) (fun _ hk=>hk.2) (.slice Ao11 t107.length co11)) (fun _ hk=>hk.2) (.slice Ao12 t110.length co12)) (fun _ hk=>hk.2) (.slice Ao13 t113.length co13)) (fun _ hk=>hk.1),aq0⟩
end Go.Proofs.YtldhkbiomingbaaGreatDoor.F

namespace Go.Proofs.YtldhkbiomingbaaGreatDoor.F
open Go.RowKit Go.Proofs.YtldhkbiomingbaaGreatDoor Go.Proofs.YtldhkbiomingbaaGreatDoorW.PrintWords Go.Proofs.YtldhkbiomingbaaGreatDoorW.PrintMore
theorem reachWith_ev (t n:ByteArray) (ht:t.size < 4294967281):Ev (fun k=>impl_reachWith.f k t n) (match ballS t n with | none=>([],[],[],[],false) | some q=>(rT q.1 q.2.1 q.2.2,castsI q.2.2.F,q.2.2.N.map castsI,rW q.2.2,true)):=by
 have hC:=impl_cellOf_ev t n ht
 unfold cellOfAns at hC
 unfold impl_reachWith.f ballS
 cases hg:tyGrid (bytesOf t) with
 | none =>
  rw [hg] at hC
  exact Ev.bind hC (Ev.congr (fun k=>if_neg Bool.false_ne_true) (Ev.now _))
 | some g =>
  rw [hg] at hC
  simp only at hC ⊢
  by_cases h1:oneName n = true
  rotate_left
  ·rw [if_neg h1] at hC
   rw [if_neg (show ¬ (oneName n = true ∧ firstAt g.2.2 (bt n 0) < g.2.2.length) from fun q=>h1 q.1)]
   exact Ev.bind hC (Ev.congr (fun k=>if_neg Bool.false_ne_true) (Ev.now _))
  rw [if_pos h1] at hC
  by_cases h2:firstAt g.2.2 (bt n 0) < g.2.2.length
  rotate_left
  ·rw [if_neg h2] at hC
   rw [if_neg (show ¬ (oneName n = true ∧ firstAt g.2.2 (bt n 0) < g.2.2.length) from fun q=>h2 q.2)]
   exact Ev.bind hC (Ev.congr (fun k=>if_neg Bool.false_ne_true) (Ev.now _))
  rw [if_pos h2] at hC
  rw [if_pos (show oneName n = true ∧ firstAt g.2.2 (bt n 0) < g.2.2.length from ⟨h1,h2⟩)]
  refine Ev.bind hC (Ev.congr (fun k=>if_pos rfl) ?_)
  cases hs:srch t with
  | none=>exact Ev.congr (fun k=>by rw [reachOf_none ht hs,Option.bind_some]) (Ev.now _)
  | some q=>exact Ev.congr (fun k=>by rw [reachOf_some (w:=q.1) (h:=q.2.1) (s:=q.2.2) ht hs,Option.bind_some]) (Ev.now _)
end Go.Proofs.YtldhkbiomingbaaGreatDoor.F

namespace Go.Proofs.YtldhkbiomingbaaGreatDoor.F
open Go.Proofs.YtldhkbiomingbaaGreatDoor
open Go.RowKit Go.Proofs.YtldhkbiomingbaaGreatDoorW.PrintWords Go.Proofs.YtldhkbiomingbaaGreatDoorW.PrintLast Go.Proofs.YtldhkbiomingbaaGreatDoorW.PrintMore
attribute [local go_sem] max2_int min2_int max_two min_two max_three min_three max_four min_four
def impl_HardestGoal.l0:Nat → Int → Int → List Int → Int → Int → List ByteArray → List Int → List (List Int) → List ByteArray → Option (Int × Int × Bool)
 | 0,_,_,_,_,_,_,_,_,_=>none
 | k + 1,x9,x10,x11,x28,x29,x115000,x115001,x115002,x115003=>if x29 < x28 then ((slices_Index_int_int.f k x11 x29).bind fun t123=>(if t123 ≥ 0 then (if 0 ≤ t123 then (if t123 < (x115001.length:Int) then (if (rd x115001 t123) > x10 then (impl_HardestGoal.l0 k x29 (rd x115001 t123) x11 x28 (wrap64 (x29 + 1)) x115000 x115001 x115002 x115003) else (impl_HardestGoal.l0 k x9 x10 x11 x28 (wrap64 (x29 + 1)) x115000 x115001 x115002 x115003)) else (none)) else (none)) else (impl_HardestGoal.l0 k x9 x10 x11 x28 (wrap64 (x29 + 1)) x115000 x115001 x115002 x115003))) else (if x10 > 40 then (some (0,0,false)) else (some (x9,x10,true)))
def impl_HardestGoal.f (k:Nat) (a0:ByteArray) (a1:ByteArray):Option (Int × Int × Bool):=(impl_reachWith.f k a0 a1).bind fun bt101=>(if bt101.2.2.2.2 = true then ((impl_reach_cells.f k bt101.1 bt101.2.1 bt101.2.2.1 bt101.2.2.2.1 a1).bind fun t115=>((impl_read.f a0).bind fun bt118=>(impl_HardestGoal.l0 k 0 (-1) t115 (bt118.2.2.length:Int) 0 bt101.1 bt101.2.1 bt101.2.2.1 bt101.2.2.2.1))) else (some (0,0,false)))
theorem impl_HardestGoal.mono_l:∀ k,(∀ y0 y1 y2 y3 y4 y5 y6 y7 y8,LeO (impl_HardestGoal.l0 k y0 y1 y2 y3 y4 y5 y6 y7 y8) (impl_HardestGoal.l0 (k + 1) y0 y1 y2 y3 y4 y5 y6 y7 y8))
 | 0=>fun _ _ _ _ _ _ _ _ _ r h=>by simp [impl_HardestGoal.l0] at h
 | k + 1=>by
  have ih0:=impl_HardestGoal.mono_l k
  ·intro y0 y1 y2 y3 y4 y5 y6 y7 y8
   unfold impl_HardestGoal.l0
   have im0:=@impl_reachWith.mono;have im1:=@impl_reach_cells.mono;have im2:=@slices_Index_int_int.mono;exact mo
set_option maxHeartbeats 8000000 in
set_option maxRecDepth 100000 in
theorem impl_HardestGoal.calls (k:Nat) (a0:ByteArray) (a1:ByteArray) (r1:Int) (r2:Int) (r3:Bool) (w:World) (h:impl_HardestGoal.f k a0 a1 = some (r1,r2,r3)) :
  Calls Tryz.prog 15 #[.string a0,.string a1] w fun e w'=>e = .returned (.tuple #[.int .i64 r1,.int .i64 r2,.bool r3]) ∧ Below w.heap.size w w':=by
 have hu59:=Tryz.underlying59
 have hfd65_2:∀ (x0_ x1_ x2_:Value) (W:World),(Instr.field 65 (.agg #[x0_,x1_,x2_]) 2).run Tryz.prog W = .ok x2_ W:=fun _ _ _  _=>by kernel_rfl
 have HB:=am (Below.refl w.heap.size w)
 have H:((impl_reachWith.f k a0 a1).bind fun bt101=>(if bt101.2.2.2.2 = true then ((impl_reach_cells.f k bt101.1 bt101.2.1 bt101.2.2.1 bt101.2.2.2.1 a1).bind fun t115=>((impl_read.f a0).bind fun bt118=>(impl_HardestGoal.l0 k 0 (-1) t115 (bt118.2.2.length:Int) 0 bt101.1 bt101.2.1 bt101.2.2.1 bt101.2.2.2.1))) else (some (0,0,false)))) = some (r1,r2,r3):=h
 clear h
 replace H:=Option.bind_eq_some_iff.mp H
 obtain ⟨⟨t101,t104,t107,t110,t113⟩,A30,H⟩:=H
 replace H:(if t113 = true then ((impl_reach_cells.f k t101 t104 t107 t110 a1).bind fun t115=>((impl_read.f a0).bind fun bt118=>(impl_HardestGoal.l0 k 0 (-1) t115 (bt118.2.2.length:Int) 0 t101 t104 t107 t110))) else (some (0,0,false))) = some (r1,r2,r3):=H
 have A3:=am A30
 clear A30
 by_cases c4:t113 = true
 rotate_left
 ·replace c4:=Bool.eq_false_iff.mpr c4
  subst c4
  rw [if_neg Bool.false_ne_true] at H
  simp only [Option.some.injEq,Prod.mk.injEq] at H
  obtain ⟨rfl,rfl,rfl⟩:=H
  go_enter Tryz.func15,Tryz.ntmps15
  go_wp2_with (first | (go_at_call 49;(with_reducible refine (impl_reachWith.calls k a0 a1 t101 t104 t107 t110 false _ A3.out).mono ?_);rintro e w29 ⟨v102,v105,v108,v111,rfl,ho0,ho1,ho2,ho3,hb⟩;have HO103:=am (Kd.R_lower ho0 (below_size aq1));have HO106:=am (Kd.R_lower ho1 (below_size aq1));have HO109:=am (Kd.S_lower ho2 (below_size aq1));have HO112:=am (Kd.R_lower ho3 (below_size aq1));replace HB:=am (below_step aq1 hb);(try clear hb);(try clear ho0);(try clear ho1);(try clear ho2);(try clear ho3)) | (refine bx 7 #[.slice none 0 0,.slice none 0 0,.slice none 0 0,.slice none 0 0] 59 ?_;intro gb114 hg w30 hbox hb;replace HO103:=am (Kd.R_below aq24 hb);replace HO106:=am (Kd.R_below aq28 hb);replace HO109:=am (Kd.S_below aq32 hb);replace HO112:=am (Kd.R_below aq25 hb);have BK114:=am (hbox);have GW114:=am ((by rw [hg];exact (below_size aq1):w.heap.size ≤ gb114));have GE114:=GW114;replace HB:=am (below_step aq1 hb);clear hb hbox hg;obtain ⟨Ao31,co31,eo31⟩:=Kd.R_slice HO103.out;subst eo31;obtain ⟨hcz32_0,hcz32_1,hcz32_2,hcz32_3,hfz32_0,hfz32_1,hfz32_2,hfz32_3⟩:=blk4_ BK114.out;obtain ⟨Ao33,co33,eo33⟩:=Kd.R_slice HO106.out;subst eo33;obtain ⟨Ao34,co34,eo34⟩:=Kd.S_slice HO109.out;subst eo34;obtain ⟨Ao35,co35,eo35⟩:=Kd.R_slice HO112.out;subst eo35))
  repeat (go_quiet (first | (go_at_call 49;(with_reducible refine (impl_reachWith.calls k a0 a1 t101 t104 t107 t110 false _ A3.out).mono ?_);rintro e w29 ⟨v102,v105,v108,v111,rfl,ho0,ho1,ho2,ho3,hb⟩;have HO103:=am (Kd.R_lower ho0 (below_size aq1));have HO106:=am (Kd.R_lower ho1 (below_size aq1));have HO109:=am (Kd.S_lower ho2 (below_size aq1));have HO112:=am (Kd.R_lower ho3 (below_size aq1));replace HB:=am (below_step aq1 hb);(try clear hb);(try clear ho0);(try clear ho1);(try clear ho2);(try clear ho3)) | (refine bx 7 #[.slice none 0 0,.slice none 0 0,.slice none 0 0,.slice none 0 0] 59 ?_;intro gb114 hg w30 hbox hb;replace HO103:=am (Kd.R_below aq24 hb);replace HO106:=am (Kd.R_below aq28 hb);replace HO109:=am (Kd.S_below aq32 hb);replace HO112:=am (Kd.R_below aq25 hb);have BK114:=am (hbox);have GW114:=am ((by rw [hg];exact (below_size aq1):w.heap.size ≤ gb114));have GE114:=GW114;replace HB:=am (below_step aq1 hb);clear hb hbox hg;obtain ⟨Ao31,co31,eo31⟩:=Kd.R_slice HO103.out;subst eo31;obtain ⟨hcz32_0,hcz32_1,hcz32_2,hcz32_3,hfz32_0,hfz32_1,hfz32_2,hfz32_3⟩:=blk4_ BK114.out;obtain ⟨Ao33,co33,eo33⟩:=Kd.R_slice HO106.out;subst eo33;obtain ⟨Ao34,co34,eo34⟩:=Kd.S_slice HO109.out;subst eo34;obtain ⟨Ao35,co35,eo35⟩:=Kd.R_slice HO112.out;subst eo35));try go_wp2_with (first | (go_at_call 49;(with_reducible refine (impl_reachWith.calls k a0 a1 t101 t104 t107 t110 false _ A3.out).mono ?_);rintro e w29 ⟨v102,v105,v108,v111,rfl,ho0,ho1,ho2,ho3,hb⟩;have HO103:=am (Kd.R_lower ho0 (below_size aq1));have HO106:=am (Kd.R_lower ho1 (below_size aq1));have HO109:=am (Kd.S_lower ho2 (below_size aq1));have HO112:=am (Kd.R_lower ho3 (below_size aq1));replace HB:=am (below_step aq1 hb);(try clear hb);(try clear ho0);(try clear ho1);(try clear ho2);(try clear ho3)) | (refine bx 7 #[.slice none 0 0,.slice none 0 0,.slice none 0 0,.slice none 0 0] 59 ?_;intro gb114 hg w30 hbox hb;replace HO103:=am (Kd.R_below aq24 hb);replace HO106:=am (Kd.R_below aq28 hb);replace HO109:=am (Kd.S_below aq32 hb);replace HO112:=am (Kd.R_below aq25 hb);have BK114:=am (hbox);have GW114:=am ((by rw [hg];exact (below_size aq1):w.heap.size ≤ gb114));have GE114:=GW114;replace HB:=am (below_step aq1 hb);clear hb hbox hg;obtain ⟨Ao31,co31,eo31⟩:=Kd.R_slice HO103.out;subst eo31;obtain ⟨hcz32_0,hcz32_1,hcz32_2,hcz32_3,hfz32_0,hfz32_1,hfz32_2,hfz32_3⟩:=blk4_ BK114.out;obtain ⟨Ao33,co33,eo33⟩:=Kd.R_slice HO106.out;subst eo33;obtain ⟨Ao34,co34,eo34⟩:=Kd.S_slice HO109.out;subst eo34;obtain ⟨Ao35,co35,eo35⟩:=Kd.R_slice HO112.out;subst eo35)))
  go_ret3
  exact ⟨aq8,aq12⟩
 subst c4
 rw [if_pos rfl] at H
 obtain ⟨t115,A50,H⟩:=Option.bind_eq_some_iff.mp H
 have A5:=am A50
 clear A50
 replace H:=Option.bind_eq_some_iff.mp H
 obtain ⟨⟨t118,t119,t120⟩,A60,H⟩:=H
 replace H:(impl_HardestGoal.l0 k 0 (-1) t115 (t120.length:Int) 0 t101 t104 t107 t110) = some (r1,r2,r3):=H
 have A6:=am A60
 clear A60
 have H':=am H
 clear H
 go_enter Tryz.func15,Tryz.ntmps15
 go_wp2_with (first | (go_at_call 49;(with_reducible refine (impl_reachWith.calls k a0 a1 t101 t104 t107 t110 true _ A3.out).mono ?_);rintro e w7 ⟨v102,v105,v108,v111,rfl,ho0,ho1,ho2,ho3,hb⟩;have HO103:=am (Kd.R_lower ho0 (below_size aq1));have HO106:=am (Kd.R_lower ho1 (below_size aq1));have HO109:=am (Kd.S_lower ho2 (below_size aq1));have HO112:=am (Kd.R_lower ho3 (below_size aq1));replace HB:=am (below_step aq1 hb);(try clear hb);(try clear ho0);(try clear ho1);(try clear ho2);(try clear ho3)) | (refine bx 7 #[.slice none 0 0,.slice none 0 0,.slice none 0 0,.slice none 0 0] 59 ?_;intro gb114 hg w8 hbox hb;replace HO103:=am (Kd.R_below aq24 hb);replace HO106:=am (Kd.R_below aq28 hb);replace HO109:=am (Kd.S_below aq32 hb);replace HO112:=am (Kd.R_below aq25 hb);have BK114:=am (hbox);have GW114:=am ((by rw [hg];exact (below_size aq1):w.heap.size ≤ gb114));have GE114:=GW114;replace HB:=am (below_step aq1 hb);clear hb hbox hg;obtain ⟨Ao9,co9,eo9⟩:=Kd.R_slice HO103.out;subst eo9;obtain ⟨hcz10_0,hcz10_1,hcz10_2,hcz10_3,hfz10_0,hfz10_1,hfz10_2,hfz10_3⟩:=blk4_ BK114.out;obtain ⟨Ao11,co11,eo11⟩:=Kd.R_slice HO106.out;subst eo11;obtain ⟨Ao12,co12,eo12⟩:=Kd.S_slice HO109.out;subst eo12;obtain ⟨Ao13,co13,eo13⟩:=Kd.R_slice HO112.out;subst eo13) | (go_at_call 50;(with_reducible refine (impl_reach_cells.calls k _ _ t101 _ _ t104 _ _ t107 _ _ t110 a1 t115 _ ?side1 ?side2 ?side3 ?side4 ?side5 ?side6 ?side7 ?side8 A5.out).mono ?_);(case side1=>exact aq56);(case side2=>exact (Kd.R_reads' HO103.out).2.1);(case side3=>exact aq67);(case side4=>exact (Kd.R_reads' HO106.out).2.1);(case side5=>exact aq55);(case side6=>exact (Kd.S_reads' HO109.out).2.1);(case side7=>exact aq57);(case side8=>exact (Kd.R_reads' HO112.out).2.1);rintro e w14 ⟨v116,rfl,ho0,hb⟩;replace HO103:=am (Kd.R_below aq15 hb);replace HO109:=am (Kd.S_elder' aq13 (Kd.R_base ho0) hb);replace HO112:=am (Kd.R_below aq14 hb);have HO117:=am (Kd.R_lower (Kd.R_new' ho0 (Kd.R_lt aq9)) (below_size aq12));replace HO106:=am (Kd.R_elder' aq9 (Kd.R_base ho0) hb);replace BK114:=am (blk_below (g:=gb114) (o:=.cells #[.slice Ao9 t101.length co9,.slice Ao11 t104.length co11,.slice Ao12 t107.length co12,.slice Ao13 t110.length co13] 59 (0,0)) aq18 hb);replace HB:=am (below_step aq12 hb);(try clear hb);(try clear ho0)) | (go_at_call 51;(with_reducible refine (impl_read.calls a0 t118 t119 t120 _ A6.out).mono ?_);rintro e w15 ⟨v121,rfl,ho0,hb⟩;have HO122:=am (Kd.V_lower (Kd.V_mono (ok':=fun k_=>some k_ ≠ (.slice Ao9 t101.length co9:Value).ownBlock ∧ some k_ ≠ (.slice Ao11 t104.length co11:Value).ownBlock ∧ some k_ ≠ (.slice Ao12 t107.length co12:Value).ownBlock ∧ some k_ ≠ (.slice Ao13 t110.length co13:Value).ownBlock ∧ some k_ ≠ (v116:Value).ownBlock ∧ k_ ≠ gb114) ho0 (fun k_ hk_=>⟨(Kd.fresh' (Kd.R_lt aq24) k_ hk_),(Kd.fresh' (Kd.R_lt aq28) k_ hk_),(Kd.fresh' (Kd.S_lt aq32) k_ hk_),(Kd.fresh' (Kd.R_lt aq25) k_ hk_),(Kd.fresh' (Kd.R_lt aq42) k_ hk_),(Kd.freshB (g:=gb114) (o:=.cells #[.slice Ao9 t101.length co9,.slice Ao11 t104.length co11,.slice Ao12 t107.length co12,.slice Ao13 t110.length co13] 59 (0,0)) aq34 k_ hk_)⟩)) (below_size aq12));replace HO103:=am (Kd.R_below aq24 hb);replace HO106:=am (Kd.R_below aq28 hb);replace HO109:=am (Kd.S_below aq32 hb);replace HO112:=am (Kd.R_below aq25 hb);replace HO117:=am (Kd.R_below aq42 hb);replace BK114:=am (bb BK114 hb);replace HB:=am (below_step aq12 hb);(try clear hb);(try clear ho0);obtain ⟨Ao16,co16,eo16⟩:=Kd.V_slice HO122.out;subst eo16))
 repeat (go_quiet (first | (go_at_call 49;(with_reducible refine (impl_reachWith.calls k a0 a1 t101 t104 t107 t110 true _ A3.out).mono ?_);rintro e w7 ⟨v102,v105,v108,v111,rfl,ho0,ho1,ho2,ho3,hb⟩;have HO103:=am (Kd.R_lower ho0 (below_size aq1));have HO106:=am (Kd.R_lower ho1 (below_size aq1));have HO109:=am (Kd.S_lower ho2 (below_size aq1));have HO112:=am (Kd.R_lower ho3 (below_size aq1));replace HB:=am (below_step aq1 hb);(try clear hb);(try clear ho0);(try clear ho1);(try clear ho2);(try clear ho3)) | (refine bx 7 #[.slice none 0 0,.slice none 0 0,.slice none 0 0,.slice none 0 0] 59 ?_;intro gb114 hg w8 hbox hb;replace HO103:=am (Kd.R_below aq24 hb);replace HO106:=am (Kd.R_below aq28 hb);replace HO109:=am (Kd.S_below aq32 hb);replace HO112:=am (Kd.R_below aq25 hb);have BK114:=am (hbox);have GW114:=am ((by rw [hg];exact (below_size aq1):w.heap.size ≤ gb114));have GE114:=GW114;replace HB:=am (below_step aq1 hb);clear hb hbox hg;obtain ⟨Ao9,co9,eo9⟩:=Kd.R_slice HO103.out;subst eo9;obtain ⟨hcz10_0,hcz10_1,hcz10_2,hcz10_3,hfz10_0,hfz10_1,hfz10_2,hfz10_3⟩:=blk4_ BK114.out;obtain ⟨Ao11,co11,eo11⟩:=Kd.R_slice HO106.out;subst eo11;obtain ⟨Ao12,co12,eo12⟩:=Kd.S_slice HO109.out;subst eo12;obtain ⟨Ao13,co13,eo13⟩:=Kd.R_slice HO112.out;subst eo13) | (go_at_call 50;(with_reducible refine (impl_reach_cells.calls k _ _ t101 _ _ t104 _ _ t107 _ _ t110 a1 t115 _ ?side1 ?side2 ?side3 ?side4 ?side5 ?side6 ?side7 ?side8 A5.out).mono ?_);(case side1=>exact aq56);(case side2=>exact (Kd.R_reads' HO103.out).2.1);(case side3=>exact aq67);(case side4=>exact (Kd.R_reads' HO106.out).2.1);(case side5=>exact aq55);(case side6=>exact (Kd.S_reads' HO109.out).2.1);(case side7=>exact aq57);(case side8=>exact (Kd.R_reads' HO112.out).2.1);rintro e w14 ⟨v116,rfl,ho0,hb⟩;replace HO103:=am (Kd.R_below aq15 hb);replace HO109:=am (Kd.S_elder' aq13 (Kd.R_base ho0) hb);replace HO112:=am (Kd.R_below aq14 hb);have HO117:=am (Kd.R_lower (Kd.R_new' ho0 (Kd.R_lt aq9)) (below_size aq12));replace HO106:=am (Kd.R_elder' aq9 (Kd.R_base ho0) hb);replace BK114:=am (blk_below (g:=gb114) (o:=.cells #[.slice Ao9 t101.length co9,.slice Ao11 t104.length co11,.slice Ao12 t107.length co12,.slice Ao13 t110.length co13] 59 (0,0)) aq18 hb);replace HB:=am (below_step aq12 hb);(try clear hb);(try clear ho0)) | (go_at_call 51;(with_reducible refine (impl_read.calls a0 t118 t119 t120 _ A6.out).mono ?_);rintro e w15 ⟨v121,rfl,ho0,hb⟩;have HO122:=am (Kd.V_lower (Kd.V_mono (ok':=fun k_=>some k_ ≠ (.slice Ao9 t101.length co9:Value).ownBlock ∧ some k_ ≠ (.slice Ao11 t104.length co11:Value).ownBlock ∧ some k_ ≠ (.slice Ao12 t107.length co12:Value).ownBlock ∧ some k_ ≠ (.slice Ao13 t110.length co13:Value).ownBlock ∧ some k_ ≠ (v116:Value).ownBlock ∧ k_ ≠ gb114) ho0 (fun k_ hk_=>⟨(Kd.fresh' (Kd.R_lt aq24) k_ hk_),(Kd.fresh' (Kd.R_lt aq28) k_ hk_),(Kd.fresh' (Kd.S_lt aq32) k_ hk_),(Kd.fresh' (Kd.R_lt aq25) k_ hk_),(Kd.fresh' (Kd.R_lt aq42) k_ hk_),(Kd.freshB (g:=gb114) (o:=.cells #[.slice Ao9 t101.length co9,.slice Ao11 t104.length co11,.slice Ao12 t107.length co12,.slice Ao13 t110.length co13] 59 (0,0)) aq34 k_ hk_)⟩)) (below_size aq12));replace HO103:=am (Kd.R_below aq24 hb);replace HO106:=am (Kd.R_below aq28 hb);replace HO109:=am (Kd.S_below aq32 hb);replace HO112:=am (Kd.R_below aq25 hb);replace HO117:=am (Kd.R_below aq42 hb);replace BK114:=am (bb BK114 hb);replace HB:=am (below_step aq12 hb);(try clear hb);(try clear ho0);obtain ⟨Ao16,co16,eo16⟩:=Kd.V_slice HO122.out;subst eo16));try go_wp2_with (first | (go_at_call 49;(with_reducible refine (impl_reachWith.calls k a0 a1 t101 t104 t107 t110 true _ A3.out).mono ?_);rintro e w7 ⟨v102,v105,v108,v111,rfl,ho0,ho1,ho2,ho3,hb⟩;have HO103:=am (Kd.R_lower ho0 (below_size aq1));have HO106:=am (Kd.R_lower ho1 (below_size aq1));have HO109:=am (Kd.S_lower ho2 (below_size aq1));have HO112:=am (Kd.R_lower ho3 (below_size aq1));replace HB:=am (below_step aq1 hb);(try clear hb);(try clear ho0);(try clear ho1);(try clear ho2);(try clear ho3)) | (refine bx 7 #[.slice none 0 0,.slice none 0 0,.slice none 0 0,.slice none 0 0] 59 ?_;intro gb114 hg w8 hbox hb;replace HO103:=am (Kd.R_below aq24 hb);replace HO106:=am (Kd.R_below aq28 hb);replace HO109:=am (Kd.S_below aq32 hb);replace HO112:=am (Kd.R_below aq25 hb);have BK114:=am (hbox);have GW114:=am ((by rw [hg];exact (below_size aq1):w.heap.size ≤ gb114));have GE114:=GW114;replace HB:=am (below_step aq1 hb);clear hb hbox hg;obtain ⟨Ao9,co9,eo9⟩:=Kd.R_slice HO103.out;subst eo9;obtain ⟨hcz10_0,hcz10_1,hcz10_2,hcz10_3,hfz10_0,hfz10_1,hfz10_2,hfz10_3⟩:=blk4_ BK114.out;obtain ⟨Ao11,co11,eo11⟩:=Kd.R_slice HO106.out;subst eo11;obtain ⟨Ao12,co12,eo12⟩:=Kd.S_slice HO109.out;subst eo12;obtain ⟨Ao13,co13,eo13⟩:=Kd.R_slice HO112.out;subst eo13) | (go_at_call 50;(with_reducible refine (impl_reach_cells.calls k _ _ t101 _ _ t104 _ _ t107 _ _ t110 a1 t115 _ ?side1 ?side2 ?side3 ?side4 ?side5 ?side6 ?side7 ?side8 A5.out).mono ?_);(case side1=>exact aq56);(case side2=>exact (Kd.R_reads' HO103.out).2.1);(case side3=>exact aq67);(case side4=>exact (Kd.R_reads' HO106.out).2.1);(case side5=>exact aq55);(case side6=>exact (Kd.S_reads' HO109.out).2.1);(case side7=>exact aq57);(case side8=>exact (Kd.R_reads' HO112.out).2.1);rintro e w14 ⟨v116,rfl,ho0,hb⟩;replace HO103:=am (Kd.R_below aq15 hb);replace HO109:=am (Kd.S_elder' aq13 (Kd.R_base ho0) hb);replace HO112:=am (Kd.R_below aq14 hb);have HO117:=am (Kd.R_lower (Kd.R_new' ho0 (Kd.R_lt aq9)) (below_size aq12));replace HO106:=am (Kd.R_elder' aq9 (Kd.R_base ho0) hb);replace BK114:=am (blk_below (g:=gb114) (o:=.cells #[.slice Ao9 t101.length co9,.slice Ao11 t104.length co11,.slice Ao12 t107.length co12,.slice Ao13 t110.length co13] 59 (0,0)) aq18 hb);replace HB:=am (below_step aq12 hb);(try clear hb);(try clear ho0)) | (go_at_call 51;(with_reducible refine (impl_read.calls a0 t118 t119 t120 _ A6.out).mono ?_);rintro e w15 ⟨v121,rfl,ho0,hb⟩;have HO122:=am (Kd.V_lower (Kd.V_mono (ok':=fun k_=>some k_ ≠ (.slice Ao9 t101.length co9:Value).ownBlock ∧ some k_ ≠ (.slice Ao11 t104.length co11:Value).ownBlock ∧ some k_ ≠ (.slice Ao12 t107.length co12:Value).ownBlock ∧ some k_ ≠ (.slice Ao13 t110.length co13:Value).ownBlock ∧ some k_ ≠ (v116:Value).ownBlock ∧ k_ ≠ gb114) ho0 (fun k_ hk_=>⟨(Kd.fresh' (Kd.R_lt aq24) k_ hk_),(Kd.fresh' (Kd.R_lt aq28) k_ hk_),(Kd.fresh' (Kd.S_lt aq32) k_ hk_),(Kd.fresh' (Kd.R_lt aq25) k_ hk_),(Kd.fresh' (Kd.R_lt aq42) k_ hk_),(Kd.freshB (g:=gb114) (o:=.cells #[.slice Ao9 t101.length co9,.slice Ao11 t104.length co11,.slice Ao12 t107.length co12,.slice Ao13 t110.length co13] 59 (0,0)) aq34 k_ hk_)⟩)) (below_size aq12));replace HO103:=am (Kd.R_below aq24 hb);replace HO106:=am (Kd.R_below aq28 hb);replace HO109:=am (Kd.S_below aq32 hb);replace HO112:=am (Kd.R_below aq25 hb);replace HO117:=am (Kd.R_below aq42 hb);replace BK114:=am (bb BK114 hb);replace HB:=am (below_step aq12 hb);(try clear hb);(try clear ho0);obtain ⟨Ao16,co16,eo16⟩:=Kd.V_slice HO122.out;subst eo16)))
 go_loopg [9,10,29] k (fun kq v9 v10 v29 w'=>∃ (x9_1:Int) (x10_1:Int) (x29_1:Int),v9 = .int .i64 x9_1 ∧ v10 = .int .i64 x10_1 ∧ v29 = .int .i64 x29_1 ∧ Aside0 (impl_HardestGoal.l0 kq x9_1 x10_1 t115 (t120.length:Int) x29_1 t101 t104 t107 t110 = some (r1,r2,r3)) ∧ Aside0 (kq ≤ k) ∧ Aside0 (Kd.R (Kd.int .i64) 3 w' w.heap.size (fun k_=>some k_ ≠ ((.slice Ao11 t104.length co11):Value).ownBlock) v116 t115) ∧ Aside0 (Kd.R Kd.string 9 w' w.heap.size (fun k_=>some k_ ≠ ((.slice Ao13 t110.length co13):Value).ownBlock) (.slice Ao9 t101.length co9) t101) ∧ Aside0 (Kd.R (Kd.int .i64) 3 w' w.heap.size (fun k_=>some k_ ≠ (v116:Value).ownBlock) (.slice Ao11 t104.length co11) t104) ∧ Aside0 (Kd.S (Kd.slice 3 (Kd.int .i64)) 40 w' w.heap.size (fun k_=>some k_ ≠ (v116:Value).ownBlock ∧ some k_ ≠ ((.slice Ao11 t104.length co11):Value).ownBlock) (.slice Ao12 t107.length co12) t107) ∧ Aside0 (Kd.R Kd.string 9 w' w.heap.size (fun k_=>some k_ ≠ ((.slice Ao9 t101.length co9):Value).ownBlock) (.slice Ao13 t110.length co13) t110) ∧ Aside0 (w'.heap[gb114]? = some (.cells #[(.slice Ao9 t101.length co9),(.slice Ao11 t104.length co11),(.slice Ao12 t107.length co12),(.slice Ao13 t110.length co13)] 59 (0,0))) ∧ Aside0 (Below w.heap.size w w'))
 case atStart=>exact ⟨(0),((-1)),(0),aq7,aq7,aq7,H',⟨Nat.le_refl _⟩,⟨by (with_reducible repeat (first | apply Kd.R_alloc | apply Kd.R_drewN | apply Kd.R_drew));exact Kd.R_mono HO117.out (fun _ hk=>hk.2)⟩,⟨aq24⟩,⟨by (with_reducible repeat (first | apply Kd.R_alloc | apply Kd.R_drewN | apply Kd.R_drew));exact Kd.R_mono HO106.out (fun _ hk=>hk.2)⟩,⟨by (with_reducible repeat (first | apply Kd.S_alloc | apply Kd.S_drewN | apply Kd.S_drew));exact Kd.S_mono HO109.out (fun _ hk=>⟨hk.2,hk.1⟩)⟩,⟨aq25⟩,⟨aq34⟩,⟨aq12⟩⟩
 case round =>
  clear H'
  try clear c1
  try clear p2
  try clear c4
  try clear c15
  try clear hcz10_0
  try clear hcz10_1
  try clear hcz10_2
  try clear hcz10_3
  try clear hfz10_0
  try clear hfz10_1
  try clear hfz10_2
  try clear hfz10_3
  obtain ⟨x9_1,x10_1,x29_1,rfl,rfl,rfl,HA,HK1,HO_11,HO_115000,HO_115001,HO_115002,HO_115003,BK114,HB⟩:=hrel
  cases gk with
  | zero=>exact absurd HA.out (by simp [impl_HardestGoal.l0])
  | succ k1 =>
   have H:=HA.out
   clear HA
   simp only [impl_HardestGoal.l0] at H
   by_cases c17:x29_1 < (t120.length:Int)
   rotate_left
   ·rw [if_neg c17] at H
    have c17b0:=decide_eq_false c17
    clear c17
    by_cases c28:x10_1 > 40
    rotate_left
    ·rw [if_neg c28] at H
     have c28b0:=decide_eq_false c28
     clear c28
     simp only [Option.some.injEq,Prod.mk.injEq] at H
     obtain ⟨rfl,rfl,rfl⟩:=H
     go_wp2
     repeat (go_quiet (fail);try go_wp2)
     go_ret3
     exact ⟨aq8,aq12⟩
    rw [if_pos c28] at H
    have c28b0:=decide_eq_true c28
    clear c28
    simp only [Option.some.injEq,Prod.mk.injEq] at H
    obtain ⟨rfl,rfl,rfl⟩:=H
    go_wp2
    repeat (go_quiet (fail);try go_wp2)
    go_ret3
    exact ⟨aq8,aq12⟩
   rw [if_pos c17] at H
   have c17b0:=decide_eq_true c17
   clear c17
   obtain ⟨t123,A180,H⟩:=Option.bind_eq_some_iff.mp H
   have A18:=am A180
   clear A180
   by_cases c19:t123 ≥ 0
   rotate_left
   ·rw [if_neg c19] at H
    have c19b0:=decide_eq_false c19
    clear c19
    have H':=am H
    clear H
    obtain ⟨Ao27,co27,eo27⟩:=Kd.R_slice HO_11.out
    subst eo27
    go_wp2_with (first | (go_at_call 52;(with_reducible refine (slices_Index_int_int.calls k1 _ _ t115 x29_1 t123 _ ?side1 ?side2 A18.out).mono ?_);(case side1=>exact aq27);(case side2=>exact aq81);rintro e w' ⟨rfl,⟨nd,rfl⟩⟩;(try first | exact ⟨rfl,_,World.drewN_drewN _ _ _⟩ | exact ⟨rfl,_,Eq.trans (World.drewN_drewN _ _ _) (congrArg (World.drewN _) (Nat.add_assoc _ _ _))⟩)))
    repeat (go_quiet (first | (go_at_call 52;(with_reducible refine (slices_Index_int_int.calls k1 _ _ t115 x29_1 t123 _ ?side1 ?side2 A18.out).mono ?_);(case side1=>exact aq27);(case side2=>exact aq81);rintro e w' ⟨rfl,⟨nd,rfl⟩⟩;(try first | exact ⟨rfl,_,World.drewN_drewN _ _ _⟩ | exact ⟨rfl,_,Eq.trans (World.drewN_drewN _ _ _) (congrArg (World.drewN _) (Nat.add_assoc _ _ _))⟩)));try go_wp2_with (first | (go_at_call 52;(with_reducible refine (slices_Index_int_int.calls k1 _ _ t115 x29_1 t123 _ ?side1 ?side2 A18.out).mono ?_);(case side1=>exact aq27);(case side2=>exact aq81);rintro e w' ⟨rfl,⟨nd,rfl⟩⟩;(try first | exact ⟨rfl,_,World.drewN_drewN _ _ _⟩ | exact ⟨rfl,_,Eq.trans (World.drewN_drewN _ _ _) (congrArg (World.drewN _) (Nat.add_assoc _ _ _))⟩))))
    go_roundg k1
    case measure=>have:=HK1.out;omega
    case rel=>exact ⟨(x9_1),(x10_1),(wrap64 (x29_1 + 1)),aq7,aq7,aq7,H',⟨aq53⟩,⟨aq74⟩,⟨aq71⟩,⟨aq70⟩,⟨aq68⟩,⟨aq69⟩,⟨aq34⟩,⟨aq12⟩⟩
   rw [if_pos c19] at H
   have c19b0:=decide_eq_true c19
   clear c19
   by_cases c20:0 ≤ t123
   rotate_left
   ·rw [if_neg c20] at H
    exact absurd H (by simp)
   rw [if_pos c20] at H
   have c20b0:=decide_eq_true c20
   clear c20
   by_cases c21:t123 < (t104.length:Int)
   rotate_left
   ·rw [if_neg c21] at H
    exact absurd H (by simp)
   rw [if_pos c21] at H
   have c21b0:=decide_eq_true c21
   clear c21
   by_cases c22:(rd t104 t123) > x10_1
   rotate_left
   ·rw [if_neg c22] at H
    have c22b0:=decide_eq_false c22
    clear c22
    have H':=am H
    clear H
    obtain ⟨Ao25,co25,eo25⟩:=Kd.R_slice HO_11.out
    subst eo25
    go_wp2_with (first | (go_at_call 52;(with_reducible refine (slices_Index_int_int.calls k1 _ _ t115 x29_1 t123 _ ?side1 ?side2 A18.out).mono ?_);(case side1=>exact aq27);(case side2=>exact aq81);rintro e w' ⟨rfl,⟨nd,rfl⟩⟩;(try first | exact ⟨rfl,_,World.drewN_drewN _ _ _⟩ | exact ⟨rfl,_,Eq.trans (World.drewN_drewN _ _ _) (congrArg (World.drewN _) (Nat.add_assoc _ _ _))⟩);obtain ⟨hcz26_0,hcz26_1,hcz26_2,hcz26_3,hfz26_0,hfz26_1,hfz26_2,hfz26_3⟩:=blk4_ BK114.out;have p124:0 ≤ (t123:Int):=of_decide_eq_true aq4;have q124:t123 < (t104.length:Int):=of_decide_eq_true aq4;obtain ⟨ad124,e124,hx124_0⟩:=Kd.at_int (Kd.R_reads' HO_115001.out).2.2 t123 p124 q124;cases e124;replace p124:=eq_true p124;replace q124:=eq_true q124))
    repeat (go_quiet (first | (go_at_call 52;(with_reducible refine (slices_Index_int_int.calls k1 _ _ t115 x29_1 t123 _ ?side1 ?side2 A18.out).mono ?_);(case side1=>exact aq27);(case side2=>exact aq81);rintro e w' ⟨rfl,⟨nd,rfl⟩⟩;(try first | exact ⟨rfl,_,World.drewN_drewN _ _ _⟩ | exact ⟨rfl,_,Eq.trans (World.drewN_drewN _ _ _) (congrArg (World.drewN _) (Nat.add_assoc _ _ _))⟩);obtain ⟨hcz26_0,hcz26_1,hcz26_2,hcz26_3,hfz26_0,hfz26_1,hfz26_2,hfz26_3⟩:=blk4_ BK114.out;have p124:0 ≤ (t123:Int):=of_decide_eq_true aq4;have q124:t123 < (t104.length:Int):=of_decide_eq_true aq4;obtain ⟨ad124,e124,hx124_0⟩:=Kd.at_int (Kd.R_reads' HO_115001.out).2.2 t123 p124 q124;cases e124;replace p124:=eq_true p124;replace q124:=eq_true q124));try go_wp2_with (first | (go_at_call 52;(with_reducible refine (slices_Index_int_int.calls k1 _ _ t115 x29_1 t123 _ ?side1 ?side2 A18.out).mono ?_);(case side1=>exact aq27);(case side2=>exact aq81);rintro e w' ⟨rfl,⟨nd,rfl⟩⟩;(try first | exact ⟨rfl,_,World.drewN_drewN _ _ _⟩ | exact ⟨rfl,_,Eq.trans (World.drewN_drewN _ _ _) (congrArg (World.drewN _) (Nat.add_assoc _ _ _))⟩);obtain ⟨hcz26_0,hcz26_1,hcz26_2,hcz26_3,hfz26_0,hfz26_1,hfz26_2,hfz26_3⟩:=blk4_ BK114.out;have p124:0 ≤ (t123:Int):=of_decide_eq_true aq4;have q124:t123 < (t104.length:Int):=of_decide_eq_true aq4;obtain ⟨ad124,e124,hx124_0⟩:=Kd.at_int (Kd.R_reads' HO_115001.out).2.2 t123 p124 q124;cases e124;replace p124:=eq_true p124;replace q124:=eq_true q124)))
    go_roundg k1
    case measure=>have:=HK1.out;omega
    case rel=>exact ⟨(x9_1),(x10_1),(wrap64 (x29_1 + 1)),aq7,aq7,aq7,H',⟨aq53⟩,⟨aq74⟩,⟨aq71⟩,⟨aq70⟩,⟨aq68⟩,⟨aq69⟩,⟨aq34⟩,⟨aq12⟩⟩
   rw [if_pos c22] at H
   have c22b0:=decide_eq_true c22
   clear c22
   have H':=am H
   clear H
   obtain ⟨Ao23,co23,eo23⟩:=Kd.R_slice HO_11.out
   subst eo23
   go_wp2_with (first | (go_at_call 52;(with_reducible refine (slices_Index_int_int.calls k1 _ _ t115 x29_1 t123 _ ?side1 ?side2 A18.out).mono ?_);(case side1=>exact aq27);(case side2=>exact aq81);rintro e w' ⟨rfl,⟨nd,rfl⟩⟩;(try first | exact ⟨rfl,_,World.drewN_drewN _ _ _⟩ | exact ⟨rfl,_,Eq.trans (World.drewN_drewN _ _ _) (congrArg (World.drewN _) (Nat.add_assoc _ _ _))⟩);obtain ⟨hcz24_0,hcz24_1,hcz24_2,hcz24_3,hfz24_0,hfz24_1,hfz24_2,hfz24_3⟩:=blk4_ BK114.out;have p124:0 ≤ (t123:Int):=of_decide_eq_true aq4;have q124:t123 < (t104.length:Int):=of_decide_eq_true aq4;obtain ⟨ad124,e124,hx124_0⟩:=Kd.at_int (Kd.R_reads' HO_115001.out).2.2 t123 p124 q124;cases e124;replace p124:=eq_true p124;replace q124:=eq_true q124;have p125:0 ≤ (t123:Int):=of_decide_eq_true aq4;have q125:t123 < (t104.length:Int):=of_decide_eq_true aq4;obtain ⟨ad125,e125,hx125_0⟩:=Kd.at_int (Kd.R_reads' HO_115001.out).2.2 t123 p125 q125;obtain rfl:ad124 = ad125:=(by injection e125);replace p125:=eq_true p125;replace q125:=eq_true q125))
   repeat (go_quiet (first | (go_at_call 52;(with_reducible refine (slices_Index_int_int.calls k1 _ _ t115 x29_1 t123 _ ?side1 ?side2 A18.out).mono ?_);(case side1=>exact aq27);(case side2=>exact aq81);rintro e w' ⟨rfl,⟨nd,rfl⟩⟩;(try first | exact ⟨rfl,_,World.drewN_drewN _ _ _⟩ | exact ⟨rfl,_,Eq.trans (World.drewN_drewN _ _ _) (congrArg (World.drewN _) (Nat.add_assoc _ _ _))⟩);obtain ⟨hcz24_0,hcz24_1,hcz24_2,hcz24_3,hfz24_0,hfz24_1,hfz24_2,hfz24_3⟩:=blk4_ BK114.out;have p124:0 ≤ (t123:Int):=of_decide_eq_true aq4;have q124:t123 < (t104.length:Int):=of_decide_eq_true aq4;obtain ⟨ad124,e124,hx124_0⟩:=Kd.at_int (Kd.R_reads' HO_115001.out).2.2 t123 p124 q124;cases e124;replace p124:=eq_true p124;replace q124:=eq_true q124;have p125:0 ≤ (t123:Int):=of_decide_eq_true aq4;have q125:t123 < (t104.length:Int):=of_decide_eq_true aq4;obtain ⟨ad125,e125,hx125_0⟩:=Kd.at_int (Kd.R_reads' HO_115001.out).2.2 t123 p125 q125;obtain rfl:ad124 = ad125:=(by injection e125);replace p125:=eq_true p125;replace q125:=eq_true q125));try go_wp2_with (first | (go_at_call 52;(with_reducible refine (slices_Index_int_int.calls k1 _ _ t115 x29_1 t123 _ ?side1 ?side2 A18.out).mono ?_);(case side1=>exact aq27);(case side2=>exact aq81);rintro e w' ⟨rfl,⟨nd,rfl⟩⟩;(try first | exact ⟨rfl,_,World.drewN_drewN _ _ _⟩ | exact ⟨rfl,_,Eq.trans (World.drewN_drewN _ _ _) (congrArg (World.drewN _) (Nat.add_assoc _ _ _))⟩);obtain ⟨hcz24_0,hcz24_1,hcz24_2,hcz24_3,hfz24_0,hfz24_1,hfz24_2,hfz24_3⟩:=blk4_ BK114.out;have p124:0 ≤ (t123:Int):=of_decide_eq_true aq4;have q124:t123 < (t104.length:Int):=of_decide_eq_true aq4;obtain ⟨ad124,e124,hx124_0⟩:=Kd.at_int (Kd.R_reads' HO_115001.out).2.2 t123 p124 q124;cases e124;replace p124:=eq_true p124;replace q124:=eq_true q124;have p125:0 ≤ (t123:Int):=of_decide_eq_true aq4;have q125:t123 < (t104.length:Int):=of_decide_eq_true aq4;obtain ⟨ad125,e125,hx125_0⟩:=Kd.at_int (Kd.R_reads' HO_115001.out).2.2 t123 p125 q125;obtain rfl:ad124 = ad125:=(by injection e125);replace p125:=eq_true p125;replace q125:=eq_true q125)))
   go_roundg k1
   case measure=>have:=HK1.out;omega
   case rel=>exact ⟨(x29_1),(rd t104 t123),(wrap64 (x29_1 + 1)),aq7,aq7,aq7,H',⟨aq53⟩,⟨aq74⟩,⟨aq71⟩,⟨aq70⟩,⟨aq68⟩,⟨aq69⟩,⟨aq34⟩,⟨aq12⟩⟩
def spec_HardestGoal.f (a0:ByteArray) (a1:ByteArray):Option (Int × Int × Bool):=(spec_puHardest.f a0 a1).bind fun bt101=>(if bt101.2.2 = true then (some (bt101.1,bt101.2.1,true)) else (some (0,0,false)))
set_option maxHeartbeats 8000000 in
set_option maxRecDepth 100000 in
theorem spec_HardestGoal.calls (a0:ByteArray) (a1:ByteArray) (r1:Int) (r2:Int) (r3:Bool) (w:World) (h:spec_HardestGoal.f a0 a1 = some (r1,r2,r3)) :
  Calls Tryz.prog 14 #[.string a0,.string a1] w fun e w'=>e = .returned (.tuple #[.int .i64 r1,.int .i64 r2,.bool r3]) ∧ Below w.heap.size w w':=by
 have HB:=am (Below.refl w.heap.size w)
 have H:((spec_puHardest.f a0 a1).bind fun bt101=>(if bt101.2.2 = true then (some (bt101.1,bt101.2.1,true)) else (some (0,0,false)))) = some (r1,r2,r3):=h
 clear h
 replace H:=Option.bind_eq_some_iff.mp H
 obtain ⟨⟨t101,t102,t103⟩,A30,H⟩:=H
 replace H:(if t103 = true then (some (t101,t102,true)) else (some (0,0,false))) = some (r1,r2,r3):=H
 have A3:=am A30
 clear A30
 by_cases c4:t103 = true
 ·subst c4
  rw [if_pos rfl] at H
  simp only [Option.some.injEq,Prod.mk.injEq] at H
  obtain ⟨rfl,rfl,rfl⟩:=H
  go_enter Tryz.func14,Tryz.ntmps14
  go_wp2_with (first | ((with_reducible refine gate_callee (f:=48) rfl ?_);refine goesL_ (some 13) rfl rfl Tryz.func48 (by kernel_rfl) rfl #[.string a0,.string a1] rfl aq5 ?_;(with_reducible refine (spec_puHardest.calls a0 a1 t101 t102 true _ A3.out).mono ?_);rintro e w5 ⟨rfl,hb⟩;refine ⟨_,rfl,?_⟩;replace HB:=am (below_step aq1 hb);(try clear hb)))
  go_ret3
  exact ⟨aq8,aq1⟩
 replace c4:=Bool.eq_false_iff.mpr c4
 subst c4
 rw [if_neg Bool.false_ne_true] at H
 simp only [Option.some.injEq,Prod.mk.injEq] at H
 obtain ⟨rfl,rfl,rfl⟩:=H
 go_enter Tryz.func14,Tryz.ntmps14
 go_wp2_with (first | ((with_reducible refine gate_callee (f:=48) rfl ?_);refine goesL_ (some 13) rfl rfl Tryz.func48 (by kernel_rfl) rfl #[.string a0,.string a1] rfl aq5 ?_;(with_reducible refine (spec_puHardest.calls a0 a1 t101 t102 false _ A3.out).mono ?_);rintro e w6 ⟨rfl,hb⟩;refine ⟨_,rfl,?_⟩;replace HB:=am (below_step aq1 hb);(try clear hb)))
 go_ret3
 exact ⟨aq8,aq1⟩
def laws_FnExactHardestGoal.f (k:Nat) (a0:ByteArray) (a1:ByteArray):Option (Bool):=if (a0.size:Int) > 1048576 then (some true) else (if (a1.size:Int) > 1048576 then (some true) else ((spec_HardestGoal.f a0 a1).bind fun bt101=>((impl_HardestGoal.f k a0 a1).bind fun bt104=>(if bt104.1 = bt101.1 then (if bt104.2.1 = bt101.2.1 then (if (bt104.2.2 != bt101.2.2) = true then (some false) else (some true)) else (some false)) else (some false)))))
set_option maxHeartbeats 8000000 in
set_option maxRecDepth 100000 in
theorem laws_FnExactHardestGoal.calls (k:Nat) (a0:ByteArray) (a1:ByteArray) (r:Bool) (w:World) (h:laws_FnExactHardestGoal.f k a0 a1 = some r) :
  Calls Tryz.prog 3 #[.string a0,.string a1] w fun e w'=>e = .returned (.bool r) ∧ Below w.heap.size w w':=by
 have HB:=am (Below.refl w.heap.size w)
 have H:(if (a0.size:Int) > 1048576 then (some true) else (if (a1.size:Int) > 1048576 then (some true) else ((spec_HardestGoal.f a0 a1).bind fun bt101=>((impl_HardestGoal.f k a0 a1).bind fun bt104=>(if bt104.1 = bt101.1 then (if bt104.2.1 = bt101.2.1 then (if (bt104.2.2 != bt101.2.2) = true then (some false) else (some true)) else (some false)) else (some false)))))) = some r:=h
 clear h
 by_cases c3:(a0.size:Int) > 1048576
 ·rw [if_pos c3] at H
  have c3b0:=decide_eq_true c3
  have c3b1:decide (1048576 < a0.size) = true:=decide_eq_true (by omega)
  clear c3
  obtain rfl:=Option.some.inj H
  go_enter Tryz.func3,Tryz.ntmps3
  go_wp2
  go_ret
  exact ⟨aq8,aq1⟩
 rw [if_neg c3] at H
 have c3b0:=decide_eq_false c3
 have c3b1:decide (1048576 < a0.size) = false:=decide_eq_false (by omega)
 clear c3
 by_cases c4:(a1.size:Int) > 1048576
 ·rw [if_pos c4] at H
  have c4b0:=decide_eq_true c4
  have c4b1:decide (1048576 < a1.size) = true:=decide_eq_true (by omega)
  clear c4
  obtain rfl:=Option.some.inj H
  go_enter Tryz.func3,Tryz.ntmps3
  go_wp2
  go_ret
  exact ⟨aq8,aq1⟩
 rw [if_neg c4] at H
 have c4b0:=decide_eq_false c4
 have c4b1:decide (1048576 < a1.size) = false:=decide_eq_false (by omega)
 clear c4
 replace H:=Option.bind_eq_some_iff.mp H
 obtain ⟨⟨t101,t102,t103⟩,A50,H⟩:=H
 replace H:((impl_HardestGoal.f k a0 a1).bind fun bt104=>(if bt104.1 = t101 then (if bt104.2.1 = t102 then (if (bt104.2.2 != t103) = true then (some false) else (some true)) else (some false)) else (some false))) = some r:=H
 have A5:=am A50
 clear A50
 replace H:=Option.bind_eq_some_iff.mp H
 obtain ⟨⟨t104,t105,t106⟩,A60,H⟩:=H
 replace H:(if t104 = t101 then (if t105 = t102 then (if (t106 != t103) = true then (some false) else (some true)) else (some false)) else (some false)) = some r:=H
 have A6:=am A60
 clear A60
 by_cases c7:t104 = t101
 rotate_left
 ·rw [if_neg c7] at H
  have c7b0:=beq_eq_false_iff_ne.mpr c7
  have c7b1:=bne_iff_ne.mpr c7
  obtain rfl:=Option.some.inj H
  go_enter Tryz.func3,Tryz.ntmps3
  go_wp2_with (first | ((with_reducible refine gate_callee (f:=14) rfl ?_);refine goesL_ (some 20) rfl rfl Tryz.func14 (by kernel_rfl) rfl #[.string a0,.string a1] rfl aq5 ?_;(with_reducible refine (spec_HardestGoal.calls a0 a1 t101 t102 t103 _ A5.out).mono ?_);rintro e w16 ⟨rfl,hb⟩;refine ⟨_,rfl,?_⟩;replace HB:=am (below_step aq1 hb);(try clear hb)) | ((with_reducible refine gate_callee (f:=15) rfl ?_);refine goesL_ (some 27) rfl rfl Tryz.func15 (by kernel_rfl) rfl #[.string a0,.string a1] rfl aq5 ?_;(with_reducible refine (impl_HardestGoal.calls k a0 a1 t104 t105 t106 _ A6.out).mono ?_);rintro e w17 ⟨rfl,hb⟩;refine ⟨_,rfl,?_⟩;replace HB:=am (below_step aq1 hb);(try clear hb)))
  go_ret
  exact ⟨aq8,aq1⟩
 rw [if_pos c7] at H
 have c7b0:=beq_iff_eq.mpr c7
 have c7b1:=bne_eq_false_iff_eq.mpr c7
 clear c7
 by_cases c8:t105 = t102
 rotate_left
 ·rw [if_neg c8] at H
  have c8b0:=beq_eq_false_iff_ne.mpr c8
  have c8b1:=bne_iff_ne.mpr c8
  obtain rfl:=Option.some.inj H
  go_enter Tryz.func3,Tryz.ntmps3
  go_wp2_with (first | ((with_reducible refine gate_callee (f:=14) rfl ?_);refine goesL_ (some 20) rfl rfl Tryz.func14 (by kernel_rfl) rfl #[.string a0,.string a1] rfl aq5 ?_;(with_reducible refine (spec_HardestGoal.calls a0 a1 t101 t102 t103 _ A5.out).mono ?_);rintro e w14 ⟨rfl,hb⟩;refine ⟨_,rfl,?_⟩;replace HB:=am (below_step aq1 hb);(try clear hb)) | ((with_reducible refine gate_callee (f:=15) rfl ?_);refine goesL_ (some 27) rfl rfl Tryz.func15 (by kernel_rfl) rfl #[.string a0,.string a1] rfl aq5 ?_;(with_reducible refine (impl_HardestGoal.calls k a0 a1 t104 t105 t106 _ A6.out).mono ?_);rintro e w15 ⟨rfl,hb⟩;refine ⟨_,rfl,?_⟩;replace HB:=am (below_step aq1 hb);(try clear hb)))
  go_ret
  exact ⟨aq8,aq1⟩
 rw [if_pos c8] at H
 have c8b0:=beq_iff_eq.mpr c8
 have c8b1:=bne_eq_false_iff_eq.mpr c8
 clear c8
 by_cases c9:(t106 != t103) = true
 rotate_left
 ·rw [if_neg c9] at H
  have c9b0:(t106 != t103) = false:=by simpa using c9
  (try (have c9b1:decide (t106 = t103) = true:=by simpa using c9))
  (try (have c9b2:(t106 == t103) = true:=by simpa using c9))
  clear c9
  obtain rfl:=Option.some.inj H
  go_enter Tryz.func3,Tryz.ntmps3
  go_wp2_with (first | ((with_reducible refine gate_callee (f:=14) rfl ?_);refine goesL_ (some 20) rfl rfl Tryz.func14 (by kernel_rfl) rfl #[.string a0,.string a1] rfl aq5 ?_;(with_reducible refine (spec_HardestGoal.calls a0 a1 t101 t102 t103 _ A5.out).mono ?_);rintro e w12 ⟨rfl,hb⟩;refine ⟨_,rfl,?_⟩;replace HB:=am (below_step aq1 hb);(try clear hb)) | ((with_reducible refine gate_callee (f:=15) rfl ?_);refine goesL_ (some 27) rfl rfl Tryz.func15 (by kernel_rfl) rfl #[.string a0,.string a1] rfl aq5 ?_;(with_reducible refine (impl_HardestGoal.calls k a0 a1 t104 t105 t106 _ A6.out).mono ?_);rintro e w13 ⟨rfl,hb⟩;refine ⟨_,rfl,?_⟩;replace HB:=am (below_step aq1 hb);(try clear hb)))
  go_ret
  exact ⟨aq8,aq1⟩
 rw [if_pos c9] at H
 have c9b0:(t106 != t103) = true:=c9
 (try (have c9b1:decide (t106 = t103) = false:=by simpa using c9))
 (try (have c9b2:(t106 == t103) = false:=by simpa using c9))
 (try (have c9b3:¬ (t106 = t103):=by simpa using c9))
 clear c9
 obtain rfl:=Option.some.inj H
 go_enter Tryz.func3,Tryz.ntmps3
 go_wp2_with (first | ((with_reducible refine gate_callee (f:=14) rfl ?_);refine goesL_ (some 20) rfl rfl Tryz.func14 (by kernel_rfl) rfl #[.string a0,.string a1] rfl aq5 ?_;(with_reducible refine (spec_HardestGoal.calls a0 a1 t101 t102 t103 _ A5.out).mono ?_);rintro e w10 ⟨rfl,hb⟩;refine ⟨_,rfl,?_⟩;replace HB:=am (below_step aq1 hb);(try clear hb)) | ((with_reducible refine gate_callee (f:=15) rfl ?_);refine goesL_ (some 27) rfl rfl Tryz.func15 (by kernel_rfl) rfl #[.string a0,.string a1] rfl aq5 ?_;(with_reducible refine (impl_HardestGoal.calls k a0 a1 t104 t105 t106 _ A6.out).mono ?_);rintro e w11 ⟨rfl,hb⟩;refine ⟨_,rfl,?_⟩;replace HB:=am (below_step aq1 hb);(try clear hb)))
 go_ret
 exact ⟨aq8,aq1⟩
end Go.Proofs.YtldhkbiomingbaaGreatDoor.F

namespace Go.Proofs.YtldhkbiomingbaaGreatDoor.F
open Go.RowKit Go.Proofs.YtldhkbiomingbaaGreatDoor Go.Proofs.YtldhkbiomingbaaGreatDoorW.PrintWords Go.Proofs.YtldhkbiomingbaaGreatDoorW.PrintMore
def candC (s:RS) (n:Int) (c:Nat):Option (Int × Int):=((pairsS s n).find? fun p=>p.1 == (c:Int)).map fun p=>(p.2,p.1)
theorem candC_some {s:RS} {n:Int} {c:Nat} (h:goalAt s n c < s.T.length):candC s n c = some (((s.F.getD (goalAt s n c) 0:Nat):Int),(c:Int)):=by
 have hat:=goalAt_at h
 have e:(pairsS s n).find? (fun p=>p.1 == (c:Int)) = some ((c:Int),((s.F.getD (goalAt s n c) 0:Nat):Int)):=by
  rw [List.find?_eq_some_iff_getElem]
  refine ⟨beq_self_eq_true _,goalAt s n c,by rw [pairsS_len];exact h,by rw [pairsS_get s n h,hat],fun j hj=>?_⟩
  have hjl:j < s.T.length:=Nat.lt_trans hj h
  rw [pairsS_get s n hjl]
  have:=goalAt_low hj hjl
  simpa using this
 unfold candC
 rw [e];rfl
theorem candC_none {s:RS} {n:Int} {c:Nat} (h:¬ goalAt s n c < s.T.length):candC s n c = none:=by
 unfold candC
 rw [Option.map_eq_none_iff,List.find?_eq_none]
 intro p hp
 obtain ⟨i,hi,rfl⟩:=List.mem_map.1 hp
 have hi':=List.mem_range.1 hi
 have hge:i < goalAt s n c:=by omega
 have:=goalAt_low hge hi'
 simpa using this
def stpC (s c:Int × Int):Int × Int:=if s.1 < c.1 then c else s
theorem range_drop {n c:Nat} (h:c < n):(List.range n).drop c = c :: (List.range n).drop (c + 1):=by
 rw [List.drop_eq_getElem_cons (by rw [List.length_range];exact h),List.getElem_range]
theorem hg_l0 {w h:Nat} {cs:List Int} {s:RS} (o:RS.Ok w h cs s) (nm:Int) {wh:Nat} (hwh:wh ≤ 1000) {R:Int × Int} (TT:List ByteArray) (NN:List (List Int)) (WW:List ByteArray) :
  ∀ (d c:Nat) (best most:Int),c + d = wh → (((List.range wh).drop c).filterMap (candC s nm)).foldl stpC (most,best) = R →
  Ev (fun k=>impl_HardestGoal.l0 k best most (cellsI s nm) (wh:Int) (c:Int) TT (castsI s.F) NN WW) (if R.1 > 40 then (0,0,false) else (R.2,R.1,true))
 | 0,c,best,most,hc,hR=>by
  rw [List.drop_of_length_le (by rw [List.length_range];omega)] at hR
  have hR':(most,best) = R:=hR
  subst hR'
  refine Ev.step (fun k=>?_) (Ev.now _)
  rw [impl_HardestGoal.l0,if_neg (by omega)]
  by_cases h:most > 40
  rotate_left
  ·rw [if_neg h,if_neg h]
  rw [if_pos h,if_pos h]
 | d + 1,c,best,most,hc,hR=>by
  have hlt:c < wh:=by omega
  have hm:=o.most
  have hW:wrap64 ((c:Int) + 1) = ((c + 1:Nat):Int):=w64t (n:=c + 1) (by omega)
  rw [range_drop hlt,List.filterMap_cons] at hR
  have hx:=indexI_l0 (l:=cellsI s nm) (by rw [cellsI_len];omega) (c:Int) _ 0 (Nat.zero_add _) (fun j hj=>by omega)
  by_cases hg:goalAt s nm c < s.T.length
  rotate_left
  ·rw [candC_none hg] at hR
   have hx2:Ev (fun k=>slices_Index_int_int.f k (cellsI s nm) (c:Int)) (-1):=by
    rw [if_neg (show ¬ (cellsI s nm).findIdx (fun x=>decide (x = (c:Int))) < (cellsI s nm).length by rw [cellsI_len];exact hg)] at hx
    exact hx
   have ih:=hg_l0 o nm hwh (R:=R) TT NN WW d (c + 1) best most (by omega) hR
   refine Ev.step (fun k=>by rw [impl_HardestGoal.l0,if_pos (by omega)]) (Ev.bind hx2 (Ev.congr (fun k=>?_) ih))
   rw [if_neg (by omega),hW]
  rw [candC_some hg] at hR
  simp only [List.foldl_cons] at hR
  have hx2:Ev (fun k=>slices_Index_int_int.f k (cellsI s nm) (c:Int)) ((goalAt s nm c:Nat):Int):=by
   rw [if_pos (show (cellsI s nm).findIdx (fun x=>decide (x = (c:Int))) < (cellsI s nm).length by rw [cellsI_len];exact hg)] at hx
   exact hx
  generalize goalAt s nm (c:Int) = i at *
  have hF:i < s.F.length:=by rw [o.lF];exact hg
  have hfar:=casts_far hF
  have hi2:(i:Int) < ((castsI s.F).length:Int):=by rw [castsI_length];omega
  by_cases hb:most < ((s.F.getD i 0:Nat):Int)
  rotate_left
  ·have ih:=hg_l0 o nm hwh (R:=R) TT NN WW d (c + 1) best most (by omega) (by rw [show stpC (most,best) (((s.F.getD i 0:Nat):Int),(c:Int)) = (most,best) from if_neg hb] at hR;exact hR)
   refine Ev.step (fun k=>by rw [impl_HardestGoal.l0,if_pos (by omega)]) (Ev.bind hx2 (Ev.congr (fun k=>?_) ih))
   rw [if_pos (by omega),if_pos (by omega),if_pos hi2,hfar,if_neg (show ¬ ((s.F.getD i 0:Nat):Int) > most from hb),hW]
  have ih:=hg_l0 o nm hwh (R:=R) TT NN WW d (c + 1) (c:Int) ((s.F.getD i 0:Nat):Int) (by omega) (by rw [show stpC (most,best) (((s.F.getD i 0:Nat):Int),(c:Int)) = (((s.F.getD i 0:Nat):Int),(c:Int)) from if_pos hb] at hR;exact hR)
  refine Ev.step (fun k=>by rw [impl_HardestGoal.l0,if_pos (by omega)]) (Ev.bind hx2 (Ev.congr (fun k=>?_) ih))
  rw [if_pos (by omega),if_pos (by omega),if_pos hi2,hfar,if_pos (show ((s.F.getD i 0:Nat):Int) > most from hb),hW]
def hardG (t n:ByteArray):Int × Int × Bool:=if (hardA t n).2.2 = true then ((hardA t n).1,(hardA t n).2.1,true) else (0,0,false)
theorem impl_hard_ev (t n:ByteArray) (ht:t.size < 4294967281):Ev (fun k=>impl_HardestGoal.f k t n) (hardG t n):=by
 have hW:=reachWith_ev t n ht
 unfold impl_HardestGoal.f hardG hardA
 cases hs:ballS t n with
 | none =>
  rw [hs] at hW
  exact Ev.bind hW (Ev.congr (fun k=>if_neg Bool.false_ne_true) (Ev.now _))
 | some q =>
  obtain ⟨w,h,s⟩:=q
  rw [hs] at hW
  obtain ⟨cs,hg,v,o,hsr,hn,hf,hpl⟩:=ballS_place hs
  have hl:=v.len
  have hsm:=(tray_small v).2
  have hrd:impl_read.f t = some ((w:Int),(h:Int),cs):=impl_read_eq t hg
  refine Ev.bind hW (Ev.congr (fun k=>if_pos rfl) ?_)
  refine Ev.bind (cells_ev (w:=w) (h:=h) (s:=s) (name_byte hn) o.ok.tray o.ok.most (castsI s.F) (s.N.map castsI) (rW s)) ?_
  refine Ev.congr (fun k=>by rw [hrd,Option.bind_some]) ?_
  have hh:(((List.range (w * h)).drop 0).filterMap (candC s (bt n 0))).foldl stpC (-1,0) = hardS s (bt n 0):=hardS_cells o.ok.pos hpl 0
  have h1:=hg_l0 o.ok (bt n 0) (wh:=w * h) (by rw [← hl];exact Nat.le_trans hsm (by decide)) (rT w h s) (s.N.map castsI) (rW s) (w * h) 0 0 (-1) (Nat.zero_add _) hh
  simp only
  have e:(if decide ((hardS s (bt n 0)).1 ≤ 40) = true then ((hardS s (bt n 0)).2,(hardS s (bt n 0)).1,true) else ((0:Int),(0:Int),false)) = if (hardS s (bt n 0)).1 > 40 then (0,0,false) else ((hardS s (bt n 0)).2,(hardS s (bt n 0)).1,true):=by
   by_cases q:(hardS s (bt n 0)).1 ≤ 40
   rotate_left
   ·rw [if_neg (by simpa using q),if_pos (by omega)]
   rw [if_pos (decide_eq_true q),if_neg (by omega)]
  rw [e]
  refine Ev.congr (fun k=>?_) h1
  rw [show cs.length = w * h from hl];rfl
theorem spec_hard_eq (t n:ByteArray):spec_HardestGoal.f t n = some (hardG t n):=by
 unfold spec_HardestGoal.f spec_puHardest.f hardG
 rw [Option.bind_some]
 by_cases h:(hardA t n).2.2 = true
 rotate_left
 ·rw [if_neg h,if_neg h]
 rw [if_pos h,if_pos h]
theorem FnExactHardestGoal (a b:ByteArray) (ha:a.size ≤ 9223372036854775807) (hb:b.size ≤ 9223372036854775807):∃ k,laws_FnExactHardestGoal.f k a b = some true:=by
 refine Ev.rounds (g:=fun k=>laws_FnExactHardestGoal.f k a b) ?_
 unfold laws_FnExactHardestGoal.f
 by_cases c0:(a.size:Int) > 1048576
 ·exact Ev.congr (fun k=>if_pos c0) (Ev.now _)
 by_cases c1:(b.size:Int) > 1048576
 ·exact Ev.congr (fun k=>by rw [if_neg c0,if_pos c1]) (Ev.now _)
 refine Ev.congr (fun k=>by rw [if_neg c0,if_neg c1,spec_hard_eq,Option.bind_some]) ?_
 refine Ev.bind (impl_hard_ev a b (by omega)) ?_
 refine Ev.congr (fun k=>?_) (Ev.now _)
 rw [if_pos rfl,if_pos rfl,bne_self_eq_false];rfl
end Go.Proofs.YtldhkbiomingbaaGreatDoor.F

namespace Go.Proofs.YtldhkbiomingbaaGreatDoor
theorem compact_le {α:Type} [Inhabited α] [DecidableEq α] (zs:List α):(Go.Lib.compact zs).length ≤ zs.length:=by
 unfold Go.Lib.compact Go.Lib.compactUpTo
 rw [List.length_map]
 exact Nat.le_trans (List.length_filter_le _ _) (by rw [List.length_range];exact Nat.le_refl _)
theorem sort_pairwise (zs:List Int):(zs.mergeSort fun x y=>decide (x ≤ y)).Pairwise (· ≤ ·):=by
 have:=List.pairwise_mergeSort (le:=fun (x y:Int)=>decide (x ≤ y)) (fun a b c h1 h2=>by simp at *;omega) (fun a b=>by simp;omega) zs
 exact this.imp (fun h=>by simpa using h)
def putI (n:Int):List Int → List Int
 | []=>[n]
 | y :: l=>if y < n then y :: putI n l else if y = n then y :: l else n :: y :: l
theorem putI_mem (n x:Int):∀ l,x ∈ putI n l ↔ x = n ∨ x ∈ l
 | []=>by simp [putI]
 | y :: l=>by
  unfold putI
  split
  ·rw [List.mem_cons,putI_mem n x l,List.mem_cons]
   constructor
   ·rintro (h | h | h)
    ·exact .inr (.inl h)
    ·exact .inl h
    ·exact .inr (.inr h)
   ·rintro (h | h | h)
    ·exact .inr (.inl h)
    ·exact .inl h
    ·exact .inr (.inr h)
  ·split
   ·rename_i e
    subst e
    rw [List.mem_cons]
    constructor
    ·exact .inr
    ·rintro (h | h)
     ·exact .inl h
     ·exact h
   ·rw [List.mem_cons]
theorem putI_sorted (n:Int):∀ l,l.Pairwise (· < ·) → (putI n l).Pairwise (· < ·)
 | [],_=>by simp [putI]
 | y :: l,h=>by
  have h0:=List.pairwise_cons.1 h
  unfold putI
  split
  ·rename_i hy
   refine List.pairwise_cons.2 ⟨fun z hz=>?_,putI_sorted n l h0.2⟩
   rcases (putI_mem n z l).1 hz with e | hz
   ·omega
   ·exact h0.1 z hz
  ·split
   ·exact h
   ·rename_i h1 h2
    refine List.pairwise_cons.2 ⟨fun z hz=>?_,h⟩
    rcases List.mem_cons.1 hz with e | hz
    ·omega
    ·have:=h0.1 z hz;omega
theorem putI_has {n:Int}:∀ {l:List Int},l.Pairwise (· < ·) → n ∈ l → putI n l = l
 | y :: l,h,hm=>by
  have h0:=List.pairwise_cons.1 h
  unfold putI
  rcases List.mem_cons.1 hm with e | hm
  ·rw [if_neg (by omega),if_pos e.symm]
  ·rw [if_pos (h0.1 n hm),putI_has h0.2 hm]
def setI (l:List Int):List Int:=l.foldl (fun o x=>putI x o) []
theorem setI_go:∀ (l o:List Int),o.Pairwise (· < ·) → (l.foldl (fun o x=>putI x o) o).Pairwise (· < ·) ∧ ∀ x,x ∈ l.foldl (fun o x=>putI x o) o ↔ x ∈ l ∨ x ∈ o
 | [],o,h=>⟨h,fun x=>by simp⟩
 | y :: l,o,h=>by
  obtain ⟨h1,h2⟩:=setI_go l (putI y o) (putI_sorted y o h)
  refine ⟨h1,fun x=>?_⟩
  rw [List.foldl_cons,h2 x,putI_mem,List.mem_cons]
  constructor
  ·rintro (h | h | h)
   ·exact .inl (.inr h)
   ·exact .inl (.inl h)
   ·exact .inr h
  ·rintro ((h | h) | h)
   ·exact .inr (.inl h)
   ·exact .inl h
   ·exact .inr (.inr h)
theorem setI_sorted (l:List Int):(setI l).Pairwise (· < ·):=(setI_go l [] List.Pairwise.nil).1
theorem setI_mem (l:List Int) (x:Int):x ∈ setI l ↔ x ∈ l:=by
 rw [setI,(setI_go l [] List.Pairwise.nil).2 x]
 simp
theorem strict_nodup {l:List Int} (h:l.Pairwise (· < ·)):l.Nodup:=h.imp (fun h e=>by omega)
theorem strict_one {a b:List Int} (ha:a.Pairwise (· < ·)) (hb:b.Pairwise (· < ·)) (h:∀ x,x ∈ a ↔ x ∈ b):a = b :=
 List.Perm.eq_of_pairwise (le:=fun x y=>x < y) (fun x y _ _ h1 h2=>by omega) ha hb ((List.perm_ext_iff_of_nodup (strict_nodup ha) (strict_nodup hb)).2 h)
theorem compactUpTo_mem (d:Array Int) (x:Int):∀ m,x ∈ Go.Lib.compactUpTo d m ↔ ∃ j,j < m ∧ d[j]! = x
 | 0=>by simp [Go.Lib.compactUpTo]
 | m + 1=>by
  rw [Go.Lib.compactUpTo_succ,List.mem_append,compactUpTo_mem d x m]
  by_cases hk:Go.Lib.keeps d m = true
  ·rw [if_pos hk,List.mem_singleton]
   constructor
   ·rintro (⟨j,h1,h2⟩ | h)
    ·exact ⟨j,by omega,h2⟩
    ·exact ⟨m,by omega,h.symm⟩
   ·rintro ⟨j,h1,h2⟩
    by_cases e:j = m
    rotate_left
    ·exact .inl ⟨j,by omega,h2⟩
    subst e;exact .inr h2.symm
  rw [if_neg hk]
  have hk':¬ (m = 0 ∨ d[m]! ≠ d[m - 1]!):=fun q=>hk (decide_eq_true q)
  have hm0:m ≠ 0:=fun q=>hk' (.inl q)
  have he:d[m]! = d[m - 1]!:=Classical.byContradiction fun q=>hk' (.inr q)
  constructor
  ·rintro (⟨j,h1,h2⟩ | h)
   ·exact ⟨j,by omega,h2⟩
   ·cases h
  ·rintro ⟨j,h1,h2⟩
   by_cases e:j = m
   rotate_left
   ·exact .inl ⟨j,by omega,h2⟩
   subst e;exact .inl ⟨j - 1,by omega,by rw [← he];exact h2⟩
theorem compact_mem (zs:List Int) (x:Int):x ∈ Go.Lib.compact zs ↔ x ∈ zs:=by
 unfold Go.Lib.compact
 rw [compactUpTo_mem]
 constructor
 ·rintro ⟨j,h1,h2⟩
  rw [getElem!_pos zs.toArray j (by simpa using h1)] at h2
  rw [← h2];simp
 ·intro h
  obtain ⟨j,hj,rfl⟩:=List.getElem_of_mem h
  exact ⟨j,hj,by rw [getElem!_pos zs.toArray j (by simpa using hj)];simp⟩
theorem compact_strict {ys:List Int} (hs:ys.Pairwise (· ≤ ·)):(Go.Lib.compact ys).Pairwise (· < ·):=by
 unfold Go.Lib.compact Go.Lib.compactUpTo
 rw [List.pairwise_map]
 refine List.Pairwise.imp_of_mem ?_ (List.Pairwise.filter _ (List.pairwise_lt_range (n:=ys.length)))
 intro i j hi hj hij
 have hjl:=List.mem_range.1 (List.mem_filter.1 hj).1
 have hk:=of_decide_eq_true (show decide (j = 0 ∨ ys.toArray[j]! ≠ ys.toArray[j - 1]!) = true from (List.mem_filter.1 hj).2)
 have hil:i < ys.length:=by omega
 have hj1:j - 1 < ys.length:=by omega
 rw [getElem!_pos ys.toArray j (by simpa using hjl),getElem!_pos ys.toArray (j - 1) (by simpa using hj1)] at hk
 rw [getElem!_pos ys.toArray i (by simpa using hil),getElem!_pos ys.toArray j (by simpa using hjl)]
 simp only [List.getElem_toArray] at hk ⊢
 have h1:ys[i] ≤ ys[j - 1]:=by
  by_cases e:i = j - 1
  rotate_left
  ·exact List.pairwise_iff_getElem.1 hs i (j - 1) hil hj1 (by omega)
  subst e;exact Int.le_refl _
 have h2:ys[j - 1] ≤ ys[j]:=List.pairwise_iff_getElem.1 hs (j - 1) j hj1 hjl (by omega)
 have h3:ys[j] ≠ ys[j - 1]:=by
  rcases hk with e | e
  ·omega
  ·exact e
 omega
theorem compact_sort (l:List Int):Go.Lib.compact (l.mergeSort fun x y=>decide (x ≤ y)) = setI l :=
 strict_one (compact_strict (sort_pairwise l)) (setI_sorted l) (fun x=>by rw [compact_mem,(List.mergeSort_perm l _).mem_iff,setI_mem])
end Go.Proofs.YtldhkbiomingbaaGreatDoor

namespace Go.Proofs.YtldhkbiomingbaaGreatDoor.F
open Go.Proofs.YtldhkbiomingbaaGreatDoor
open Go.RowKit Go.Proofs.YtldhkbiomingbaaGreatDoorW.PrintWords Go.Proofs.YtldhkbiomingbaaGreatDoorW.PrintLast Go.Proofs.YtldhkbiomingbaaGreatDoorW.PrintMore
attribute [local go_sem] max2_int min2_int max_two min_two max_three min_three max_four min_four
def spec_l1Put.l0:Nat → List Int → Int → Int → Option (List Int)
 | 0,_,_,_=>none
 | k + 1,x0,x1,x5=>if x5 < (x0.length:Int) then (if 0 ≤ x5 then (if (rd x0 x5) < x1 then (spec_l1Put.l0 k x0 x1 (wrap64 (x5 + 1))) else (if (rd x0 x5) = x1 then (some x0) else ((some (([]:List Int):List Int)).bind fun y103=>(if x5 ≤ (x0.length:Int) then ((some (x0.take (x5:Int).toNat:List Int)).bind fun y106=>(if y103.length + y106.length < 17592186044416 then ((some (y103 ++ y106:List Int)).bind fun y110=>(if y110.length < 17592186044416 then ((some (y110 ++ [x1]:List Int)).bind fun y113=>((some (x0.drop (x5:Int).toNat:List Int)).bind fun y116=>(if y113.length + y116.length < 17592186044416 then (some (y113 ++ y116)) else (none)))) else (none))) else (none))) else (none))))) else (none)) else ((some (([]:List Int):List Int)).bind fun y123=>(if 0 ≤ x5 then (if x5 ≤ (x0.length:Int) then ((some (x0.take (x5:Int).toNat:List Int)).bind fun y126=>(if y123.length + y126.length < 17592186044416 then ((some (y123 ++ y126:List Int)).bind fun y130=>(if y130.length < 17592186044416 then ((some (y130 ++ [x1]:List Int)).bind fun y133=>((some (x0.drop (x5:Int).toNat:List Int)).bind fun y136=>(if y133.length + y136.length < 17592186044416 then (some (y133 ++ y136)) else (none)))) else (none))) else (none))) else (none)) else (none)))
def spec_l1Put.f (k:Nat) (l0:List Int) (a1:Int):Option (List Int):=spec_l1Put.l0 k l0 a1 0
theorem spec_l1Put.mono_l:∀ k,(∀ y0 y1 y2,LeO (spec_l1Put.l0 k y0 y1 y2) (spec_l1Put.l0 (k + 1) y0 y1 y2))
 | 0=>fun _ _ _ r h=>by simp [spec_l1Put.l0] at h
 | k + 1=>by
  have ih0:=spec_l1Put.mono_l k
  ·intro y0 y1 y2
   unfold spec_l1Put.l0
   exact mo
set_option maxHeartbeats 8000000 in
set_option maxRecDepth 100000 in
theorem spec_l1Put.calls (k:Nat) (P0_:Nat → Prop) (u9000_:Value) (l0:List Int) (a1:Int) (r:List Int) (w0 w:World) (hB:Below w0.heap.size w0 w) (ho0:Kd.R (Kd.int .i64) 3 w w0.heap.size P0_ u9000_ l0) (h:spec_l1Put.f k l0 a1 = some r) :
  Calls Tryz.prog 81 #[u9000_,.int .i64 a1] w fun e w'=>∃ v0_:Value,e = .returned (v0_) ∧ Kd.R (Kd.int .i64) 3 w' w0.heap.size (fun k_=>(P0_ k_ ∨ w.heap.size ≤ k_)) v0_ r ∧ Below w0.heap.size w0 w' ∧ Kept w w' (fun k_=>P0_ k_):=by
 have HO0:=am (show Kd.R (Kd.int .i64) 3 w w0.heap.size (fun k_=>(P0_ k_ ∨ w.heap.size ≤ k_)) u9000_ l0 from Kd.R_mono ho0 (fun k_ hk=>(.inl hk)))
 have HK:=am (Kept.refl w (fun k_=>P0_ k_))
 have HW0:=am hB.size
 have HB:=am hB
 clear hB
 have H:(spec_l1Put.l0 k l0 a1 0) = some r:=h
 clear h
 have H':=am H
 clear H
 go_enter Tryz.func81,Tryz.ntmps81
 go_wp2
 go_loopg [5] k (fun kq v5 w'=>∃ (x5_1:Int),v5 = .int .i64 x5_1 ∧ Aside0 (spec_l1Put.l0 kq l0 a1 x5_1 = some r) ∧ Aside0 (kq ≤ k) ∧ Aside0 (Kd.R (Kd.int .i64) 3 w' w0.heap.size (fun k_=>(P0_ k_ ∨ w.heap.size ≤ k_)) u9000_ l0) ∧ Aside0 (Kept w w' (fun k_=>P0_ k_)) ∧ Aside0 (Below w0.heap.size w0 w'))
 case atStart=>exact ⟨(0),aq7,H',⟨Nat.le_refl _⟩,⟨aq76⟩,⟨aq17⟩,⟨aq1⟩⟩
 case round =>
  clear H'
  try clear p2
  obtain ⟨x5_1,rfl,HA,HK1,HO_0,HK,HB⟩:=hrel
  cases gk with
  | zero=>exact absurd HA.out (by simp [spec_l1Put.l0])
  | succ k1 =>
   have H:=HA.out
   clear HA
   simp only [spec_l1Put.l0] at H
   by_cases c3:x5_1 < (l0.length:Int)
   rotate_left
   ·rw [if_neg c3] at H
    have c3b0:=decide_eq_false c3
    clear c3
    obtain ⟨y123,hy_⟩:∃ y_:List Int,y_ = (([]:List Int)):=⟨_,rfl⟩
    replace H:(if 0 ≤ x5_1 then (if x5_1 ≤ (l0.length:Int) then ((some (l0.take (x5_1:Int).toNat:List Int)).bind fun y126=>(if y123.length + y126.length < 17592186044416 then ((some (y123 ++ y126:List Int)).bind fun y130=>(if y130.length < 17592186044416 then ((some (y130 ++ [a1]:List Int)).bind fun y133=>((some (l0.drop (x5_1:Int).toNat:List Int)).bind fun y136=>(if y133.length + y136.length < 17592186044416 then (some (y133 ++ y136)) else (none)))) else (none))) else (none))) else (none)) else (none)) = some r:=aq3
    have Ny123:=am hy_
    clear hy_
    by_cases c24:0 ≤ x5_1
    rotate_left
    ·rw [if_neg c24] at H
     exact absurd H (by simp)
    rw [if_pos c24] at H
    have c24b0:=eq_true c24
    have c24b1:=decide_eq_true c24
    clear c24
    by_cases c25:x5_1 ≤ (l0.length:Int)
    rotate_left
    ·rw [if_neg c25] at H
     exact absurd H (by simp)
    rw [if_pos c25] at H
    have c25b0:=eq_true c25
    have c25b1:=decide_eq_true c25
    clear c25
    obtain ⟨y126,hy_⟩:∃ y_:List Int,y_ = (l0.take (x5_1:Int).toNat):=⟨_,rfl⟩
    replace H:(if y123.length + y126.length < 17592186044416 then ((some (y123 ++ y126:List Int)).bind fun y130=>(if y130.length < 17592186044416 then ((some (y130 ++ [a1]:List Int)).bind fun y133=>((some (l0.drop (x5_1:Int).toNat:List Int)).bind fun y136=>(if y133.length + y136.length < 17592186044416 then (some (y133 ++ y136)) else (none)))) else (none))) else (none)) = some r:=aq3
    have Ny126:=am hy_
    clear hy_
    by_cases c26:y123.length + y126.length < 17592186044416
    rotate_left
    ·rw [if_neg c26] at H
     exact absurd H (by simp)
    rw [if_pos c26] at H
    have LMc26:=am c26
    clear c26
    obtain ⟨y130,hy_⟩:∃ y_:List Int,y_ = (y123 ++ y126):=⟨_,rfl⟩
    replace H:(if y130.length < 17592186044416 then ((some (y130 ++ [a1]:List Int)).bind fun y133=>((some (l0.drop (x5_1:Int).toNat:List Int)).bind fun y136=>(if y133.length + y136.length < 17592186044416 then (some (y133 ++ y136)) else (none)))) else (none)) = some r:=aq3
    have Ny130:=am hy_
    clear hy_
    by_cases c27:y130.length < 17592186044416
    rotate_left
    ·rw [if_neg c27] at H
     exact absurd H (by simp)
    rw [if_pos c27] at H
    have LMc27:=am c27
    clear c27
    obtain ⟨y133,hy_⟩:∃ y_:List Int,y_ = (y130 ++ [a1]):=⟨_,rfl⟩
    replace H:((some (l0.drop (x5_1:Int).toNat:List Int)).bind fun y136=>(if y133.length + y136.length < 17592186044416 then (some (y133 ++ y136)) else (none))) = some r:=aq3
    have Ny133:=am hy_
    clear hy_
    have c28b0:=eq_true (of_decide_eq_true aq4:0 ≤ x5_1)
    have c29b0:=eq_true (of_decide_eq_true aq4:x5_1 ≤ (l0.length:Int))
    obtain ⟨y136,hy_⟩:∃ y_:List Int,y_ = (l0.drop (x5_1:Int).toNat):=⟨_,rfl⟩
    replace H:(if y133.length + y136.length < 17592186044416 then (some (y133 ++ y136)) else (none)) = some r:=aq3
    have Ny136:=am hy_
    clear hy_
    by_cases c30:y133.length + y136.length < 17592186044416
    rotate_left
    ·rw [if_neg c30] at H
     exact absurd H (by simp)
    rw [if_pos c30] at H
    have LMc30:=am c30
    clear c30
    obtain ⟨y140,hy_⟩:∃ y_:List Int,y_ = (y133 ++ y136):=⟨_,rfl⟩
    replace H:(some y140) = some r:=aq3
    have Ny140:=am hy_
    clear hy_
    obtain rfl:=Option.some.inj H
    obtain ⟨Ao31,co31,eo31⟩:=Kd.R_slice HO_0.out
    subst eo31
    go_wp2_with (first | ((with_reducible refine gate_dst (N:=34) rfl ?_);refine Kd.R_lit (Kd.int .i64) _ 3 ?hg (N:=34) ?hd (xs:=([]:List Int)) (inner:=[]) (ok:=fun _=>True) (okp:=fun _=>True) ?hr ?hp (fun _ hk=>hk) trivial (Below.refl _ _) (Nat.le_refl _) (by simp) ?_;(case hd=>rfl);(case hg=>rfl);(case hr=>exact aq20);(case hp=>exact aq101);intro v124 w32 ho33 hb hg_ hnew_;clear hg_ hnew_;(first | rw [← Ny123.out] at ho33 | (simp only [Int.reduceToNat] at ho33;rw [← Ny123.out] at ho33));have HO125:=am (Kd.R_lower (Kd.R_new' (Kd.R_newM (M:=fun k_=>(P0_ k_ ∨ w.heap.size ≤ k_)) ho33 aq31 (fun k_ h_=>.inr h_)) (Kd.R_lt aq11)) (below_size aq1));replace HO_0:=am (Kd.R_elder' aq11 (Kd.R_base ho33) hb);replace HK:=am (Kept.below (S:=(fun k_=>P0_ k_)) aq17 hb);replace HB:=am (below_step aq1 hb);clear hb ho33;have q34:(x5_1:Int) ≤ ((l0.length:Int):Int):=of_decide_eq_true aq4;obtain ⟨i034,hi034,_,hsz34,_⟩:=info_parts info3;have hroom34:l0.length ≤ co31:=(Kd.R_reads' HO_0.out).2.1;have hC34:Kd.C (Kd.int .i64) _ Ao31 l0.length l0:=(Kd.R_reads' HO_0.out).2.2;have hcut34:=cut_to (P:=Tryz.prog) 40 3 .i64 Tryz.underlying40 hi034 Ao31 l0.length co31 x5_1 (of_decide_eq_true aq4) q34 hroom34;have hr34:=Kd.C_take (m:=(x5_1:Int).toNat) hC34 (by omega);have hy34:y126.length = (x5_1:Int).toNat:=(by rw [Ny126.out,List.length_take];omega);rw [← Ny126.out] at hr34;rw [← hy34] at hcut34;have HR129:=am hr34;have HC129:=am (show y126.length ≤ co31 from by omega);clear hr34 hC34 hroom34 hi034 hsz34;have KY34:=am hy34;clear hy34;have KL34:=am (show (x5_1:Int).toNat ≤ l0.length from by omega);replace q34:=eq_true q34) | ((with_reducible refine gate_builtin (b:=.append) (xs:=#[.tmp 34,.tmp 37]) rfl ?_);at_builtin;refine Kd.R_append_rows (Kd.int .i64) (w0:=w0) w0.heap.size rfl (.tmp 34) (.tmp 37) 40 3 (.int .i64 0) 8 rfl Tryz.underlying40 info3 rfl (by decide) (by omega) v124 y123 y126 _ _ _ (fun k_=>(P0_ k_ ∨ w.heap.size ≤ k_) ∧ some k_ ≠ (.slice Ao31 l0.length co31:Value).ownBlock) (fun _=>False) rfl rfl ?aO ?aR (fun _ _ h=>h) (fun _ h=>h.elim) ?aF ?aB ?aS ?aL ?_;(case aR=>repeat (first | exact (by repeat (first | (with_reducible exact HR129.out) | (with_reducible refine Kd.C_alloc ?_ _) | (with_reducible refine Kd.C_drewN ?_ _) | (with_reducible refine Kd.C_drew ?_) | exact HR129.out)) | (with_reducible refine Kd.C_alloc ?_ _) | (with_reducible refine Kd.C_drewN ?_ _) | (with_reducible refine Kd.C_drew ?_)));(case aB=>exact aq1);(case aF=>exact aq66);(case aO=>exact (by (with_reducible repeat (first | apply Kd.R_alloc | apply Kd.R_drewN | apply Kd.R_drew));exact Kd.R_mono HO125.out (fun _ hk=>⟨hk.1.1,hk.2⟩)));(case aS=>exact (below_size aq1));(case aL=>have:=LMc26.out;omega);intro v131 w35 ho hb hg hat;rw [← Ny130.out] at ho;replace HB:=am (hb);replace HK:=am (Kept.of_grown (S:=(fun k_=>P0_ k_)) hg aq17 (fun k_ e_=>(HO125.out.1 k_ e_).1.1));replace HR129:=am ((show Kd.C (Kd.int .i64) w35 Ao31 y126.length y126 from by rw [Ny126.out];exact Kd.C_take (m:=(x5_1:Int).toNat) ((Kd.R_reads' (Kd.R_after (ok:=(fun k_=>(P0_ k_ ∨ w.heap.size ≤ k_))) aq11 hg hat)).2.2) KL34.out));replace HO_0:=am (Kd.R_after (ok:=(fun k_=>(P0_ k_ ∨ w.heap.size ≤ k_))) aq11 hg hat);have HO132:=am (ho);clear HO125 ho hb hg hat) | ((with_reducible refine gate_builtin (b:=.append) (xs:=#[.tmp 39,.tmp 41]) rfl ?_);at_builtin;refine Kd.R_append (Kd.int .i64) (w0:=w0) w0.heap.size rfl (.tmp 39) (.tmp 41) 40 3 (.int .i64 0) 8 rfl Tryz.underlying40 info3 rfl (by decide) (by omega) v131 y130 a1 [.int .i64 a1] (fun k_=>(P0_ k_ ∨ w.heap.size ≤ k_) ∧ some k_ ≠ (.slice Ao31 l0.length co31:Value).ownBlock) (fun _=>False) rfl rfl ?aP (fun _ hk=>hk.elim) ?aF ?aO ?aB ?aS ?aL ?_;(case aP=>exact rfl);(case aB=>exact aq1);(case aF=>exact aq66);(case aO=>exact (by (with_reducible repeat (first | apply Kd.R_alloc | apply Kd.R_drewN | apply Kd.R_drew));exact HO132.out));(case aS=>exact (below_size aq1));(case aL=>have:=LMc27.out;omega);intro v134 w36 ho hb hg hat;rw [← Ny133.out] at ho;replace HB:=am (hb);replace HK:=am (Kept.of_grown (S:=(fun k_=>P0_ k_)) hg aq17 (fun k_ e_=>(HO132.out.1 k_ e_).1));replace HR129:=am ((show Kd.C (Kd.int .i64) w36 Ao31 y126.length y126 from by rw [Ny126.out];exact Kd.C_take (m:=(x5_1:Int).toNat) ((Kd.R_reads' (Kd.R_after (ok:=(fun k_=>(P0_ k_ ∨ w.heap.size ≤ k_))) aq11 hg hat)).2.2) KL34.out));replace HO_0:=am (Kd.R_after (ok:=(fun k_=>(P0_ k_ ∨ w.heap.size ≤ k_))) aq11 hg hat);have HO135:=am (ho);clear HO132 ho hb hg hat;have q37:(x5_1:Int) ≤ ((l0.length:Int):Int):=of_decide_eq_true aq4;obtain ⟨i037,hi037,_,hsz37,_⟩:=info_parts info3;have hroom37:l0.length ≤ co31:=(Kd.R_reads' HO_0.out).2.1;have hC37:Kd.C (Kd.int .i64) _ Ao31 l0.length l0:=(Kd.R_reads' HO_0.out).2.2;have q037:(0:Int) ≤ (x5_1:Int):=of_decide_eq_true aq4;have hcut37:=cut_from (P:=Tryz.prog) 40 3 .i64 Tryz.underlying40 hi037 1 hsz37 Ao31 l0.length co31 x5_1 q037 q37;have hr37:=Kd.C_drop (m:=(x5_1:Int).toNat) (c:=co31) hC37 (by omega) hroom37;obtain ⟨A37,hA37⟩:∃ A1,A1 = (if co31 = (x5_1:Int).toNat then Ao31 else (Ao31:Option Addr).map (·.add ((x5_1:Int).toNat * 1))):=⟨_,rfl⟩;obtain ⟨c37,hc37⟩:∃ c1,c1 = co31 - (x5_1:Int).toNat:=⟨_,rfl⟩;have hy37:y136.length = l0.length - (x5_1:Int).toNat:=(by rw [Ny136.out,List.length_drop] <;> omega);rw [show (l0).drop (x5_1:Int).toNat = y136 from Ny136.out.symm] at hr37;replace hr37:Kd.C (Kd.int .i64) _ A37 y136.length y136:=(by rw [hA37];exact hr37);rw [← hy37,← hA37,← hc37] at hcut37;have HR139:=am hr37;have HC139:=am (show y136.length ≤ c37 from by rw [hy37,hc37];exact Nat.sub_le_sub_right hroom37 _);clear hr37 hC37 hroom37 hi037 hsz37 hc37;have KY37:=am hy37;have KA37:=am hA37;clear hy37 hA37;have KL37:=am (show (x5_1:Int).toNat ≤ l0.length from by omega);replace q37:=eq_true q37) | ((with_reducible refine gate_builtin (b:=.append) (xs:=#[.tmp 43,.tmp 46]) rfl ?_);at_builtin;refine Kd.R_append_rows (Kd.int .i64) (w0:=w0) w0.heap.size rfl (.tmp 43) (.tmp 46) 40 3 (.int .i64 0) 8 rfl Tryz.underlying40 info3 rfl (by decide) (by omega) v134 y133 y136 _ _ _ (fun k_=>(P0_ k_ ∨ w.heap.size ≤ k_) ∧ some k_ ≠ (.slice Ao31 l0.length co31:Value).ownBlock) (fun _=>False) rfl rfl ?aO ?aR (fun _ _ h=>h) (fun _ h=>h.elim) ?aF ?aB ?aS ?aL ?_;(case aR=>repeat (first | exact (by repeat (first | (with_reducible exact HR139.out) | (with_reducible refine Kd.C_alloc ?_ _) | (with_reducible refine Kd.C_drewN ?_ _) | (with_reducible refine Kd.C_drew ?_) | exact HR139.out)) | (with_reducible refine Kd.C_alloc ?_ _) | (with_reducible refine Kd.C_drewN ?_ _) | (with_reducible refine Kd.C_drew ?_)));(case aB=>exact aq1);(case aF=>exact aq66);(case aO=>exact (by (with_reducible repeat (first | apply Kd.R_alloc | apply Kd.R_drewN | apply Kd.R_drew));exact HO135.out));(case aS=>exact (below_size aq1));(case aL=>have:=LMc30.out;omega);intro v141 w38 ho hb hg hat;rw [← Ny140.out] at ho;replace HB:=am (hb);replace HK:=am (Kept.of_grown (S:=(fun k_=>P0_ k_)) hg aq17 (fun k_ e_=>(HO135.out.1 k_ e_).1));replace HR129:=am ((show Kd.C (Kd.int .i64) w38 Ao31 y126.length y126 from by rw [Ny126.out];exact Kd.C_take (m:=(x5_1:Int).toNat) ((Kd.R_reads' (Kd.R_after (ok:=(fun k_=>(P0_ k_ ∨ w.heap.size ≤ k_))) aq11 hg hat)).2.2) KL34.out));replace HR139:=am ((show Kd.C (Kd.int .i64) w38 A37 y136.length y136 from by rw [Ny136.out,KA37.out];exact Kd.C_drop (m:=(x5_1:Int).toNat) (c:=co31) ((Kd.R_reads' (Kd.R_after (ok:=(fun k_=>(P0_ k_ ∨ w.heap.size ≤ k_))) aq11 hg hat)).2.2) KL37.out ((Kd.R_reads' (Kd.R_after (ok:=(fun k_=>(P0_ k_ ∨ w.heap.size ≤ k_))) aq11 hg hat)).2.1)));replace HO_0:=am (Kd.R_after (ok:=(fun k_=>(P0_ k_ ∨ w.heap.size ≤ k_))) aq11 hg hat);have HO142:=am (ho);clear HO135 ho hb hg hat))
    go_ret
    exact ⟨_,aq8,by (with_reducible repeat (first | apply Kd.R_alloc | apply Kd.R_drewN | apply Kd.R_drew));exact Kd.R_mono HO142.out (fun _ hk=>hk.1),aq1,aq17⟩
   rw [if_pos c3] at H
   have c3b0:=decide_eq_true c3
   clear c3
   by_cases c4:0 ≤ x5_1
   rotate_left
   ·rw [if_neg c4] at H
    exact absurd H (by simp)
   rw [if_pos c4] at H
   have c4b0:=decide_eq_true c4
   clear c4
   by_cases c5:(rd l0 x5_1) < a1
   ·rw [if_pos c5] at H
    have c5b0:=decide_eq_true c5
    clear c5
    have H':=am H
    clear H
    obtain ⟨Ao6,co6,eo6⟩:=Kd.R_slice HO_0.out
    subst eo6
    have p101:0 ≤ (x5_1:Int):=of_decide_eq_true aq4
    have q101:x5_1 < (l0.length:Int):=of_decide_eq_true aq4
    obtain ⟨ad101,e101,hx101_0⟩:=Kd.at_int (Kd.R_reads' HO_0.out).2.2 x5_1 p101 q101
    cases e101
    replace p101:=eq_true p101
    replace q101:=eq_true q101
    go_wp2
    go_roundg k1
    case measure=>have:=HK1.out;omega
    case rel=>exact ⟨(wrap64 (x5_1 + 1)),aq7,H',⟨aq53⟩,⟨aq11⟩,⟨aq17⟩,⟨aq1⟩⟩
   rw [if_neg c5] at H
   have c5b0:=decide_eq_false c5
   clear c5
   by_cases c7:(rd l0 x5_1) = a1
   ·rw [if_pos c7] at H
    have c7b0:=beq_iff_eq.mpr c7
    have c7b1:=bne_eq_false_iff_eq.mpr c7
    clear c7
    obtain rfl:=Option.some.inj H
    obtain ⟨Ao8,co8,eo8⟩:=Kd.R_slice HO_0.out
    subst eo8
    have p101:0 ≤ (x5_1:Int):=of_decide_eq_true aq4
    have q101:x5_1 < (l0.length:Int):=of_decide_eq_true aq4
    obtain ⟨ad101,e101,hx101_0⟩:=Kd.at_int (Kd.R_reads' HO_0.out).2.2 x5_1 p101 q101
    cases e101
    replace p101:=eq_true p101
    replace q101:=eq_true q101
    have p102:0 ≤ (x5_1:Int):=of_decide_eq_true aq4
    have q102:x5_1 < (l0.length:Int):=of_decide_eq_true aq4
    obtain ⟨ad102,e102,hx102_0⟩:=Kd.at_int (Kd.R_reads' HO_0.out).2.2 x5_1 p102 q102
    obtain rfl:ad101 = ad102:=(by injection e102)
    replace p102:=eq_true p102
    replace q102:=eq_true q102
    go_wp2
    go_ret
    exact ⟨_,aq8,aq11,aq1,aq17⟩
   rw [if_neg c7] at H
   have c7b0:=beq_eq_false_iff_ne.mpr c7
   have c7b1:=bne_iff_ne.mpr c7
   obtain ⟨y103,hy_⟩:∃ y_:List Int,y_ = (([]:List Int)):=⟨_,rfl⟩
   replace H:(if x5_1 ≤ (l0.length:Int) then ((some (l0.take (x5_1:Int).toNat:List Int)).bind fun y106=>(if y103.length + y106.length < 17592186044416 then ((some (y103 ++ y106:List Int)).bind fun y110=>(if y110.length < 17592186044416 then ((some (y110 ++ [a1]:List Int)).bind fun y113=>((some (l0.drop (x5_1:Int).toNat:List Int)).bind fun y116=>(if y113.length + y116.length < 17592186044416 then (some (y113 ++ y116)) else (none)))) else (none))) else (none))) else (none)) = some r:=aq3
   have Ny103:=am hy_
   clear hy_
   have c9b0:=eq_true (of_decide_eq_true aq4:0 ≤ x5_1)
   by_cases c10:x5_1 ≤ (l0.length:Int)
   rotate_left
   ·rw [if_neg c10] at H
    exact absurd H (by simp)
   rw [if_pos c10] at H
   have c10b0:=eq_true c10
   have c10b1:=decide_eq_true c10
   clear c10
   obtain ⟨y106,hy_⟩:∃ y_:List Int,y_ = (l0.take (x5_1:Int).toNat):=⟨_,rfl⟩
   replace H:(if y103.length + y106.length < 17592186044416 then ((some (y103 ++ y106:List Int)).bind fun y110=>(if y110.length < 17592186044416 then ((some (y110 ++ [a1]:List Int)).bind fun y113=>((some (l0.drop (x5_1:Int).toNat:List Int)).bind fun y116=>(if y113.length + y116.length < 17592186044416 then (some (y113 ++ y116)) else (none)))) else (none))) else (none)) = some r:=aq3
   have Ny106:=am hy_
   clear hy_
   by_cases c11:y103.length + y106.length < 17592186044416
   rotate_left
   ·rw [if_neg c11] at H
    exact absurd H (by simp)
   rw [if_pos c11] at H
   have LMc11:=am c11
   clear c11
   obtain ⟨y110,hy_⟩:∃ y_:List Int,y_ = (y103 ++ y106):=⟨_,rfl⟩
   replace H:(if y110.length < 17592186044416 then ((some (y110 ++ [a1]:List Int)).bind fun y113=>((some (l0.drop (x5_1:Int).toNat:List Int)).bind fun y116=>(if y113.length + y116.length < 17592186044416 then (some (y113 ++ y116)) else (none)))) else (none)) = some r:=aq3
   have Ny110:=am hy_
   clear hy_
   by_cases c12:y110.length < 17592186044416
   rotate_left
   ·rw [if_neg c12] at H
    exact absurd H (by simp)
   rw [if_pos c12] at H
   have LMc12:=am c12
   clear c12
   obtain ⟨y113,hy_⟩:∃ y_:List Int,y_ = (y110 ++ [a1]):=⟨_,rfl⟩
   replace H:((some (l0.drop (x5_1:Int).toNat:List Int)).bind fun y116=>(if y113.length + y116.length < 17592186044416 then (some (y113 ++ y116)) else (none))) = some r:=aq3
   have Ny113:=am hy_
   clear hy_
   have c13b0:=eq_true (of_decide_eq_true aq4:0 ≤ x5_1)
   have c14b0:=eq_true (of_decide_eq_true aq4:x5_1 ≤ (l0.length:Int))
   obtain ⟨y116,hy_⟩:∃ y_:List Int,y_ = (l0.drop (x5_1:Int).toNat):=⟨_,rfl⟩
   replace H:(if y113.length + y116.length < 17592186044416 then (some (y113 ++ y116)) else (none)) = some r:=aq3
   have Ny116:=am hy_
   clear hy_
   by_cases c15:y113.length + y116.length < 17592186044416
   rotate_left
   ·rw [if_neg c15] at H
    exact absurd H (by simp)
   rw [if_pos c15] at H
   have LMc15:=am c15
   clear c15
   obtain ⟨y120,hy_⟩:∃ y_:List Int,y_ = (y113 ++ y116):=⟨_,rfl⟩
   replace H:(some y120) = some r:=aq3
   have Ny120:=am hy_
   clear hy_
   obtain rfl:=Option.some.inj H
   obtain ⟨Ao16,co16,eo16⟩:=Kd.R_slice HO_0.out
   subst eo16
   have p101:0 ≤ (x5_1:Int):=of_decide_eq_true aq4
   have q101:x5_1 < (l0.length:Int):=of_decide_eq_true aq4
   obtain ⟨ad101,e101,hx101_0⟩:=Kd.at_int (Kd.R_reads' HO_0.out).2.2 x5_1 p101 q101
   cases e101
   replace p101:=eq_true p101
   replace q101:=eq_true q101
   have p102:0 ≤ (x5_1:Int):=of_decide_eq_true aq4
   have q102:x5_1 < (l0.length:Int):=of_decide_eq_true aq4
   obtain ⟨ad102,e102,hx102_0⟩:=Kd.at_int (Kd.R_reads' HO_0.out).2.2 x5_1 p102 q102
   obtain rfl:ad101 = ad102:=(by injection e102)
   replace p102:=eq_true p102
   replace q102:=eq_true q102
   go_wp2_with (first | ((with_reducible refine gate_dst (N:=34) rfl ?_);refine Kd.R_lit (Kd.int .i64) _ 3 ?hg (N:=34) ?hd (xs:=([]:List Int)) (inner:=[]) (ok:=fun _=>True) (okp:=fun _=>True) ?hr ?hp (fun _ hk=>hk) trivial (Below.refl _ _) (Nat.le_refl _) (by simp) ?_;(case hd=>rfl);(case hg=>rfl);(case hr=>exact aq20);(case hp=>exact aq101);intro v104 w17 ho18 hb hg_ hnew_;clear hg_ hnew_;(first | rw [← Ny103.out] at ho18 | (simp only [Int.reduceToNat] at ho18;rw [← Ny103.out] at ho18));have HO105:=am (Kd.R_lower (Kd.R_new' (Kd.R_newM (M:=fun k_=>(P0_ k_ ∨ w.heap.size ≤ k_)) ho18 aq31 (fun k_ h_=>.inr h_)) (Kd.R_lt aq11)) (below_size aq1));replace HO_0:=am (Kd.R_elder' aq11 (Kd.R_base ho18) hb);replace HK:=am (Kept.below (S:=(fun k_=>P0_ k_)) aq17 hb);replace HB:=am (below_step aq1 hb);clear hb ho18;have q19:(x5_1:Int) ≤ ((l0.length:Int):Int):=of_decide_eq_true aq4;obtain ⟨i019,hi019,_,hsz19,_⟩:=info_parts info3;have hroom19:l0.length ≤ co16:=(Kd.R_reads' HO_0.out).2.1;have hC19:Kd.C (Kd.int .i64) _ (some ad101) l0.length l0:=(Kd.R_reads' HO_0.out).2.2;have hcut19:=cut_to (P:=Tryz.prog) 40 3 .i64 Tryz.underlying40 hi019 (some ad101) l0.length co16 x5_1 (of_decide_eq_true aq4) q19 hroom19;have hr19:=Kd.C_take (m:=(x5_1:Int).toNat) hC19 (by omega);have hy19:y106.length = (x5_1:Int).toNat:=(by rw [Ny106.out,List.length_take];omega);rw [← Ny106.out] at hr19;rw [← hy19] at hcut19;have HR109:=am hr19;have HC109:=am (show y106.length ≤ co16 from by omega);clear hr19 hC19 hroom19 hi019 hsz19;have KY19:=am hy19;clear hy19;have KL19:=am (show (x5_1:Int).toNat ≤ l0.length from by omega);replace q19:=eq_true q19) | ((with_reducible refine gate_builtin (b:=.append) (xs:=#[.tmp 34,.tmp 37]) rfl ?_);at_builtin;refine Kd.R_append_rows (Kd.int .i64) (w0:=w0) w0.heap.size rfl (.tmp 34) (.tmp 37) 40 3 (.int .i64 0) 8 rfl Tryz.underlying40 info3 rfl (by decide) (by omega) v104 y103 y106 _ _ _ (fun k_=>(P0_ k_ ∨ w.heap.size ≤ k_) ∧ some k_ ≠ (.slice (some ad101) l0.length co16:Value).ownBlock) (fun _=>False) rfl rfl ?aO ?aR (fun _ _ h=>h) (fun _ h=>h.elim) ?aF ?aB ?aS ?aL ?_;(case aR=>repeat (first | exact (by repeat (first | (with_reducible exact HR109.out) | (with_reducible refine Kd.C_alloc ?_ _) | (with_reducible refine Kd.C_drewN ?_ _) | (with_reducible refine Kd.C_drew ?_) | exact HR109.out)) | (with_reducible refine Kd.C_alloc ?_ _) | (with_reducible refine Kd.C_drewN ?_ _) | (with_reducible refine Kd.C_drew ?_)));(case aB=>exact aq1);(case aF=>exact aq66);(case aO=>exact (by (with_reducible repeat (first | apply Kd.R_alloc | apply Kd.R_drewN | apply Kd.R_drew));exact Kd.R_mono HO105.out (fun _ hk=>⟨hk.1.1,hk.2⟩)));(case aS=>exact (below_size aq1));(case aL=>have:=LMc11.out;omega);intro v111 w20 ho hb hg hat;rw [← Ny110.out] at ho;replace HB:=am (hb);replace HK:=am (Kept.of_grown (S:=(fun k_=>P0_ k_)) hg aq17 (fun k_ e_=>(HO105.out.1 k_ e_).1.1));replace HR109:=am ((show Kd.C (Kd.int .i64) w20 (some ad101) y106.length y106 from by rw [Ny106.out];exact Kd.C_take (m:=(x5_1:Int).toNat) ((Kd.R_reads' (Kd.R_after (ok:=(fun k_=>(P0_ k_ ∨ w.heap.size ≤ k_))) aq11 hg hat)).2.2) KL19.out));replace HO_0:=am (Kd.R_after (ok:=(fun k_=>(P0_ k_ ∨ w.heap.size ≤ k_))) aq11 hg hat);have HO112:=am (ho);clear HO105 ho hb hg hat) | ((with_reducible refine gate_builtin (b:=.append) (xs:=#[.tmp 39,.tmp 41]) rfl ?_);at_builtin;refine Kd.R_append (Kd.int .i64) (w0:=w0) w0.heap.size rfl (.tmp 39) (.tmp 41) 40 3 (.int .i64 0) 8 rfl Tryz.underlying40 info3 rfl (by decide) (by omega) v111 y110 a1 [.int .i64 a1] (fun k_=>(P0_ k_ ∨ w.heap.size ≤ k_) ∧ some k_ ≠ (.slice (some ad101) l0.length co16:Value).ownBlock) (fun _=>False) rfl rfl ?aP (fun _ hk=>hk.elim) ?aF ?aO ?aB ?aS ?aL ?_;(case aP=>exact rfl);(case aB=>exact aq1);(case aF=>exact aq66);(case aO=>exact aq25);(case aS=>exact (below_size aq1));(case aL=>have:=LMc12.out;omega);intro v114 w21 ho hb hg hat;rw [← Ny113.out] at ho;replace HB:=am (hb);replace HK:=am (Kept.of_grown (S:=(fun k_=>P0_ k_)) hg aq17 (fun k_ e_=>(HO112.out.1 k_ e_).1));replace HR109:=am ((show Kd.C (Kd.int .i64) w21 (some ad101) y106.length y106 from by rw [Ny106.out];exact Kd.C_take (m:=(x5_1:Int).toNat) ((Kd.R_reads' (Kd.R_after (ok:=(fun k_=>(P0_ k_ ∨ w.heap.size ≤ k_))) aq11 hg hat)).2.2) KL19.out));replace HO_0:=am (Kd.R_after (ok:=(fun k_=>(P0_ k_ ∨ w.heap.size ≤ k_))) aq11 hg hat);have HO115:=am (ho);clear HO112 ho hb hg hat;have q22:(x5_1:Int) ≤ ((l0.length:Int):Int):=of_decide_eq_true aq4;obtain ⟨i022,hi022,_,hsz22,_⟩:=info_parts info3;have hroom22:l0.length ≤ co16:=(Kd.R_reads' HO_0.out).2.1;have hC22:Kd.C (Kd.int .i64) _ (some ad101) l0.length l0:=(Kd.R_reads' HO_0.out).2.2;have q022:(0:Int) ≤ (x5_1:Int):=of_decide_eq_true aq4;have hcut22:=cut_from (P:=Tryz.prog) 40 3 .i64 Tryz.underlying40 hi022 1 hsz22 (some ad101) l0.length co16 x5_1 q022 q22;have hr22:=Kd.C_drop (m:=(x5_1:Int).toNat) (c:=co16) hC22 (by omega) hroom22;obtain ⟨A22,hA22⟩:∃ A1,A1 = (if co16 = (x5_1:Int).toNat then (some ad101) else ((some ad101):Option Addr).map (·.add ((x5_1:Int).toNat * 1))):=⟨_,rfl⟩;obtain ⟨c22,hc22⟩:∃ c1,c1 = co16 - (x5_1:Int).toNat:=⟨_,rfl⟩;have hy22:y116.length = l0.length - (x5_1:Int).toNat:=(by rw [Ny116.out,List.length_drop] <;> omega);rw [show (l0).drop (x5_1:Int).toNat = y116 from Ny116.out.symm] at hr22;replace hr22:Kd.C (Kd.int .i64) _ A22 y116.length y116:=(by rw [hA22];exact hr22);rw [← hy22,← hA22,← hc22] at hcut22;have HR119:=am hr22;have HC119:=am (show y116.length ≤ c22 from by rw [hy22,hc22];exact Nat.sub_le_sub_right hroom22 _);clear hr22 hC22 hroom22 hi022 hsz22 hc22;have KY22:=am hy22;have KA22:=am hA22;clear hy22 hA22;have KL22:=am (show (x5_1:Int).toNat ≤ l0.length from by omega);replace q22:=eq_true q22) | ((with_reducible refine gate_builtin (b:=.append) (xs:=#[.tmp 43,.tmp 46]) rfl ?_);at_builtin;refine Kd.R_append_rows (Kd.int .i64) (w0:=w0) w0.heap.size rfl (.tmp 43) (.tmp 46) 40 3 (.int .i64 0) 8 rfl Tryz.underlying40 info3 rfl (by decide) (by omega) v114 y113 y116 _ _ _ (fun k_=>(P0_ k_ ∨ w.heap.size ≤ k_) ∧ some k_ ≠ (.slice (some ad101) l0.length co16:Value).ownBlock) (fun _=>False) rfl rfl ?aO ?aR (fun _ _ h=>h) (fun _ h=>h.elim) ?aF ?aB ?aS ?aL ?_;(case aR=>repeat (first | exact (by repeat (first | (with_reducible exact HR119.out) | (with_reducible refine Kd.C_alloc ?_ _) | (with_reducible refine Kd.C_drewN ?_ _) | (with_reducible refine Kd.C_drew ?_) | exact HR119.out)) | (with_reducible refine Kd.C_alloc ?_ _) | (with_reducible refine Kd.C_drewN ?_ _) | (with_reducible refine Kd.C_drew ?_)));(case aB=>exact aq1);(case aF=>exact aq66);(case aO=>exact (by (with_reducible repeat (first | apply Kd.R_alloc | apply Kd.R_drewN | apply Kd.R_drew));exact HO115.out));(case aS=>exact (below_size aq1));(case aL=>have:=LMc15.out;omega);intro v121 w23 ho hb hg hat;rw [← Ny120.out] at ho;replace HB:=am (hb);replace HK:=am (Kept.of_grown (S:=(fun k_=>P0_ k_)) hg aq17 (fun k_ e_=>(HO115.out.1 k_ e_).1));replace HR109:=am ((show Kd.C (Kd.int .i64) w23 (some ad101) y106.length y106 from by rw [Ny106.out];exact Kd.C_take (m:=(x5_1:Int).toNat) ((Kd.R_reads' (Kd.R_after (ok:=(fun k_=>(P0_ k_ ∨ w.heap.size ≤ k_))) aq11 hg hat)).2.2) KL19.out));replace HR119:=am ((show Kd.C (Kd.int .i64) w23 A22 y116.length y116 from by rw [Ny116.out,KA22.out];exact Kd.C_drop (m:=(x5_1:Int).toNat) (c:=co16) ((Kd.R_reads' (Kd.R_after (ok:=(fun k_=>(P0_ k_ ∨ w.heap.size ≤ k_))) aq11 hg hat)).2.2) KL22.out ((Kd.R_reads' (Kd.R_after (ok:=(fun k_=>(P0_ k_ ∨ w.heap.size ≤ k_))) aq11 hg hat)).2.1)));replace HO_0:=am (Kd.R_after (ok:=(fun k_=>(P0_ k_ ∨ w.heap.size ≤ k_))) aq11 hg hat);have HO122:=am (ho);clear HO115 ho hb hg hat))
   go_ret
   exact ⟨_,aq8,by (with_reducible repeat (first | apply Kd.R_alloc | apply Kd.R_drewN | apply Kd.R_drew));exact Kd.R_mono HO122.out (fun _ hk=>hk.1),aq1,aq17⟩
end Go.Proofs.YtldhkbiomingbaaGreatDoor.F

namespace Go.Proofs.YtldhkbiomingbaaGreatDoor.F
open Go.RowKit Go.Proofs.YtldhkbiomingbaaGreatDoor Go.Proofs.YtldhkbiomingbaaGreatDoorW.PrintWords Go.Proofs.YtldhkbiomingbaaGreatDoorW.PrintMore
theorem l1Put_l0 (l:List Int) (x:Int) (hl:l.length ≤ 1000):∀ (n i:Nat),i + n = l.length → Ev (fun k=>spec_l1Put.l0 k l x (i:Int)) (l.take i ++ putI x (l.drop i))
 | 0,i,hi=>by
  rw [List.drop_of_length_le (by omega)]
  refine Ev.step (f:=fun _=>some (l.take i ++ putI x [])) (fun k=>?_) (Ev.now _)
  rw [spec_l1Put.l0,if_neg (by omega),Option.bind_some,if_pos (by omega),if_pos (by omega),Option.bind_some,Int.toNat_natCast,if_pos (by rw [List.length_take,List.length_nil];omega),Option.bind_some,List.nil_append,if_pos (by rw [List.length_take];omega),Option.bind_some,Option.bind_some,if_pos (by rw [List.length_append,List.length_take,List.length_drop,List.length_singleton];omega),List.drop_of_length_le (by omega),List.append_nil]
  rfl
 | n + 1,i,hi=>by
  have hil:i < l.length:=by omega
  have HW:Aside0 (wrap64 ((i:Int) + 1) = ((i + 1:Nat):Int)):=⟨by rw [w64 (by omega) (by omega)];rfl⟩
  have hrd:rd l (i:Int) = l[i]'hil:=by rw [rdN,List.getD_eq_getElem?_getD,List.getElem?_eq_getElem hil];rfl
  have hdr:l.drop i = l[i] :: l.drop (i + 1):=List.drop_eq_getElem_cons hil
  by_cases h1:l[i] < x
  ·have ih:=l1Put_l0 l x hl n (i + 1) (by omega)
   rw [show l.take i ++ putI x (l.drop i) = l.take (i + 1) ++ putI x (l.drop (i + 1)) from by
    rw [hdr,List.take_succ_eq_append_getElem hil,List.append_assoc]
    congr 1
    show (if l[i] < x then _ else _) = _
    rw [if_pos h1];rfl]
   exact Ev.step (fun k=>by rw [spec_l1Put.l0,if_pos (by omega),if_pos (by omega),hrd,if_pos h1,HW.out]) ih
  by_cases h2:l[i] = x
  ·rw [show l.take i ++ putI x (l.drop i) = l from by
    rw [hdr]
    show l.take i ++ (if l[i] < x then _ else if l[i] = x then _ else _) = _
    rw [if_neg h1,if_pos h2,← hdr,List.take_append_drop]]
   exact Ev.step (f:=fun _=>some l) (fun k=>by rw [spec_l1Put.l0,if_pos (by omega),if_pos (by omega),hrd,if_neg h1,if_pos h2]) (Ev.now _)
  rw [show l.take i ++ putI x (l.drop i) = (l.take i ++ [x]) ++ l.drop i from by
   rw [hdr]
   show l.take i ++ (if l[i] < x then _ else if l[i] = x then _ else _) = _
   rw [if_neg h1,if_neg h2,List.append_assoc];rfl]
  refine Ev.step (f:=fun _=>some ((l.take i ++ [x]) ++ l.drop i)) (fun k=>?_) (Ev.now _)
  rw [spec_l1Put.l0,if_pos (by omega),if_pos (by omega),hrd,if_neg h1,if_neg h2,Option.bind_some,if_pos (by omega),Option.bind_some,Int.toNat_natCast,if_pos (by rw [List.length_take,List.length_nil];omega),Option.bind_some,List.nil_append,if_pos (by rw [List.length_take];omega),Option.bind_some,Option.bind_some,if_pos (by rw [List.length_append,List.length_take,List.length_drop,List.length_singleton];omega)]
theorem l1Put_ev (l:List Int) (x:Int) (hl:l.length ≤ 1000):Ev (fun k=>spec_l1Put.f k l x) (putI x l):=by
 have h0:=l1Put_l0 l x hl l.length 0 (by omega)
 rw [List.drop_zero,List.take_zero,List.nil_append] at h0
 exact h0
end Go.Proofs.YtldhkbiomingbaaGreatDoor.F

namespace Go.Proofs.YtldhkbiomingbaaGreatDoor.F
open Go.Proofs.YtldhkbiomingbaaGreatDoor
open Go.RowKit Go.Proofs.YtldhkbiomingbaaGreatDoorW.PrintWords Go.Proofs.YtldhkbiomingbaaGreatDoorW.PrintLast Go.Proofs.YtldhkbiomingbaaGreatDoorW.PrintMore Go.Lib
attribute [local go_sem] max2_int min2_int
def cellsA (t n:ByteArray):List Int × Bool:=match ballS t n with
 | none=>([],false)
 | some q=>(setI (cellsI q.2.2 (bt n 0)),true)
def spec_CellsOfBall.f (t n:ByteArray):Option (List Int × Bool):=some (cellsA t n)
theorem setI_snoc (l:List Int) (x:Int):setI (l ++ [x]) = putI x (setI l):=by
 unfold setI
 rw [List.foldl_append];rfl
theorem putI_len (n:Int):∀ l,(putI n l).length ≤ l.length + 1
 | []=>Nat.le_refl _
 | y :: l=>by
  unfold putI
  split
  ·rw [List.length_cons,List.length_cons];have:=putI_len n l;omega
  ·split
   ·rw [List.length_cons];omega
   ·rw [List.length_cons,List.length_cons];omega
theorem setI_go_len:∀ (l o:List Int),(l.foldl (fun o x=>putI x o) o).length ≤ l.length + o.length
 | [],o=>by simp
 | x :: l,o=>by
  rw [List.foldl_cons,List.length_cons]
  have h1:=setI_go_len l (putI x o)
  have h2:=putI_len x o
  omega
theorem setI_len (l:List Int):(setI l).length ≤ l.length:=by
 have:=setI_go_len l []
 simpa [setI] using this
theorem cellsI_take (s:RS) (n:Int) {i:Nat} (hi:i < s.T.length):(cellsI s n).take (i + 1) = (cellsI s n).take i ++ [placeI n (s.T.getD i [])]:=by
 have h':i < (cellsI s n).length:=by rw [cellsI_len];exact hi
 rw [List.take_succ_eq_append_getElem h',← cellsI_get s n hi,getD_lt h']
set_option maxRecDepth 100000 in
set_option maxHeartbeats 8000000 in
theorem spec_CellsOfBall.calls (a0 a1:ByteArray) (r1:List Int) (r2:Bool) (w:World) (h:spec_CellsOfBall.f a0 a1 = some (r1,r2)) :
  Calls Tryz.prog 41 #[.string a0,.string a1] w fun e w'=>∃ v0_:Value,e = .returned (.tuple #[v0_,.bool r2]) ∧ Kd.R (Kd.int .i64) 3 w' w.heap.size (fun _=>True) v0_ r1 ∧ Below w.heap.size w w':=by
 obtain ⟨K,hK⟩:=spec_reBall_ev a0 a1
 have hball:=hK K (Nat.le_refl _)
 have HR:=am (show cellsA a0 a1 = (r1,r2) from Option.some.inj h)
 clear hK h
 cases hs:ballS a0 a1 with
 | none =>
  have HA:=am (show spec_reBall.f K a0 a1 = some ([],false) from hball.trans (by unfold ballA;rw [hs]))
  obtain ⟨rfl,rfl⟩:[] = r1 ∧ false = r2:=by have h:=HR.out;unfold cellsA at h;rw [hs] at h;exact Prod.mk.inj h
  clear hball hs HR
  go_enter Tryz.func41,Tryz.ntmps41
  go_wp2_with (first
   | (go_at_call 79;refine (spec_reBall.calls K a0 a1 _ _ _ HA.out).mono ?_;rintro e w1 ⟨v1,rfl,ho1,hb1⟩;obtain ⟨A1,c1,rfl⟩:=Kd.R_slice ho1;have HB1:=am hb1;clear ho1 hb1))
  go_loopw [8,20] (fun v8 v20 wr=>v8 = .slice none 0 0 ∧ v20 = .int .i64 0 ∧ Aside0 (Below w.heap.size w wr)) (fun _ _ _=>0)
  case atStart=>exact ⟨rfl,rfl,HB1⟩
  case round =>
   obtain ⟨rfl,rfl,HQ⟩:=hrel
   go_wp2
   go_ret2
   exact ⟨_,rfl,Kd.R_nil _ _ _ _ _,HQ.out⟩
 | some q =>
  obtain ⟨gw,gh,s⟩:=q
  obtain ⟨hsr,hnm⟩:=ballS_some hs
  obtain ⟨cs,_,_,_,_,o2⟩:=srch_some hsr
  have HA:=am (show spec_reBall.f K a0 a1 = some (nodesOf gw gh s,true) from hball.trans (by unfold ballA;rw [hs]))
  have HO2:=am o2
  obtain ⟨rfl,rfl⟩:setI (cellsI s (bt a1 0)) = r1 ∧ true = r2:=by have h:=HR.out;unfold cellsA at h;rw [hs] at h;exact Prod.mk.inj h
  have hz:=name_byte hnm
  have hnm1:(0:Int) < (a1.size:Int):=by omega
  have hnm2:0 < a1.size:=by omega
  have hbt:∀ h:0 < a1.size,((a1[0]'h).toNat:Int) = bt a1 0:=bt_at a1 0
  have hq0:((0:Int) < (a1.size:Int)) = True:=eq_true hnm1
  clear hball hs hsr hnm o2 HR hz
  go_enter Tryz.func41,Tryz.ntmps41
  go_wp2_with (first
   | (go_at_call 79;refine (spec_reBall.calls K a0 a1 _ _ _ HA.out).mono ?_;rintro e w3 ⟨v3,rfl,ho3,hb3⟩;have HB3:=am hb3;obtain ⟨b,o,c,rfl,hc,hst⟩:=states_open HO2.out ho3;have HST:=am hst;clear ho3 hb3 hst hc))
  go_loopw [8,20] (fun v8 v20 wr=>∃ (i:Nat),i ≤ s.T.length ∧ v20 = .int .i64 i ∧ Aside0 (Kd.R (Kd.int .i64) 3 wr w3.heap.size (fun _=>True) v8 (setI ((cellsI s (bt a1 0)).take i))) ∧ Aside0 (Below w3.heap.size w3 wr)) (fun _ v20 _=>s.T.length - (intOf v20).toNat)
  case atStart=>exact ⟨0,Nat.zero_le _,rfl,⟨Kd.R_nil _ _ _ _ _⟩,⟨Below.refl _ _⟩⟩
  case round =>
   obtain ⟨i,hi,rfl,HS,HQ⟩:=hrel
   by_cases hlt:i < s.T.length
   rotate_left
   ·have hge:¬ (i:Int) < (s.T.length:Int):=by omega
    obtain rfl:i = s.T.length:=by omega
    have HS2:=am (show Kd.R (Kd.int .i64) 3 wr w3.heap.size (fun _=>True) _ (setI (cellsI s (bt a1 0))) by have h:=HS.out;rw [List.take_of_length_le (by rw [cellsI_len];exact Nat.le_refl _)] at h;exact h)
    clear HS
    go_wp2
    go_ret2
    exact ⟨_,rfl,Kd.R_lower HS2.out HB3.out.size,below_step HB3.out HQ.out⟩
   have hltI:(i:Int) < (s.T.length:Int):=by omega
   obtain ⟨p,Ag,cg,Ax,cx,zp,z0,z1,z2,_,_,_,_,hcg,hCg,_,hl⟩:=HST.out wr HQ.out i hlt
   have HL:=am hlt
   have HCG:=am (And.intro hcg (And.intro hCg hl))
   have hw1:IntKind.i64.wrap ((i:Int) + 1) = ((i + 1:Nat):Int):=by rw [IntKind.wrap_i64];have:=HO2.out.ok.most;omega
   have HTK:=am (show setI ((cellsI s (bt a1 0)).take (i + 1)) = putI (placeI (bt a1 0) (s.T.getD i [])) (setI ((cellsI s (bt a1 0)).take i)) by rw [cellsI_take s _ hlt,setI_snoc])
   obtain ⟨cg0,hcg0⟩:∃ c,s.T.getD i [] = c:=⟨_,rfl⟩
   rw [hcg0] at z2 HCG HTK
   obtain ⟨pl,hpl⟩:∃ pl,placeI (bt a1 0) cg0 = pl:=⟨_,rfl⟩
   rw [hpl] at HTK
   have HPL:=am (fun W Ag cg (hl:cg0.length ≤ 1000) (hc:cg0.length ≤ cg) (hC:(Kd.int .u8).C W Ag cg0.length cg0)=>by have h:=place_call hl hc hC gw gh (bt a1 0);rw [hpl] at h;exact h:∀ (W:World) (Ag:Option Addr) (cg:Nat),cg0.length ≤ 1000 → cg0.length ≤ cg → (Kd.int .u8).C W Ag cg0.length cg0 → Calls Tryz.prog 56 #[.agg #[.int .i64 gw,.int .i64 gh,.slice Ag cg0.length cg],.int .u8 (bt a1 0)] W fun e w'=>e = .returned (.int .i64 pl) ∧ Below W.heap.size W w')
   have hsrt:=setI_sorted ((cellsI s (bt a1 0)).take i)
   have hlen:=setI_len ((cellsI s (bt a1 0)).take i)
   obtain ⟨seen,hseen⟩:∃ l,setI ((cellsI s (bt a1 0)).take i) = l:=⟨_,rfl⟩
   rw [hseen] at hsrt hlen HTK HS
   have hseen:seen.length ≤ 1000:=by have:=HO2.out.ok.most;rw [List.length_take] at hlen;omega
   obtain ⟨KH,hKH⟩:=l1Has_ev seen pl hseen
   have HHAS:=am (hKH KH (Nat.le_refl _))
   obtain ⟨KP,hKP⟩:=l1Put_ev seen pl hseen
   have HPUT:=am (hKP KP (Nat.le_refl _))
   have HSRT:=am hsrt
   obtain ⟨A11,c11,rfl⟩:=Kd.R_slice HS.out
   clear hcg hCg hl hlt hi hcg0 hpl hKH hKP hseen hsrt hlen
   go_wp2
   refine start_ (n:=8) (S:=fun w'=>w'.cell? ⟨p,0,none⟩ = some (.int .i64 gw) ∧ w'.cell? ⟨p,1,none⟩ = some (.int .i64 gh) ∧ w'.cell? ⟨p,2,none⟩ = some (.slice Ag cg0.length cg)) (ds:=[]) (bm 8 0) (by kernel_rfl) rfl rfl ⟨z0,z1,z2⟩ (fun hHeld=>?_)
   refine take_ (i:=0) (N:=some 24) (v:=?_) (a':=?_) (bm 8 1) rfl rfl (by kernel_rfl) (fun _ _ _ h=>h) (Or.inl ⟨by rfl,?_⟩) hHeld ?_ ?_
   rotate_left
   ·rintro w' ⟨s_0,s_1,s_2⟩
    go_simp
    try with_reducible rfl
   rotate_left
   ·simp only [Act.put,ac_]
    rfl
   refine take_ (i:=1) (N:=some 25) (v:=?_) (a':=?_) (bm 8 3) rfl rfl (by kernel_rfl) (fun _ _ _ h=>h) (Or.inl ⟨by rfl,?_⟩) hHeld ?_ ?_
   rotate_left
   ·rintro w' ⟨s_0,s_1,s_2⟩
    go_simp
    try with_reducible rfl
   rotate_left
   ·simp only [Act.put,ac_]
    rfl
   refine take_ (i:=2) (N:=some 26) (v:=?_) (a':=?_) (bm 8 7) rfl rfl (by kernel_rfl) (fun _ _ _ h=>h) (Or.inl ⟨by rfl,?_⟩) hHeld ?_ ?_
   rotate_left
   ·rintro w' ⟨s_0,s_1,s_2⟩
    go_simp
    try with_reducible rfl
   rotate_left
   ·simp only [Act.put,ac_]
    rfl
   refine take_ (i:=3) (N:=some 27) (v:=?_) (a':=?_) (bm 8 15) rfl rfl (by kernel_rfl) (fun _ _ _ h=>h) (Or.inl ⟨by rfl,?_⟩) hHeld ?_ ?_
   rotate_left
   ·rintro w' ⟨s_0,s_1,s_2⟩
    go_simp
    try with_reducible rfl
   rotate_left
   ·simp only [Act.put,ac_]
    rfl
   refine take_ (i:=4) (N:=some 28) (v:=?_) (a':=?_) (bm 8 31) rfl rfl (by kernel_rfl) (fun _ _ _ h=>h) (Or.inl ⟨by rfl,?_⟩) hHeld ?_ ?_
   rotate_left
   ·rintro w' ⟨s_0,s_1,s_2⟩
    go_simp
    try with_reducible rfl
   rotate_left
   ·simp only [Act.put,ac_]
    rfl
   refine take_ (i:=5) (N:=some 29) (v:=?_) (a':=?_) (bm 8 63) rfl rfl (by kernel_rfl) (fun _ _ _ h=>h) (Or.inl ⟨by rfl,?_⟩) hHeld ?_ ?_
   rotate_left
   ·rintro w' ⟨s_0,s_1,s_2⟩
    go_simp
    try with_reducible rfl
   rotate_left
   ·simp only [Act.put,ac_]
    rfl
   refine one_ (i:=6) (N:=some 30) (bm 8 127) rfl rfl (by kernel_rfl) (by decide) (fun K' hK'=>?_)
   refine goes_ Tryz.func56 (by kernel_rfl) rfl #[.agg #[.int .i64 gw,.int .i64 gh,.slice Ag cg0.length cg],.int .u8 (bt a1 0)] (by rfl) rfl rfl (by (try simp only [List.map_toArray,List.map_cons,List.map_nil]);first | done | rfl) ?_
   refine (HPL.out _ Ag cg HCG.out.2.2 HCG.out.1 (by exact HCG.out.2.1)).mono ?_
   rintro e w4 ⟨rfl,hb4⟩
   have HB4:=am (show Below wr.heap.size wr w4 from ⟨hb4.os,hb4.tape,hb4.output,hb4.size,hb4.block⟩)
   refine ⟨_,rfl,?_⟩
   refine hK'.out _ _ ⟨(HB4.out.cell (World.block_lt_of_cell? wr _ z0)).trans z0,(HB4.out.cell (World.block_lt_of_cell? wr _ z1)).trans z1,(HB4.out.cell (World.block_lt_of_cell? wr _ z2)).trans z2⟩ (fun hHeld=>?_)
   clear hK' K' hb4 z0 z1 z2
   refine nm (some 30) ?_
   refine take_ (i:=7) (N:=some 11) (v:=?_) (a':=?_) (bm 8 255) rfl rfl (by kernel_rfl) (fun _ _ _ h=>h) (Or.inl ⟨by rfl,?_⟩) hHeld ?_ ?_
   rotate_left
   ·rintro w' ⟨s_0,s_1,s_2⟩
    go_simp
    try with_reducible rfl
   rotate_left
   ·simp only [Act.put,ac_]
    rfl
   refine done_ (by kernel_rfl) ?_
   have HQ4:=am (below_step HQ.out HB4.out)
   have HS4:=am (Kd.R_below HS.out HB4.out)
   clear hHeld HPL HCG HS HQ
   by_cases hin:pl ∈ seen
   rotate_left
   ·rw [decide_eq_false hin] at HHAS
    clear hin
    go_wp2_with (first
     | (go_at_call 80;refine (spec_l1Has.calls KH A11 c11 seen pl _ _ (Kd.R_reads' HS4.out).2.2 (Kd.R_reads' HS4.out).2.1 HHAS.out).mono ?_;rintro e w5 ⟨rfl,⟨nd,rfl⟩⟩;have HS5:=am (Kd.R_drewN HS4.out nd);have HQ5:=am (pw_below_drewN HQ4.out nd))
     | (go_at_call 81;refine (spec_l1Put.calls KP (fun _=>True) _ seen pl _ w3 _ HQ5.out HS5.out HPUT.out).mono ?_;rintro e w6 ⟨v6,rfl,ho6,hb6,_⟩;obtain ⟨A6,c6,rfl⟩:=Kd.R_slice ho6;have HS6:=am (R_true ho6);have HQ6:=am hb6;clear ho6 hb6))
    go_roundw
    case rel=>exact ⟨i + 1,HL.out,by first | rfl | simp,⟨by rw [HTK.out];exact HS6.out⟩,HQ6⟩
    case measure=>have:=HL.out;simp [intOf];omega
   rw [decide_eq_true hin] at HHAS
   have HTK2:=am (show setI ((cellsI s (bt a1 0)).take (i + 1)) = seen by rw [HTK.out,putI_has HSRT.out hin])
   clear hin
   go_wp2_with (first
    | (go_at_call 80;refine (spec_l1Has.calls KH A11 c11 seen pl _ _ (Kd.R_reads' HS4.out).2.2 (Kd.R_reads' HS4.out).2.1 HHAS.out).mono ?_;rintro e w5 ⟨rfl,⟨nd,rfl⟩⟩))
   go_roundw
   case rel=>exact ⟨i + 1,HL.out,by first | rfl | simp,⟨by rw [HTK2.out];exact Kd.R_drewN HS4.out nd⟩,⟨pw_below_drewN HQ4.out nd⟩⟩
   case measure=>have:=HL.out;simp [intOf];omega
end Go.Proofs.YtldhkbiomingbaaGreatDoor.F

namespace Go.Proofs.YtldhkbiomingbaaGreatDoor
open Go.RowKit Go.Proofs.YtldhkbiomingbaaGreatDoorW.PrintWords Go.Proofs.YtldhkbiomingbaaGreatDoorW.PrintLast Go.Proofs.YtldhkbiomingbaaGreatDoorW.PrintMore Go.Lib Go.Shelf Go.Sort
section
variable {α:Type} [Inhabited α] {enc:α → Value} {h1:∀ x,(enc x).oneCell' = true} {e base:Nat} {W:World} {ok:Nat → Prop} {v:Value} {xs:List α}
theorem row_sorted (h:(Kd.scalar enc h1).R e W base ok v xs):(∃ A c,v = .slice A 0 c ∧ xs = []) ∨
  ∃ g cap,v = .slice (some ⟨g,0,none⟩) xs.length cap ∧ xs.length ≤ cap ∧ base ≤ g ∧ g < W.heap.size ∧ Holds enc W g 0 xs.toArray ∧
   ∀ (ds:List α) (m n:Nat) (os:Array Obj),ds.length = xs.length → m ≤ ds.length → (Kd.scalar enc h1).R e (Go.Sort.grow (putRow enc (Sort.ahead W n) g 0 ds.toArray) os) base ok (.slice (some ⟨g,0,none⟩) m cap) (ds.take m):=by
 obtain ⟨h0,ho⟩:=h
 have ho':=Kd.own_of_R ⟨h0,ho⟩
 obtain ⟨hl,⟨rfl,hx⟩ | ⟨g,cap,cur,rfl,hg,hrow,hcl,hcm,hsz,htk⟩⟩:=ho'
 ·exact .inl ⟨none,0,rfl,List.eq_nil_of_length_eq_zero hx⟩
 ·rw [Nat.mul_one] at hsz htk
  by_cases hz:xs = []
  ·subst hz;exact .inl ⟨_,cap,rfl,rfl⟩
  refine .inr ⟨g,cap,rfl,hcl,hg,blk_lt hrow,?_,?_⟩
  ·intro j hj
   have hj':j < xs.length:=by simpa using hj
   refine ⟨(blk_cell hrow (0 + j)).trans ?_,blk_frozen hrow _⟩
   rw [Nat.zero_add,← Array.getElem?_toList]
   have:(encs enc xs)[j]? = cur.toList[j]?:=by
    rw [← htk,List.getElem?_take,if_pos hj']
   rw [← this,encs_get (d:=default) xs j hj']
   congr 2
   rw [getElem!_pos xs.toArray j hj,List.getD_eq_getElem?_getD,List.getElem?_eq_getElem hj'];simp
  ·intro ds m n os hds hm
   refine Kd.R_of_own (enc:=enc) (h1:=h1) ?_ (fun k hk=>h0 k hk)
   have hlen:(ds.take m).length = m:=by rw [List.length_take];omega
   refine ⟨by rw [encs_length,hlen];omega,.inr ⟨g,cap,putCells enc 0 ds.toArray cur,by rw [hlen],hg,?_,by rw [hlen];omega,hcm,?_,?_⟩⟩
   ·have:=sortWorld_heap enc W g n g ds.toArray os (blk_lt hrow)
    unfold sortWorld at this
    rw [this,if_pos rfl,hrow];rfl
   ·rw [Nat.mul_one,← hsz];unfold putCells;simp
   ·rw [Nat.mul_one,hlen]
    unfold putCells encs
    apply List.ext_getElem
    ·simp;omega
    ·intro i h1 h2
     have hi:i < m:=by rw [List.length_map,hlen] at h2;exact h2
     have hid:i < ds.length:=by omega
     simp [hid]
end
theorem sort_below {α:Type} [Inhabited α] (enc:α → Value) {w W:World} (g m:Nat) (d:Array α) (os:Array Obj) (hW:Go.RowKit.Below w.heap.size w W) (hg:w.heap.size ≤ g):Go.RowKit.Below w.heap.size w (Go.Sort.grow (putRow enc (Sort.ahead W m) g 0 d) os):=sortWorld_below enc g m d os hW hg
theorem sort_other {α:Type} [Inhabited α] (enc:α → Value) (W:World) (g m k:Nat) (d:Array α) (os:Array Obj) (hk:k < W.heap.size) (hne:k ≠ g):(Go.Sort.grow (putRow enc (Sort.ahead W m) g 0 d) os).heap[k]? = W.heap[k]?:=by
 have:=sortWorld_heap enc W g m k d os hk
 rw [if_neg (fun e=>hne e.symm)] at this
 exact this
theorem sort_int_calls {W:World} {base:Nat} {ok:Nat → Prop} {v:Value} {xs:List Int} (h:Kd.R (Kd.int .i64) 3 W base ok v xs) (hlen:xs.length < 65536) :
  Calls Tryz.prog 82 #[v] W fun e w'=>e = .returned (.tuple #[]) ∧ Kd.R (Kd.int .i64) 3 w' base ok v (xs.mergeSort fun x y=>decide (x ≤ y)) ∧ (∀ w:World,Go.RowKit.Below w.heap.size w W → w.heap.size ≤ base → Go.RowKit.Below w.heap.size w w') ∧ W.heap.size ≤ w'.heap.size ∧ ∀ k,k < W.heap.size → some k ≠ v.ownBlock → w'.heap[k]? = W.heap[k]?:=by
 rcases row_sorted h with ⟨A,c,rfl,rfl⟩ | ⟨g,cap,rfl,hcap,hg,hlt,hH,hput⟩
 ·refine (Tryz.slices_Sort_int_none A c W).mono ?_
  rintro e w' ⟨rfl,rfl⟩
  exact ⟨rfl,by rw [List.mergeSort_nil];exact h,fun w hw _=>hw,Nat.le_refl _,fun k _ _=>rfl⟩
 ·refine (Tryz.slices_Sort_int g 0 cap xs W hH hlt (by omega)).mono ?_
  rintro e w' ⟨rfl,n,os,rfl⟩
  have hl:(xs.mergeSort fun x y=>decide (x ≤ y)).length = xs.length:=(List.mergeSort_perm xs _).length_eq
  have hR:=hput (xs.mergeSort fun x y=>decide (x ≤ y)) xs.length n os hl (by rw [hl];exact Nat.le_refl _)
  rw [List.take_of_length_le (by rw [hl];exact Nat.le_refl _)] at hR
  exact ⟨rfl,hR,fun w hw hb=>sort_below _ g n _ os hw (Nat.le_trans hb hg),sortWorld_size _ W g n _ os,fun k hk hne=>sort_other _ W g n k _ os hk (fun q=>hne (by rw [q];rfl))⟩
theorem compact_int_calls {W:World} {base:Nat} {ok:Nat → Prop} {v:Value} {xs:List Int} (h:Kd.R (Kd.int .i64) 3 W base ok v xs) (hlen:xs.length < 65536) :
  Calls Tryz.prog 83 #[v] W fun e w'=>∃ v',e = .returned v' ∧ v'.ownBlock = v.ownBlock ∧ Kd.R (Kd.int .i64) 3 w' base ok v' (Go.Lib.compact xs) ∧ (∀ w:World,Go.RowKit.Below w.heap.size w W → w.heap.size ≤ base → Go.RowKit.Below w.heap.size w w') ∧ W.heap.size ≤ w'.heap.size ∧ ∀ k,k < W.heap.size → some k ≠ v.ownBlock → w'.heap[k]? = W.heap[k]?:=by
 rcases row_sorted h with ⟨A,c,rfl,rfl⟩ | ⟨g,cap,rfl,hcap,hg,hlt,hH,hput⟩
 ·refine (Tryz.slices_Compact_int_empty A c W).mono ?_
  rintro e w' ⟨rfl,rfl⟩
  exact ⟨_,rfl,rfl,h,fun w hw _=>hw,Nat.le_refl _,fun k _ _=>rfl⟩
 ·refine (Tryz.slices_Compact_int g 0 cap xs W hH (by omega) hcap).mono ?_
  rintro e w' ⟨rfl,n,rfl⟩
  have hle:=compact_le xs
  have hl:(Go.Lib.compact xs ++ List.replicate (xs.length - (Go.Lib.compact xs).length) 0).length = xs.length:=by rw [List.length_append,List.length_replicate];omega
  have hR:=hput (Go.Lib.compact xs ++ List.replicate (xs.length - (Go.Lib.compact xs).length) 0) (Go.Lib.compact xs).length n #[] hl (by rw [hl];exact hle)
  rw [List.take_left,Go.Sort.grow_empty] at hR
  have hb:=fun w hw (hb:w.heap.size ≤ base)=>sort_below (Value.int .i64) g n (Go.Lib.compact xs ++ List.replicate (xs.length - (Go.Lib.compact xs).length) 0).toArray #[] (w:=w) (W:=W) hw (Nat.le_trans hb hg)
  have ho:=fun k hk hne=>sort_other (Value.int .i64) W g n k (Go.Lib.compact xs ++ List.replicate (xs.length - (Go.Lib.compact xs).length) 0).toArray #[] hk hne
  have hs:=sortWorld_size (Value.int .i64) W g n (Go.Lib.compact xs ++ List.replicate (xs.length - (Go.Lib.compact xs).length) 0).toArray #[]
  unfold sortWorld at hs
  simp only [Go.Sort.grow_empty] at hb ho hs
  exact ⟨_,rfl,rfl,hR,hb,hs,fun k hk hne=>ho k hk (fun q=>hne (by rw [q];rfl))⟩
end Go.Proofs.YtldhkbiomingbaaGreatDoor

namespace Go.Proofs.YtldhkbiomingbaaGreatDoor.F
open Go.Proofs.YtldhkbiomingbaaGreatDoor
open Go.RowKit Go.Proofs.YtldhkbiomingbaaGreatDoorW.PrintWords Go.Proofs.YtldhkbiomingbaaGreatDoorW.PrintLast Go.Proofs.YtldhkbiomingbaaGreatDoorW.PrintMore
attribute [local go_sem] max2_int min2_int
def impl_CellsOfBall.f (k:Nat) (a0 a1:ByteArray):Option (List Int × Bool):=(impl_reachWith.f k a0 a1).bind fun q=>if q.2.2.2.2 = true then ((impl_reach_cells.f k q.1 q.2.1 q.2.2.1 q.2.2.2.1 a1).bind fun t=>if t.length < 65536 then some (Go.Lib.compact (t.mergeSort fun x y=>decide (x ≤ y)),true) else none) else some ([],false)
theorem impl_CellsOfBall.mono:∀ a0 a1 k,LeO (impl_CellsOfBall.f k a0 a1) (impl_CellsOfBall.f (k + 1) a0 a1):=fun a0 a1 k=>by
 unfold impl_CellsOfBall.f
 refine LeO.bind (impl_reachWith.mono _ _ _) (fun _=>?_)
 refine LeO.ite ?_ (LeO.refl _)
 exact LeO.bind (impl_reach_cells.mono _ _ _ _ _ _) (fun _=>LeO.refl _)
set_option maxHeartbeats 4000000 in
set_option maxRecDepth 100000 in
theorem impl_CellsOfBall.calls (k:Nat) (a0 a1:ByteArray) (r1:List Int) (r2:Bool) (w:World) (h:impl_CellsOfBall.f k a0 a1 = some (r1,r2)) :
  Calls Tryz.prog 42 #[.string a0,.string a1] w fun e w'=>∃ v0_:Value,e = .returned (.tuple #[v0_,.bool r2]) ∧ Kd.R (Kd.int .i64) 3 w' w.heap.size (fun _=>True) v0_ r1 ∧ Below w.heap.size w w':=by
 unfold impl_CellsOfBall.f at h
 obtain ⟨⟨t1,t2,t3,t4,t5⟩,hr,h⟩:=Option.bind_eq_some_iff.mp h
 have HR:=am hr
 clear hr
 simp only at h
 cases t5 with
 | false =>
  obtain ⟨rfl,rfl⟩:[] = r1 ∧ false = r2:=by rw [if_neg Bool.false_ne_true] at h;exact Prod.mk.inj (Option.some.inj h)
  clear h
  go_enter Tryz.func42,Tryz.ntmps42
  go_wp2_with (first
   | (go_at_call 49;refine (impl_reachWith.calls k a0 a1 _ _ _ _ _ _ HR.out).mono ?_;rintro e w1 ⟨v0,v1,v2,v3,rfl,ho0,ho1,ho2,ho3,hb1⟩;obtain ⟨A0,c0,rfl⟩:=Kd.R_slice ho0;obtain ⟨A1,c1,rfl⟩:=Kd.R_slice ho1;obtain ⟨A2,c2,rfl⟩:=Kd.S_slice ho2;obtain ⟨A3,c3,rfl⟩:=Kd.R_slice ho3;have HB1:=am hb1;clear ho0 ho1 ho2 ho3 hb1)
   | (refine bx 6 #[.slice none 0 0,.slice none 0 0,.slice none 0 0,.slice none 0 0] 59 ?_;intro b4 hg4 w2 hbox2 hb2;obtain ⟨y0,y1,y2,y3,f0,f1,f2,f3⟩:=blk4_ hbox2;have X2:=am hbox2;have HB2:=am hb2;have G4:=am hg4;clear hg4 hbox2 hb2))
  go_ret2
  exact ⟨_,rfl,Kd.R_nil _ _ _ _ _,below_set4 (below_step HB1.out HB2.out) (by rw [G4.out];exact HB1.out.size) _ _ _ _⟩
 | true =>
  rw [if_pos rfl] at h
  obtain ⟨t6,hc,h⟩:=Option.bind_eq_some_iff.mp h
  by_cases hl:t6.length < 65536
  rotate_left
  ·rw [if_neg hl] at h;cases h
  obtain ⟨rfl,rfl⟩:Go.Lib.compact (t6.mergeSort fun x y=>decide (x ≤ y)) = r1 ∧ true = r2:=by rw [if_pos hl] at h;exact Prod.mk.inj (Option.some.inj h)
  have HC:=am hc
  have HL:=am hl
  have HPM:=am (List.mergeSort_perm t6 fun x y=>decide (x ≤ y)).length_eq
  clear h hc hl
  go_enter Tryz.func42,Tryz.ntmps42
  go_wp2_with (first
   | (go_at_call 49;refine (impl_reachWith.calls k a0 a1 _ _ _ _ _ _ HR.out).mono ?_;rintro e w1 ⟨v0,v1,v2,v3,rfl,ho0,ho1,ho2,ho3,hb1⟩;obtain ⟨A0,c0,rfl⟩:=Kd.R_slice ho0;obtain ⟨A1,c1,rfl⟩:=Kd.R_slice ho1;obtain ⟨A2,c2,rfl⟩:=Kd.S_slice ho2;obtain ⟨A3,c3,rfl⟩:=Kd.R_slice ho3;have HO0:=am (R_true ho0);have HO1:=am ho1;have HO2:=am (Kd.S_mono (ok':=fun _=>True) ho2 (fun _ _=>trivial));have HO3:=am (R_true ho3);have HB1:=am hb1;clear ho0 ho1 ho2 ho3 hb1)
   | (refine bx 6 #[.slice none 0 0,.slice none 0 0,.slice none 0 0,.slice none 0 0] 59 ?_;intro b4 hg4 w2 hbox2 hb2;obtain ⟨y0,y1,y2,y3,f0,f1,f2,f3⟩:=blk4_ hbox2;have X2:=am hbox2;have HB2:=am hb2;have G4:=am hg4;clear hg4 hbox2 hb2)
   | ((with_reducible refine gate_dst (N:=17) rfl ?_);obtain ⟨w3,hw3⟩:∃ w3,set4 w2 b4 (.slice A0 t1.length c0) (.slice A1 t2.length c1) (.slice A2 t3.length c2) (.slice A3 t4.length c3) = w3:=⟨_,rfl⟩;unfold set4 at hw3;rw [hw3];have HW3:=am (show set4 w2 b4 (.slice A0 t1.length c0) (.slice A1 t2.length c1) (.slice A2 t3.length c2) (.slice A3 t4.length c3) = w3 by unfold set4;exact hw3);clear hw3 y0 y1 y2 y3 f0 f1 f2 f3;have HKP:=am (fun k (hk:k < w1.heap.size)=>by rw [← HW3.out,heap_set4 _ _ _ _ _ _ (by rw [G4.out];omega),HB2.out.block k hk]:∀ k,k < w1.heap.size → w3.heap[k]? = w1.heap[k]?);have HP0:=am (Kd.R_step HO0.out (fun k _ hk=>HKP.out k hk));have HP1:=am (Kd.R_step HO1.out (fun k _ hk=>HKP.out k hk));have HP2:=am (Kd.S_step HO2.out (fun k _ hk=>HKP.out k hk));have HP3:=am (Kd.R_step HO3.out (fun k _ hk=>HKP.out k hk));have hx3:=blk_set4 X2.out (.slice A0 t1.length c0) (.slice A1 t2.length c1) (.slice A2 t3.length c2) (.slice A3 t4.length c3);rw [HW3.out] at hx3;obtain ⟨y0,y1,y2,y3,f0,f1,f2,f3⟩:=blk4_ hx3;have HG4:=am (show w.heap.size ≤ b4 by rw [G4.out];exact HB1.out.size);have HB3:=am (show Below w.heap.size w w3 by rw [← HW3.out];exact below_set4 (below_step HB1.out HB2.out) HG4.out _ _ _ _);clear hx3;fail_if_success done)
   | (go_at_call 50;refine (impl_reach_cells.calls k _ _ t1 _ _ t2 _ _ t3 _ _ t4 a1 t6 _ (Kd.R_reads' HP0.out).2.2 (Kd.R_reads' HP0.out).2.1 (Kd.R_reads' HP1.out).2.2 (Kd.R_reads' HP1.out).2.1 (Kd.S_reads' HP2.out).2.2 (Kd.S_reads' HP2.out).2.1 (Kd.R_reads' HP3.out).2.2 (Kd.R_reads' HP3.out).2.1 HC.out).mono ?_;rintro e w4 ⟨v4,rfl,ho4,hb4⟩;have HO4:=am (Kd.R_lower ho4 HB3.out.size);have HB4:=am (below_step HB3.out hb4);clear ho4 hb4 y0 y1 y2 y3 f0 f1 f2 f3)
   | (go_at_call 82;refine (sort_int_calls HO4.out HL.out).mono ?_;rintro e w5 ⟨rfl,ho5,hb5,_,_⟩;have HO5:=am ho5;have HB5:=am (hb5 _ HB4.out (Nat.le_refl _));clear ho5 hb5)
   | (go_at_call 83;(refine (compact_int_calls HO5.out (by rw [HPM.out];exact HL.out)).mono ?_);rintro e w6 ⟨v6,rfl,_,ho6,hb6,_,_⟩;have HO6:=am ho6;have HB6:=am (hb6 _ HB5.out (Nat.le_refl _));obtain ⟨A6,c6,rfl⟩:=Kd.R_slice ho6;clear ho6 hb6))
  go_ret2
  exact ⟨_,rfl,HO6.out,HB6.out⟩
end Go.Proofs.YtldhkbiomingbaaGreatDoor.F

namespace Go.Proofs.YtldhkbiomingbaaGreatDoor.F
open Go.Proofs.YtldhkbiomingbaaGreatDoor
open Go.RowKit Go.Proofs.YtldhkbiomingbaaGreatDoorW.PrintWords Go.Proofs.YtldhkbiomingbaaGreatDoorW.PrintLast Go.Proofs.YtldhkbiomingbaaGreatDoorW.PrintMore
attribute [local go_sem] max2_int min2_int max_two min_two max_three min_three max_four min_four
mutual
def laws_FnExactCellsOfBall.j0:Nat → ByteArray → ByteArray → List Int → Bool → List Int → Bool → Option (Bool)
 | 0,_,_,_,_,_,_=>none
 | k + 1,x0,x1,x5,x6,x7,x39=>if x39 = true then (some false) else ((laws_markIntS.f k x7 1).bind fun bt110=>((laws_heldIntS.f k bt110.2 1).bind fun t112=>(if t112 < 0 then (some false) else (if t112 = bt110.1 then ((impl_CellsOfBall.f k x0 x1).bind fun bt113=>((laws_eqIntS.f k bt113.1 x5).bind fun t117=>(if t117 = true then (laws_FnExactCellsOfBall.j1 k bt110.2 bt110.1 (bt113.2 != x6)) else (laws_FnExactCellsOfBall.j1 k bt110.2 bt110.1 true)))) else (some false)))))
def laws_FnExactCellsOfBall.j1:Nat → List Int → Int → Bool → Option (Bool)
 | 0,_,_,_=>none
 | k + 1,x7,x9,x65=>if x65 = true then (some false) else ((laws_heldIntS.f k x7 1).bind fun t118=>(if t118 < 0 then (some false) else (if t118 = x9 then (some true) else (some false))))
end
def laws_FnExactCellsOfBall.f (k:Nat) (a0:ByteArray) (a1:ByteArray):Option (Bool):=if (a0.size:Int) > 1048576 then (some true) else (if (a1.size:Int) > 1048576 then (some true) else ((spec_CellsOfBall.f a0 a1).bind fun bt101=>((impl_CellsOfBall.f k a0 a1).bind fun bt105=>((laws_eqIntS.f k bt105.1 bt101.1).bind fun t109=>(if t109 = true then (laws_FnExactCellsOfBall.j0 k a0 a1 bt101.1 bt101.2 bt105.1 (bt105.2 != bt101.2)) else (laws_FnExactCellsOfBall.j0 k a0 a1 bt101.1 bt101.2 bt105.1 true))))))
theorem laws_FnExactCellsOfBall.mono_l:∀ k,(∀ y0 y1 y2 y3 y4 y5,LeO (laws_FnExactCellsOfBall.j0 k y0 y1 y2 y3 y4 y5) (laws_FnExactCellsOfBall.j0 (k + 1) y0 y1 y2 y3 y4 y5)) ∧ (∀ y0 y1 y2,LeO (laws_FnExactCellsOfBall.j1 k y0 y1 y2) (laws_FnExactCellsOfBall.j1 (k + 1) y0 y1 y2))
 | 0=>⟨fun _ _ _ _ _ _ r h=>by simp [laws_FnExactCellsOfBall.j0] at h,fun _ _ _ r h=>by simp [laws_FnExactCellsOfBall.j1] at h⟩
 | k + 1=>by
  obtain ⟨ih0,ih1⟩:=laws_FnExactCellsOfBall.mono_l k
  refine ⟨?_,?_⟩
  ·intro y0 y1 y2 y3 y4 y5
   unfold laws_FnExactCellsOfBall.j0
   have im0:=@impl_CellsOfBall.mono;have im1:=@laws_eqIntS.mono;have im2:=@laws_heldIntS.mono;have im3:=@laws_markIntS.mono;exact mo
  ·intro y0 y1 y2
   unfold laws_FnExactCellsOfBall.j1
   have im0:=@impl_CellsOfBall.mono;have im1:=@laws_eqIntS.mono;have im2:=@laws_heldIntS.mono;have im3:=@laws_markIntS.mono;exact mo
set_option maxHeartbeats 8000000 in
set_option maxRecDepth 100000 in
theorem laws_FnExactCellsOfBall.calls (k:Nat) (a0:ByteArray) (a1:ByteArray) (r:Bool) (w:World) (h:laws_FnExactCellsOfBall.f k a0 a1 = some r) :
  Calls Tryz.prog 12 #[.string a0,.string a1] w fun e w'=>e = .returned (.bool r) ∧ Below w.heap.size w w':=by
 have HB:=am (Below.refl w.heap.size w)
 have H:(if (a0.size:Int) > 1048576 then (some true) else (if (a1.size:Int) > 1048576 then (some true) else ((spec_CellsOfBall.f a0 a1).bind fun bt101=>((impl_CellsOfBall.f k a0 a1).bind fun bt105=>((laws_eqIntS.f k bt105.1 bt101.1).bind fun t109=>(if t109 = true then (laws_FnExactCellsOfBall.j0 k a0 a1 bt101.1 bt101.2 bt105.1 (bt105.2 != bt101.2)) else (laws_FnExactCellsOfBall.j0 k a0 a1 bt101.1 bt101.2 bt105.1 true))))))) = some r:=h
 clear h
 by_cases c3:(a0.size:Int) > 1048576
 ·rw [if_pos c3] at H
  have c3b0:=decide_eq_true c3
  have c3b1:decide (1048576 < a0.size) = true:=decide_eq_true (by omega)
  clear c3
  obtain rfl:=Option.some.inj H
  go_enter Tryz.func12,Tryz.ntmps12
  go_wp2
  go_ret
  exact ⟨aq8,aq1⟩
 rw [if_neg c3] at H
 have c3b0:=decide_eq_false c3
 have c3b1:decide (1048576 < a0.size) = false:=decide_eq_false (by omega)
 clear c3
 by_cases c4:(a1.size:Int) > 1048576
 ·rw [if_pos c4] at H
  have c4b0:=decide_eq_true c4
  have c4b1:decide (1048576 < a1.size) = true:=decide_eq_true (by omega)
  clear c4
  obtain rfl:=Option.some.inj H
  go_enter Tryz.func12,Tryz.ntmps12
  go_wp2
  go_ret
  exact ⟨aq8,aq1⟩
 rw [if_neg c4] at H
 have c4b0:=decide_eq_false c4
 have c4b1:decide (1048576 < a1.size) = false:=decide_eq_false (by omega)
 clear c4
 replace H:=Option.bind_eq_some_iff.mp H
 obtain ⟨⟨t101,t102⟩,A50,H⟩:=H
 replace H:((impl_CellsOfBall.f k a0 a1).bind fun bt105=>((laws_eqIntS.f k bt105.1 t101).bind fun t109=>(if t109 = true then (laws_FnExactCellsOfBall.j0 k a0 a1 t101 t102 bt105.1 (bt105.2 != t102)) else (laws_FnExactCellsOfBall.j0 k a0 a1 t101 t102 bt105.1 true)))) = some r:=H
 have A5:=am A50
 clear A50
 replace H:=Option.bind_eq_some_iff.mp H
 obtain ⟨⟨t105,t106⟩,A60,H⟩:=H
 replace H:((laws_eqIntS.f k t105 t101).bind fun t109=>(if t109 = true then (laws_FnExactCellsOfBall.j0 k a0 a1 t101 t102 t105 (t106 != t102)) else (laws_FnExactCellsOfBall.j0 k a0 a1 t101 t102 t105 true))) = some r:=H
 have A6:=am A60
 clear A60
 have HC7:=am H
 clear H
 go_enter Tryz.func12,Tryz.ntmps12
 go_upto_region 7 with (first | ((with_reducible refine gate_callee (f:=41) rfl ?_);refine goesL_ (some 22) rfl rfl Tryz.func41 (by kernel_rfl) rfl #[.string a0,.string a1] rfl aq5 ?_;(with_reducible refine (spec_CellsOfBall.calls a0 a1 t101 t102 _ A5.out).mono ?_);rintro e w8 ⟨v103,rfl,ho0,hb⟩;refine ⟨_,rfl,?_⟩;have HO104:=am (Kd.R_lower ho0 (below_size aq1));replace HB:=am (below_step aq1 hb);(try clear hb);(try clear ho0)) | ((with_reducible refine gate_callee (f:=42) rfl ?_);refine goesL_ (some 28) rfl rfl Tryz.func42 (by kernel_rfl) rfl #[.string a0,.string a1] rfl aq5 ?_;(with_reducible refine (impl_CellsOfBall.calls k a0 a1 t105 t106 _ A6.out).mono ?_);rintro e w9 ⟨v107,rfl,ho0,hb⟩;refine ⟨_,rfl,?_⟩;have HO108:=am (Kd.R_lower (Kd.R_new' ho0 (Kd.R_lt aq43)) (below_size aq1));replace HO104:=am (Kd.R_elder' aq43 (Kd.R_base ho0) hb);replace HB:=am (below_step aq1 hb);(try clear hb);(try clear ho0)))
 (try simp only [Act.put,List.setIfInBounds_toArray,List.set_cons_zero,List.set_cons_succ])
 go_cut [39] (fun v39 wc=>∃ (kq:Nat) (x39_6:Bool),v39 = .bool x39_6 ∧ Aside0 (laws_FnExactCellsOfBall.j0 kq a0 a1 t101 t102 t105 x39_6 = some r) ∧ Aside0 (kq ≤ k) ∧ Aside0 (Kd.R (Kd.int .i64) 3 wc w.heap.size (fun k_=>some k_ ≠ (v107:Value).ownBlock) v103 t101) ∧ Aside0 (Kd.R (Kd.int .i64) 3 wc w.heap.size (fun k_=>some k_ ≠ (v103:Value).ownBlock) v107 t105) ∧ Aside0 (Below w.heap.size w wc))
 case first =>
  have H:=HC7.out
  clear HC7
  obtain ⟨t109,A100,H⟩:=Option.bind_eq_some_iff.mp H
  have A10:=am A100
  clear A100
  by_cases c11:t109 = true
  ·subst c11
   rw [if_pos rfl] at H
   have H':=am H
   clear H
   obtain ⟨Ao12,co12,eo12⟩:=Kd.R_slice HO108.out
   subst eo12
   obtain ⟨Ao13,co13,eo13⟩:=Kd.R_slice HO104.out
   subst eo13
   go_wp2_with (first | ((with_reducible refine gate_callee (f:=31) rfl ?_);refine goesL_ (some 33) rfl rfl Tryz.func31 (by kernel_rfl) rfl #[.slice Ao12 t105.length co12,.slice Ao13 t101.length co13] rfl aq5 ?_;(with_reducible refine (laws_eqIntS.calls k _ _ t105 _ _ t101 true _ ?side1 ?side2 ?side3 ?side4 A10.out).mono ?_);(case side1=>exact aq87);(case side2=>exact (Kd.R_reads' HO108.out).2.1);(case side3=>exact aq58);(case side4=>exact (Kd.R_reads' HO104.out).2.1);rintro e w' ⟨rfl,⟨nd,rfl⟩⟩;refine ⟨_,rfl,?_⟩))
   go_meet
   case rel=>exact ⟨_,((t106 != t102)),aq7,H',⟨aq75⟩,⟨aq99⟩,⟨aq98⟩,⟨aq1⟩⟩
  replace c11:=Bool.eq_false_iff.mpr c11
  subst c11
  rw [if_neg Bool.false_ne_true] at H
  have H':=am H
  clear H
  obtain ⟨Ao14,co14,eo14⟩:=Kd.R_slice HO108.out
  subst eo14
  obtain ⟨Ao15,co15,eo15⟩:=Kd.R_slice HO104.out
  subst eo15
  go_wp2_with (first | ((with_reducible refine gate_callee (f:=31) rfl ?_);refine goesL_ (some 33) rfl rfl Tryz.func31 (by kernel_rfl) rfl #[.slice Ao14 t105.length co14,.slice Ao15 t101.length co15] rfl aq5 ?_;(with_reducible refine (laws_eqIntS.calls k _ _ t105 _ _ t101 false _ ?side1 ?side2 ?side3 ?side4 A10.out).mono ?_);(case side1=>exact aq87);(case side2=>exact (Kd.R_reads' HO108.out).2.1);(case side3=>exact aq58);(case side4=>exact (Kd.R_reads' HO104.out).2.1);rintro e w' ⟨rfl,⟨nd,rfl⟩⟩;refine ⟨_,rfl,?_⟩))
  go_meet
  case rel=>exact ⟨_,(true),aq7,H',⟨aq75⟩,⟨aq99⟩,⟨aq98⟩,⟨aq1⟩⟩
 case rest =>
  clear HC7
  try clear c1
  try clear p2
  try clear c3
  try clear c3b0
  try clear c3b1
  try clear c4
  try clear c4b0
  try clear c4b1
  try clear c11
  try clear c12
  obtain ⟨kq,x39_6,rfl,HA,HJ6,HO_5,HO_7,HB⟩:=hcut
  cases kq with
  | zero=>exact absurd HA.out (by simp [laws_FnExactCellsOfBall.j0])
  | succ kj6 =>
   have H:=HA.out
   clear HA
   simp only [laws_FnExactCellsOfBall.j0] at H
   by_cases c16:x39_6 = true
   ·subst c16
    rw [if_pos rfl] at H
    obtain rfl:=Option.some.inj H
    go_wp2
    go_ret
    exact ⟨aq8,aq1⟩
   replace c16:=Bool.eq_false_iff.mpr c16
   subst c16
   rw [if_neg Bool.false_ne_true] at H
   replace H:=Option.bind_eq_some_iff.mp H
   obtain ⟨⟨t110,t111⟩,A170,H⟩:=H
   replace H:((laws_heldIntS.f kj6 t111 1).bind fun t112=>(if t112 < 0 then (some false) else (if t112 = t110 then ((impl_CellsOfBall.f kj6 a0 a1).bind fun bt113=>((laws_eqIntS.f kj6 bt113.1 t101).bind fun t117=>(if t117 = true then (laws_FnExactCellsOfBall.j1 kj6 t111 t110 (bt113.2 != t102)) else (laws_FnExactCellsOfBall.j1 kj6 t111 t110 true)))) else (some false)))) = some r:=H
   have A17:=am A170
   clear A170
   obtain ⟨t112,A180,H⟩:=Option.bind_eq_some_iff.mp H
   have A18:=am A180
   clear A180
   by_cases c19:t112 < 0
   ·rw [if_pos c19] at H
    have c19b0:=decide_eq_true c19
    clear c19
    obtain rfl:=Option.some.inj H
    obtain ⟨Ao20,co20,eo20⟩:=Kd.R_slice HO_7.out
    subst eo20
    go_wp2_with (first | ((with_reducible refine gate_callee (f:=32) rfl ?_);refine goesL_ (some 42) rfl rfl Tryz.func32 (by kernel_rfl) rfl #[.slice Ao20 t105.length co20,.int .i64 1] rfl aq5 ?_;(with_reducible refine (laws_markIntS.calls kj6 (fun k_=>some k_ = (.slice Ao20 t105.length co20:Value).ownBlock) (.slice Ao20 t105.length co20) t105 1 t110 t111 w _ ?side1 ?side2 A17.out).mono ?_);(case side1=>exact aq1);(case side2=>exact Kd.R_tight rfl HO_7.out);rintro e w21 ⟨rfl,hy0,hb,hkp⟩;refine ⟨_,rfl,?_⟩;replace HO_5:=am (Kd.R_mono (ok':=fun k_=>some k_ ≠ (.slice Ao20 t105.length co20:Value).ownBlock) (Kd.R_keptB (HO_5.out) hkp (fun k_ hk_ hs_=>(hk_) hs_)) (fun k_ hk_=>hk_.1));replace HO_7:=am (Kd.R_reok rfl hy0 (fun k_ e_=>HO_7.out.1 k_ e_));replace HB:=am (hb);(try clear hb);(try clear hkp);(try clear hy0)) | ((with_reducible refine gate_callee (f:=33) rfl ?_);refine goesL_ (some 45) rfl rfl Tryz.func33 (by kernel_rfl) rfl #[.slice Ao20 t111.length co20,.int .i64 1] rfl aq47 ?_;(with_reducible refine (laws_heldIntS.calls kj6 _ _ t111 1 t112 _ ?side1 ?side2 A18.out).mono ?_);(case side1=>exact aq36);(case side2=>exact aq80);rintro e w' ⟨rfl,⟨nd,rfl⟩⟩;refine ⟨_,rfl,?_⟩))
    go_ret
    exact ⟨aq8,aq1⟩
   rw [if_neg c19] at H
   have c19b0:=decide_eq_false c19
   clear c19
   by_cases c22:t112 = t110
   rotate_left
   ·rw [if_neg c22] at H
    have c22b0:=beq_eq_false_iff_ne.mpr c22
    have c22b1:=bne_iff_ne.mpr c22
    obtain rfl:=Option.some.inj H
    obtain ⟨Ao38,co38,eo38⟩:=Kd.R_slice HO_7.out
    subst eo38
    go_wp2_with (first | ((with_reducible refine gate_callee (f:=32) rfl ?_);refine goesL_ (some 42) rfl rfl Tryz.func32 (by kernel_rfl) rfl #[.slice Ao38 t105.length co38,.int .i64 1] rfl aq5 ?_;(with_reducible refine (laws_markIntS.calls kj6 (fun k_=>some k_ = (.slice Ao38 t105.length co38:Value).ownBlock) (.slice Ao38 t105.length co38) t105 1 t110 t111 w _ ?side1 ?side2 A17.out).mono ?_);(case side1=>exact aq1);(case side2=>exact Kd.R_tight rfl HO_7.out);rintro e w39 ⟨rfl,hy0,hb,hkp⟩;refine ⟨_,rfl,?_⟩;replace HO_5:=am (Kd.R_mono (ok':=fun k_=>some k_ ≠ (.slice Ao38 t105.length co38:Value).ownBlock) (Kd.R_keptB (HO_5.out) hkp (fun k_ hk_ hs_=>(hk_) hs_)) (fun k_ hk_=>hk_.1));replace HO_7:=am (Kd.R_reok rfl hy0 (fun k_ e_=>HO_7.out.1 k_ e_));replace HB:=am (hb);(try clear hb);(try clear hkp);(try clear hy0)) | ((with_reducible refine gate_callee (f:=33) rfl ?_);refine goesL_ (some 45) rfl rfl Tryz.func33 (by kernel_rfl) rfl #[.slice Ao38 t111.length co38,.int .i64 1] rfl aq47 ?_;(with_reducible refine (laws_heldIntS.calls kj6 _ _ t111 1 t112 _ ?side1 ?side2 A18.out).mono ?_);(case side1=>exact aq36);(case side2=>exact aq80);rintro e w' ⟨rfl,⟨nd,rfl⟩⟩;refine ⟨_,rfl,?_⟩))
    go_ret
    exact ⟨aq8,aq1⟩
   rw [if_pos c22] at H
   have c22b0:=beq_iff_eq.mpr c22
   have c22b1:=bne_eq_false_iff_eq.mpr c22
   clear c22
   replace H:=Option.bind_eq_some_iff.mp H
   obtain ⟨⟨t113,t114⟩,A230,H⟩:=H
   replace H:((laws_eqIntS.f kj6 t113 t101).bind fun t117=>(if t117 = true then (laws_FnExactCellsOfBall.j1 kj6 t111 t110 (t114 != t102)) else (laws_FnExactCellsOfBall.j1 kj6 t111 t110 true))) = some r:=H
   have A23:=am A230
   clear A230
   have HC24:=am H
   clear H
   obtain ⟨Ao25,co25,eo25⟩:=Kd.R_slice HO_7.out
   subst eo25
   go_upto_region 18 with (first | ((with_reducible refine gate_callee (f:=32) rfl ?_);refine goesL_ (some 42) rfl rfl Tryz.func32 (by kernel_rfl) rfl #[.slice Ao25 t105.length co25,.int .i64 1] rfl aq5 ?_;(with_reducible refine (laws_markIntS.calls kj6 (fun k_=>some k_ = (.slice Ao25 t105.length co25:Value).ownBlock) (.slice Ao25 t105.length co25) t105 1 t110 t111 w _ ?side1 ?side2 A17.out).mono ?_);(case side1=>exact aq1);(case side2=>exact Kd.R_tight rfl HO_7.out);rintro e w26 ⟨rfl,hy0,hb,hkp⟩;refine ⟨_,rfl,?_⟩;replace HO_5:=am (Kd.R_mono (ok':=fun k_=>some k_ ≠ (.slice Ao25 t105.length co25:Value).ownBlock) (Kd.R_keptB (HO_5.out) hkp (fun k_ hk_ hs_=>(hk_) hs_)) (fun k_ hk_=>hk_.1));replace HO_7:=am (Kd.R_reok rfl hy0 (fun k_ e_=>HO_7.out.1 k_ e_));replace HB:=am (hb);(try clear hb);(try clear hkp);(try clear hy0)) | ((with_reducible refine gate_callee (f:=33) rfl ?_);refine goesL_ (some 45) rfl rfl Tryz.func33 (by kernel_rfl) rfl #[.slice Ao25 t111.length co25,.int .i64 1] rfl aq47 ?_;(with_reducible refine (laws_heldIntS.calls kj6 _ _ t111 1 t112 _ ?side1 ?side2 A18.out).mono ?_);(case side1=>exact aq36);(case side2=>exact aq80);rintro e w' ⟨rfl,⟨nd,rfl⟩⟩;refine ⟨_,rfl,?_⟩) | ((with_reducible refine gate_callee (f:=42) rfl ?_);refine goesL_ (some 54) rfl rfl Tryz.func42 (by kernel_rfl) rfl #[.string a0,.string a1] rfl aq5 ?_;(with_reducible refine (impl_CellsOfBall.calls kj6 a0 a1 t113 t114 _ A23.out).mono ?_);rintro e w27 ⟨v115,rfl,ho0,hb⟩;refine ⟨_,rfl,?_⟩;have HO116:=am (Kd.R_lower (Kd.R_new' (Kd.R_new' ho0 (Kd.R_lt aq44)) (Kd.R_lt (by (with_reducible repeat (first | apply Kd.R_alloc | apply Kd.R_drewN | apply Kd.R_drew));exact HO_7.out))) (below_size aq1));replace HO_5:=am (Kd.R_elder' aq44 (Kd.R_base ho0) hb);replace HO_7:=am (Kd.R_elder' (by (with_reducible repeat (first | apply Kd.R_alloc | apply Kd.R_drewN | apply Kd.R_drew));exact HO_7.out) (Kd.R_base ho0) hb);replace HB:=am (below_step aq1 hb);(try clear hb);(try clear ho0)))
   (try simp only [Act.put,List.setIfInBounds_toArray,List.set_cons_zero,List.set_cons_succ])
   go_cut [65] (fun v65 wc=>∃ (kq:Nat) (x65_23:Bool),v65 = .bool x65_23 ∧ Aside0 (laws_FnExactCellsOfBall.j1 kq t111 t110 x65_23 = some r) ∧ Aside0 (kq ≤ kj6) ∧ Aside0 (Kd.R (Kd.int .i64) 3 wc w.heap.size (fun _=>True) (.slice Ao25 t105.length co25) t111) ∧ Aside0 (Below w.heap.size w wc))
   case first =>
    have H:=HC24.out
    clear HC24
    obtain ⟨t117,A280,H⟩:=Option.bind_eq_some_iff.mp H
    have A28:=am A280
    clear A280
    by_cases c29:t117 = true
    ·subst c29
     rw [if_pos rfl] at H
     have H':=am H
     clear H
     obtain ⟨Ao30,co30,eo30⟩:=Kd.R_slice HO116.out
     subst eo30
     obtain ⟨Ao31,co31,eo31⟩:=Kd.R_slice HO_5.out
     subst eo31
     go_wp2_with (first | ((with_reducible refine gate_callee (f:=31) rfl ?_);refine goesL_ (some 59) rfl rfl Tryz.func31 (by kernel_rfl) rfl #[.slice Ao30 t113.length co30,.slice Ao31 t101.length co31] rfl aq5 ?_;(with_reducible refine (laws_eqIntS.calls kj6 _ _ t113 _ _ t101 true _ ?side1 ?side2 ?side3 ?side4 A28.out).mono ?_);(case side1=>exact aq86);(case side2=>exact (Kd.R_reads' HO116.out).2.1);(case side3=>exact aq89);(case side4=>exact (Kd.R_reads' HO_5.out).2.1);rintro e w' ⟨rfl,⟨nd,rfl⟩⟩;refine ⟨_,rfl,?_⟩))
     go_meet
     case rel=>exact ⟨_,((t114 != t102)),aq7,H',⟨by have:=HJ6.out;first | omega | exact Nat.le_refl _⟩,⟨aq97⟩,⟨aq1⟩⟩
    replace c29:=Bool.eq_false_iff.mpr c29
    subst c29
    rw [if_neg Bool.false_ne_true] at H
    have H':=am H
    clear H
    obtain ⟨Ao32,co32,eo32⟩:=Kd.R_slice HO116.out
    subst eo32
    obtain ⟨Ao33,co33,eo33⟩:=Kd.R_slice HO_5.out
    subst eo33
    go_wp2_with (first | ((with_reducible refine gate_callee (f:=31) rfl ?_);refine goesL_ (some 59) rfl rfl Tryz.func31 (by kernel_rfl) rfl #[.slice Ao32 t113.length co32,.slice Ao33 t101.length co33] rfl aq5 ?_;(with_reducible refine (laws_eqIntS.calls kj6 _ _ t113 _ _ t101 false _ ?side1 ?side2 ?side3 ?side4 A28.out).mono ?_);(case side1=>exact aq86);(case side2=>exact (Kd.R_reads' HO116.out).2.1);(case side3=>exact aq89);(case side4=>exact (Kd.R_reads' HO_5.out).2.1);rintro e w' ⟨rfl,⟨nd,rfl⟩⟩;refine ⟨_,rfl,?_⟩))
    go_meet
    case rel=>exact ⟨_,(true),aq7,H',⟨by have:=HJ6.out;first | omega | exact Nat.le_refl _⟩,⟨aq97⟩,⟨aq1⟩⟩
   case rest =>
    clear HC24
    try clear c1
    try clear c2
    try clear p2
    try clear c3
    try clear c3b0
    try clear c3b1
    try clear c4
    try clear c4b0
    try clear c4b1
    try clear c11
    try clear c12
    try clear c16
    try clear c19
    try clear c19b0
    try clear c22
    try clear c22b0
    try clear c22b1
    try clear c29
    try clear c31
    try clear c32
    try clear c33
    try clear p2
    obtain ⟨kq,x65_23,rfl,HA,HJ23,HO_7,HB⟩:=hcut
    have hl7_23:=(Kd.R_reads' HO_7.out).1
    rw [hl7_23] at HO_7
    (try simp only [hl7_23])
    cases kq with
    | zero=>exact absurd HA.out (by simp [laws_FnExactCellsOfBall.j1])
    | succ kj23 =>
     have H:=HA.out
     clear HA
     simp only [laws_FnExactCellsOfBall.j1] at H
     by_cases c34:x65_23 = true
     ·subst c34
      rw [if_pos rfl] at H
      obtain rfl:=Option.some.inj H
      go_wp2
      go_ret
      exact ⟨aq8,aq1⟩
     replace c34:=Bool.eq_false_iff.mpr c34
     subst c34
     rw [if_neg Bool.false_ne_true] at H
     obtain ⟨t118,A350,H⟩:=Option.bind_eq_some_iff.mp H
     have A35:=am A350
     clear A350
     by_cases c36:t118 < 0
     ·rw [if_pos c36] at H
      have c36b0:=decide_eq_true c36
      clear c36
      obtain rfl:=Option.some.inj H
      go_wp2_with (first | ((with_reducible refine gate_callee (f:=33) rfl ?_);refine goesL_ (some 68) rfl rfl Tryz.func33 (by kernel_rfl) rfl #[.slice Ao25 t111.length co25,.int .i64 1] rfl aq5 ?_;(with_reducible refine (laws_heldIntS.calls kj23 _ _ t111 1 t118 _ ?side1 ?side2 A35.out).mono ?_);(case side1=>exact aq36);(case side2=>exact (Kd.R_reads' HO_7.out).2.1);rintro e w' ⟨rfl,⟨nd,rfl⟩⟩;refine ⟨_,rfl,?_⟩))
      go_ret
      exact ⟨aq8,aq1⟩
     rw [if_neg c36] at H
     have c36b0:=decide_eq_false c36
     clear c36
     by_cases c37:t118 = t110
     rotate_left
     ·rw [if_neg c37] at H
      have c37b0:=beq_eq_false_iff_ne.mpr c37
      have c37b1:=bne_iff_ne.mpr c37
      obtain rfl:=Option.some.inj H
      go_wp2_with (first | ((with_reducible refine gate_callee (f:=33) rfl ?_);refine goesL_ (some 68) rfl rfl Tryz.func33 (by kernel_rfl) rfl #[.slice Ao25 t111.length co25,.int .i64 1] rfl aq5 ?_;(with_reducible refine (laws_heldIntS.calls kj23 _ _ t111 1 t118 _ ?side1 ?side2 A35.out).mono ?_);(case side1=>exact aq36);(case side2=>exact (Kd.R_reads' HO_7.out).2.1);rintro e w' ⟨rfl,⟨nd,rfl⟩⟩;refine ⟨_,rfl,?_⟩))
      go_ret
      exact ⟨aq8,aq1⟩
     rw [if_pos c37] at H
     have c37b0:=beq_iff_eq.mpr c37
     have c37b1:=bne_eq_false_iff_eq.mpr c37
     clear c37
     obtain rfl:=Option.some.inj H
     go_wp2_with (first | ((with_reducible refine gate_callee (f:=33) rfl ?_);refine goesL_ (some 68) rfl rfl Tryz.func33 (by kernel_rfl) rfl #[.slice Ao25 t111.length co25,.int .i64 1] rfl aq5 ?_;(with_reducible refine (laws_heldIntS.calls kj23 _ _ t111 1 t118 _ ?side1 ?side2 A35.out).mono ?_);(case side1=>exact aq36);(case side2=>exact (Kd.R_reads' HO_7.out).2.1);rintro e w' ⟨rfl,⟨nd,rfl⟩⟩;refine ⟨_,rfl,?_⟩))
     go_ret
     exact ⟨aq8,aq1⟩
end Go.Proofs.YtldhkbiomingbaaGreatDoor.F

namespace Go.Proofs.YtldhkbiomingbaaGreatDoor.F
open Go.RowKit Go.Proofs.YtldhkbiomingbaaGreatDoor Go.Proofs.YtldhkbiomingbaaGreatDoorW.PrintWords Go.Proofs.YtldhkbiomingbaaGreatDoorW.PrintMore
theorem cellsA_len (t n:ByteArray):(cellsA t n).1.length ≤ 300:=by
 unfold cellsA
 cases hs:ballS t n with
 | none=>simp
 | some q =>
  obtain ⟨w,h,s⟩:=q
  obtain ⟨hsr,_⟩:=ballS_some hs
  obtain ⟨cs,_,_,_,_,o⟩:=srch_some hsr
  simp only
  have:=setI_len (cellsI s (bt n 0))
  rw [cellsI_len] at this
  have:=o.ok.most
  omega
theorem impl_cellsB_ev (t n:ByteArray) (ht:t.size < 4294967281):Ev (fun k=>impl_CellsOfBall.f k t n) (cellsA t n):=by
 have hW:=reachWith_ev t n ht
 unfold impl_CellsOfBall.f cellsA
 cases hs:ballS t n with
 | none =>
  rw [hs] at hW
  exact Ev.bind hW (Ev.congr (fun k=>if_neg Bool.false_ne_true) (Ev.now _))
 | some q =>
  obtain ⟨w,h,s⟩:=q
  rw [hs] at hW
  obtain ⟨hsr,hn⟩:=ballS_some hs
  obtain ⟨cs,_,_,_,_,o⟩:=srch_some hsr
  refine Ev.bind hW (Ev.congr (fun k=>if_pos rfl) ?_)
  refine Ev.bind (cells_ev (w:=w) (h:=h) (s:=s) (name_byte hn) o.ok.tray o.ok.most (castsI s.F) (s.N.map castsI) (rW s)) ?_
  refine Ev.congr (fun k=>?_) (Ev.now _)
  rw [if_pos (by rw [cellsI_len];have:=o.ok.most;omega),compact_sort]
theorem FnExactCellsOfBall (a b:ByteArray) (ha:a.size ≤ 9223372036854775807) (hb:b.size ≤ 9223372036854775807):∃ k,laws_FnExactCellsOfBall.f k a b = some true:=by
 refine Ev.rounds (g:=fun k=>laws_FnExactCellsOfBall.f k a b) ?_
 unfold laws_FnExactCellsOfBall.f
 by_cases c0:(a.size:Int) > 1048576
 ·exact Ev.congr (fun k=>if_pos c0) (Ev.now _)
 by_cases c1:(b.size:Int) > 1048576
 ·exact Ev.congr (fun k=>by rw [if_neg c0,if_pos c1]) (Ev.now _)
 have hI:=impl_cellsB_ev a b (by omega)
 have hS:spec_CellsOfBall.f a b = some (cellsA a b):=rfl
 have hlen:=cellsA_len a b
 refine Ev.congr (fun k=>by rw [if_neg c0,if_neg c1,hS,Option.bind_some]) ?_
 generalize cellsA a b = R at hI hS hlen
 have hE:=eqI_ev R.1 (by omega)
 have hM:Ev (fun k=>laws_markIntS.f k R.1 1) (((1 + R.1.length:Nat):Int),marksI 1 R.1.length):=markI_ev R.1 1 (by omega) (by omega)
 have hH:Ev (fun k=>laws_heldIntS.f k (marksI 1 R.1.length) 1) ((1 + R.1.length:Nat):Int):=heldI_ev 1 R.1.length (by omega) (by omega)
 have hend:Ev (fun k=>laws_FnExactCellsOfBall.j1 k (marksI 1 R.1.length) ((1 + R.1.length:Nat):Int) false) true:=by
  refine Ev.step (fun k=>by rw [laws_FnExactCellsOfBall.j1,if_neg Bool.false_ne_true]) (Ev.bind hH ?_)
  exact Ev.congr (fun k=>by rw [if_neg (by omega),if_pos rfl]) (Ev.now _)
 have hmid:Ev (fun k=>laws_FnExactCellsOfBall.j0 k a b R.1 R.2 R.1 false) true:=by
  refine Ev.step (fun k=>by rw [laws_FnExactCellsOfBall.j0,if_neg Bool.false_ne_true]) (Ev.bind hM (Ev.bind hH ?_))
  refine Ev.congr (fun k=>by rw [if_neg (by omega),if_pos rfl]) (Ev.bind hI (Ev.bind hE ?_))
  refine Ev.congr (fun k=>if_pos rfl) ?_
  rw [bne_self_eq_false]
  exact hend
 refine Ev.bind hI (Ev.bind hE ?_)
 refine Ev.congr (fun k=>if_pos rfl) ?_
 rw [bne_self_eq_false]
 exact hmid
end Go.Proofs.YtldhkbiomingbaaGreatDoor.F
