/- The proof that the law's row holds, part 3: the kit's words, the printed walks and the plain law. No conditions beyond the card's own. -/
import Derived.StillTailTactics
import Derived.Deep.RegionHeld3
import Derived.Test.YtldhkbiomingbaaGreatDoorJ0
import Derived.Test.YtldhkbiomingbaaGreatDoorJ1
import Derived.Test.YtldhkbiomingbaaGreatDoorJ2
set_option linter.unusedVariables false
set_option linter.unusedSimpArgs false
set_option maxHeartbeats 8000000
set_option maxRecDepth 100000
namespace Go.Proofs.YtldhkbiomingbaaGreatDoor.F
open Go.Proofs.YtldhkbiomingbaaGreatDoor
open Go.RowKit Go.YW.PrintWords Go.YW.PrintLast Go.YW.PrintMore
attribute [local go_sem] max2_int min2_int max_two min_two max_three min_three max_four min_four
mutual
def impl_tray_strI.l0:Nat → List (List Int) → List (List Int) → Int → Int → Int → Int → List Int → Option ((List (List Int)))
 | 0,_,_,_,_,_,_,_=>none
 | k + 1,x5,x14,x15,x16,x102000,x102001,x102002=>if x16 < x15 then (if 0 ≤ x16 then (if x16 < (x14.length:Int) then (impl_tray_strI.l1 k x5 (([]:List Int)) x14 x15 x16 (rd_L3 x14 x16) ((rd_L3 x14 x16).length:Int) 0 x102000 x102001 x102002) else (none)) else (none)) else (some x5)
def impl_tray_strI.l1:Nat → List (List Int) → List Int → List (List Int) → Int → Int → List Int → Int → Int → Int → Int → List Int → Option ((List (List Int)))
 | 0,_,_,_,_,_,_,_,_,_,_,_=>none
 | k + 1,x5,x8,x14,x15,x16,x21,x22,x23,x102000,x102001,x102002=>if x23 < x22 then (if 0 ≤ x23 then (if x23 < (x21.length:Int) then (if 0 ≤ (rd x21 x23) then (if (rd x21 x23) < (x102002.length:Int) then (if (rd x102002 (rd x21 x23)) = 35 then (if (x8.length:Int) > 0 then (if x5.length < 5864062014805 then (impl_tray_strI.l1 k (x5 ++ [x8]) ([]:List Int) x14 x15 x16 x21 x22 (wrap64 (x23 + 1)) x102000 x102001 x102002) else (none)) else (impl_tray_strI.l1 k x5 x8 x14 x15 x16 x21 x22 (wrap64 (x23 + 1)) x102000 x102001 x102002)) else (if x8.length < 17592186044416 then (impl_tray_strI.l1 k x5 (x8 ++ [rd x21 x23]) x14 x15 x16 x21 x22 (wrap64 (x23 + 1)) x102000 x102001 x102002) else (none))) else (none)) else (none)) else (none)) else (none)) else (if (x8.length:Int) > 0 then (if x5.length < 5864062014805 then (impl_tray_strI.l0 k (x5 ++ [x8]) x14 x15 (wrap64 (x16 + 1)) x102000 x102001 x102002) else (none)) else (impl_tray_strI.l0 k x5 x14 x15 (wrap64 (x16 + 1)) x102000 x102001 x102002))
end
def impl_tray_strI.f (k:Nat) (a0_0:Int) (a0_1:Int) (l0_2:List Int) (a1:Int):Option ((List (List Int))):=(impl_tray_lines.f k a0_0 a0_1 l0_2 a1).bind fun t105=>(impl_tray_strI.l0 k (([]:List (List Int))) t105 (t105.length:Int) 0 a0_0 a0_1 l0_2)
theorem impl_tray_strI.mono_l:∀ k,(∀ y0 y1 y2 y3 y4 y5 y6,LeO (impl_tray_strI.l0 k y0 y1 y2 y3 y4 y5 y6) (impl_tray_strI.l0 (k + 1) y0 y1 y2 y3 y4 y5 y6)) ∧ (∀ y0 y1 y2 y3 y4 y5 y6 y7 y8 y9 y10,LeO (impl_tray_strI.l1 k y0 y1 y2 y3 y4 y5 y6 y7 y8 y9 y10) (impl_tray_strI.l1 (k + 1) y0 y1 y2 y3 y4 y5 y6 y7 y8 y9 y10))
 | 0=>⟨fun _ _ _ _ _ _ _ r h=>by simp [impl_tray_strI.l0] at h,fun _ _ _ _ _ _ _ _ _ _ _ r h=>by simp [impl_tray_strI.l1] at h⟩
 | k + 1=>by
  obtain ⟨ih0,ih1⟩:=impl_tray_strI.mono_l k
  refine ⟨?_,?_⟩
  ·intro y0 y1 y2 y3 y4 y5 y6
   unfold impl_tray_strI.l0
   have im0:=@impl_tray_lines.mono;exact mo
  ·intro y0 y1 y2 y3 y4 y5 y6 y7 y8 y9 y10
   unfold impl_tray_strI.l1
   have im0:=@impl_tray_lines.mono;exact mo
theorem impl_tray_strI.calls (k:Nat) (a0_0:Int) (a0_1:Int) (A0_2:Option Addr) (c0_2:Nat) (l0_2:List Int) (a1:Int) (r:List (List Int)) (w:World) (hr0_2:Kd.C (Kd.int .u8) w A0_2 l0_2.length l0_2) (hc0_2:l0_2.length ≤ c0_2) (hne_:∀ x ∈ r,x ≠ []) (hlen_:r.length < 65536) (hv_:∀ x ∈ r,0 ≤ Go.Lib.minOf x ∧ Go.Lib.minOf x < 65536) (h:impl_tray_strI.f k a0_0 a0_1 l0_2 a1 = some r) :
  Calls Tryz.prog 172 #[.agg #[.int .i64 a0_0,.int .i64 a0_1,.slice A0_2 l0_2.length c0_2],.int .u8 a1] w fun e w'=>∃ v0_:Value,e = .returned (v0_) ∧ (∃ ys,ys.Perm r ∧ ys.Pairwise (fun a b=>Go.Lib.minOf a ≤ Go.Lib.minOf b) ∧ Kd.R (Kd.slice 3 (Kd.int .i64)) 40 w' w.heap.size (fun _=>True) v0_ ys) ∧ Below w.heap.size w w':=by
 have HP_:=am (And.intro hne_ (And.intro hlen_ hv_))
 clear hne_ hlen_ hv_
 have hu65:=Tryz.underlying65
 have HR0_2:=am hr0_2
 have HC0_2:=am hc0_2
 clear hr0_2 hc0_2
 have HB:=am (Below.refl w.heap.size w)
 have H:((impl_tray_lines.f k a0_0 a0_1 l0_2 a1).bind fun t105=>(impl_tray_strI.l0 k (([]:List (List Int))) t105 (t105.length:Int) 0 a0_0 a0_1 l0_2)) = some r:=h
 clear h
 obtain ⟨y102,hy102⟩:∃ y_:List (List Int),y_ = (([]:List (List Int))):=⟨_,rfl⟩
 replace H:((impl_tray_lines.f k a0_0 a0_1 l0_2 a1).bind fun t105=>(impl_tray_strI.l0 k y102 t105 (t105.length:Int) 0 a0_0 a0_1 l0_2)) = some r:=by first | (rw [hy102];with_reducible exact H) | (have H2_:=(Option.bind_some _ _).symm.trans H;rw [hy102];with_reducible exact H2_) | (have H2_:=(Option.bind_some _ _).symm.trans H;with_reducible exact H2_) | with_reducible exact H | (rw [hy102];exact H) | exact H
 have Ny102:=am hy102
 clear hy102
 replace H:=Option.bind_eq_some_iff.mp H
 obtain ⟨t105,A30,H⟩:=H
 replace H:(impl_tray_strI.l0 k y102 t105 (t105.length:Int) 0 a0_0 a0_1 l0_2) = some r:=H
 have A3:=am A30
 clear A30
 have H':=am H
 clear H
 go_enter Tryz.func172,Tryz.ntmps172
 go_wp2_with (first | (refine bx 2 #[.int .i64 a0_0,.int .i64 a0_1,.slice A0_2 l0_2.length c0_2] 65 ?_;intro gb101 hg w4 hbox hb;have BK101:=am (hbox);have GW101:=am ((by rw [hg];exact (below_size aq1):w.heap.size ≤ gb101));have GE101:=GW101;replace HB:=am (below_step aq1 hb);clear hb hbox hg) | ((with_reducible refine gate_dst (N:=11) rfl ?_);refine Kd.S_lit (Kd.slice 3 (Kd.int .i64)) _ 40 ?hg (N:=11) ?hd (xs:=([]:List (List Int))) (inner:=[]) (ok:=fun _=>True) (okp:=fun _=>True) ?hr ?hp (fun _ hk=>hk) trivial (Below.refl _ _) (Nat.le_refl _) (by simp) ?_;(case hd=>rfl);(case hg=>rfl);(case hr=>exact aq12);(case hp=>exact aq79);intro v103 w5 ho6 hb hg_ hnew_;clear hg_ hnew_;(first | rw [← Ny102.out] at ho6 | (simp only [Int.reduceToNat] at ho6;rw [← Ny102.out] at ho6));have HO104:=am (Kd.S_lower ho6 (below_size aq0));replace BK101:=am (bb BK101 hb);replace HB:=am (below_step aq0 hb);clear hb ho6;have hcz7_0:w5.cell? ⟨gb101,0,none⟩ = some (.int .i64 a0_0):=(blk_cell BK101.out 0).trans rfl;have hcz7_1:w5.cell? ⟨gb101,1,none⟩ = some (.int .i64 a0_1):=(blk_cell BK101.out 1).trans rfl;have hcz7_2:w5.cell? ⟨gb101,2,none⟩ = some (.slice A0_2 l0_2.length c0_2):=(blk_cell BK101.out 2).trans rfl;have hfz7_0:=blk_frozen BK101.out 0;have hfz7_1:=blk_frozen BK101.out 1;have hfz7_2:=blk_frozen BK101.out 2) | ((with_reducible refine gate_callee (f:=197) rfl ?_);refine goesL_ (some 14) rfl rfl Tryz.func197 k_r rfl #[.agg #[.int .i64 a0_0,.int .i64 a0_1,.slice A0_2 l0_2.length c0_2],.int .u8 a1] rfl aq8 ?_;(with_reducible refine (impl_tray_lines.calls k a0_0 a0_1 _ _ l0_2 a1 t105 _ ?side1 ?side2 A3.out).mono ?_);(case side1=>exact aq7);(case side2=>exact HC0_2.out);rintro e w8 ⟨v106,rfl,ho0,hb⟩;refine ⟨_,rfl,?_⟩;have HO107:=am (Kd.S_lower (Kd.S_new' ho0 (Kd.S_lt aq37)) (below_size aq0));replace HO104:=am (Kd.S_elder' aq37 (Kd.S_base ho0) hb);replace BK101:=am (bb BK101 hb);replace HB:=am (below_step aq0 hb);(try clear hb);(try clear ho0);obtain ⟨Ao9,co9,eo9⟩:=Kd.S_slice HO107.out;subst eo9))
 go_loopg [5,16] k (fun kq v5 v16 w'=>∃ (x5_1:List (List Int)) (x16_1:Int),v16 = .int .i64 x16_1 ∧ Aside0 (impl_tray_strI.l0 kq x5_1 t105 (t105.length:Int) x16_1 a0_0 a0_1 l0_2 = some r) ∧ Aside0 (kq ≤ k) ∧ Aside0 (Kd.S (Kd.slice 3 (Kd.int .i64)) 40 w' w.heap.size (fun k_=>some k_ ≠ ((.slice Ao9 t105.length co9):Value).ownBlock) v5 x5_1) ∧ Aside0 (Kd.S (Kd.slice 3 (Kd.int .i64)) 40 w' w.heap.size (fun k_=>some k_ ≠ (v5:Value).ownBlock) (.slice Ao9 t105.length co9) t105) ∧ Aside0 (w'.heap[gb101]? = some (.cells #[.int .i64 a0_0,.int .i64 a0_1,(.slice A0_2 l0_2.length c0_2)] 65 (0,0))) ∧ Aside0 (Below w.heap.size w w'))
 case atStart=>exact ⟨(y102),(0),aq6,H',⟨Nat.le_refl _⟩,⟨by (with_reducible repeat (first | apply Kd.S_alloc | apply Kd.S_drewN | apply Kd.S_drew));exact Kd.S_mono HO104.out (fun _ hk=>hk.2)⟩,⟨by (with_reducible repeat (first | apply Kd.S_alloc | apply Kd.S_drewN | apply Kd.S_drew));exact Kd.S_mono HO107.out (fun _ hk=>hk.2)⟩,⟨aq2⟩,⟨aq0⟩⟩
 case round =>
  clear H'
  try clear c1
  try clear p2
  try clear hcz7_0
  try clear hcz7_1
  try clear hcz7_2
  try clear hfz7_0
  try clear hfz7_1
  try clear hfz7_2
  obtain ⟨x5_1,x16_1,rfl,HA,HK1,HO_5,HO_14,BK101,HB⟩:=hrel
  cases gk with
  | zero=>exact absurd HA.out (by simp [impl_tray_strI.l0])
  | succ k1 =>
   have H:=HA.out
   clear HA
   simp only [impl_tray_strI.l0] at H
   by_cases c10:x16_1 < (t105.length:Int)
   rotate_left
   ·rw [if_neg c10] at H
    have c10b0:decide (x16_1 < (t105.length:Int)) = false:=decide_eq_false c10
    clear c10
    obtain rfl:=Option.some.inj H
    go_wp2_with (first | (go_at_call 198;refine (sortfunc_calls (Kd.S_R (Kd.S_mono HO_5.out (fun _ _=>trivial))) HP_.out.1 HP_.out.2.1 HP_.out.2.2).mono ?_;rintro e_ w9_ ⟨rfl,ys_,hp_,hs_,hR_,hB_,_⟩))
    go_ret
    exact ⟨_,rfl,⟨ys_,hp_,hs_,hR_⟩,hB_ _ HB.out (Nat.le_refl _)⟩
   rw [if_pos c10] at H
   have c10b0:decide (x16_1 < (t105.length:Int)) = true:=decide_eq_true c10
   clear c10
   replace H:=gd H
   obtain ⟨c11,H⟩:=H
   have c11b0:decide (0 ≤ x16_1) = true:=decide_eq_true c11
   clear c11
   replace H:=gd H
   obtain ⟨c12,H⟩:=H
   have c12b0:decide (x16_1 < (t105.length:Int)) = true:=decide_eq_true c12
   clear c12
   obtain ⟨y109,hy109⟩:∃ y_:List Int,y_ = (([]:List Int)):=⟨_,rfl⟩
   replace H:(impl_tray_strI.l1 k1 x5_1 y109 t105 (t105.length:Int) x16_1 (rd_L3 t105 x16_1) ((rd_L3 t105 x16_1).length:Int) 0 a0_0 a0_1 l0_2) = some r:=by first | (rw [hy109];with_reducible exact H) | (have H2_:=(Option.bind_some _ _).symm.trans H;rw [hy109];with_reducible exact H2_) | (have H2_:=(Option.bind_some _ _).symm.trans H;with_reducible exact H2_) | with_reducible exact H | (rw [hy109];exact H) | exact H
   have Ny109:=am hy109
   clear hy109
   have H':=am H
   clear H
   have p108:0 ≤ (x16_1:Int):=of_decide_eq_true aq4
   have q108:x16_1 < (t105.length:Int):=of_decide_eq_true aq4
   obtain ⟨ad108,A108_0,c108_0,e108,hx108_0,hl108_0,hi108_0⟩:=at_L3 (Kd.S_reads' HO_14.out).2.2 x16_1 p108 q108
   cases e108
   obtain ⟨ce108,hce108,hMe108,hcc108⟩:=Kd.S_get HO_14.out [] x16_1 p108 (by first | exact q108 | exact of_decide_eq_true aq4 | (have e_:=(Kd.S_reads' HO_14.out).1;omega))
   obtain ⟨ve108_0,rfl,ge108_0⟩:=hMe108
   have hv108_0:=hcc108 0 _ rfl
   rw [Nat.add_zero,show ((Kd.slice 3 (Kd.int .i64))).sz = 1 from rfl,Nat.mul_one] at hv108_0
   replace hv108_0:=Option.some.inj (hv108_0.symm.trans hx108_0)
   rw [hv108_0] at ge108_0
   have HL108_0:=am (show Kd.R (Kd.int .i64) 3 _ _ _ _ (rd_L3 t105 x16_1) from ge108_0)
   clear hv108_0 ge108_0 hcc108 hce108
   have HR108_0:=am hi108_0
   have HC108_0:=am hl108_0
   clear hi108_0 hl108_0
   replace p108:=eq_true p108
   replace q108:=eq_true q108
   go_wp2_with (first | ((with_reducible refine gate_dst (N:=20) rfl ?_);refine Kd.R_lit (Kd.int .i64) _ 3 ?hg (N:=20) ?hd (xs:=([]:List Int)) (inner:=[]) (ok:=fun _=>True) (okp:=fun _=>True) ?hr ?hp (fun _ hk=>hk) trivial (Below.refl _ _) (Nat.le_refl _) (by simp) ?_;(case hd=>rfl);(case hg=>rfl);(case hr=>exact aq12);(case hp=>exact aq79);intro v110 w13 ho14 hb hg_ hnew_;clear hg_ hnew_;(first | rw [← Ny109.out] at ho14 | (simp only [Int.reduceToNat] at ho14;rw [← Ny109.out] at ho14));replace HO_5:=am (Kd.S_elder' aq18 (Kd.R_base ho14) hb);replace HO_14:=am (Kd.S_elder' aq27 (Kd.R_base ho14) hb);have HO111:=am (Kd.R_lower (Kd.R_new' ho14 (Kd.R_lt (by (with_reducible repeat (first | apply Kd.R_alloc | apply Kd.R_drewN | apply Kd.R_drew));exact HL108_0.out))) (below_size aq0));replace HL108_0:=am (Kd.R_elder' (by (with_reducible repeat (first | apply Kd.R_alloc | apply Kd.R_drewN | apply Kd.R_drew));exact HL108_0.out) (Kd.R_base ho14) hb);replace BK101:=am (bb BK101 hb);replace HR108_0:=am (Kd.C_below (by repeat (first | (with_reducible exact HR108_0.out) | (with_reducible refine Kd.C_alloc ?_ _) | (with_reducible refine Kd.C_drewN ?_ _) | (with_reducible refine Kd.C_drew ?_) | exact HR108_0.out)) hb);replace HB:=am (below_step aq0 hb);clear hb ho14))
   go_loopg [5,8,23] k1 (fun kq v5 v8 v23 w'=>∃ (x5_2:List (List Int)) (x8_2:List Int) (x23_2:Int),v23 = .int .i64 x23_2 ∧ Aside0 (impl_tray_strI.l1 kq x5_2 x8_2 t105 (t105.length:Int) x16_1 (rd_L3 t105 x16_1) ((rd_L3 t105 x16_1).length:Int) x23_2 a0_0 a0_1 l0_2 = some r) ∧ Aside0 (kq ≤ k1) ∧ Aside0 (Kd.S (Kd.slice 3 (Kd.int .i64)) 40 w' w.heap.size (fun k_=>some k_ ≠ (v8:Value).ownBlock ∧ some k_ ≠ ((.slice (some ad108) t105.length co9):Value).ownBlock) v5 x5_2) ∧ Aside0 (Kd.R (Kd.int .i64) 3 w' w.heap.size (fun _=>True) v8 x8_2) ∧ Aside0 (Kd.S (Kd.slice 3 (Kd.int .i64)) 40 w' w.heap.size (fun k_=>some k_ ≠ (v5:Value).ownBlock ∧ some k_ ≠ (v8:Value).ownBlock) (.slice (some ad108) t105.length co9) t105) ∧ Aside0 (w'.heap[gb101]? = some (.cells #[.int .i64 a0_0,.int .i64 a0_1,(.slice A0_2 l0_2.length c0_2)] 65 (0,0))) ∧ Aside0 (Below w.heap.size w w') ∧ Aside0 (Kd.R (Kd.int .i64) 3 w' w.heap.size (fun k_=>some k_ ≠ (v5:Value).ownBlock ∧ some k_ ≠ (v8:Value).ownBlock) (.slice A108_0 (rd_L3 t105 x16_1).length c108_0) (rd_L3 t105 x16_1)))
   case atStart=>exact ⟨(x5_1),(y109),(0),aq6,H',⟨Nat.le_refl _⟩,⟨aq54⟩,⟨by (with_reducible repeat (first | apply Kd.R_alloc | apply Kd.R_drewN | apply Kd.R_drew));exact Kd.R_mono HO111.out (fun _ hk=>trivial)⟩,⟨aq27⟩,⟨aq2⟩,⟨aq0⟩,⟨by first | exact Kd.R_mono HL108_0.out (fun _ hk=>⟨hk.1.1,hk.2⟩) | exact Kd.R_mono HL108_0.out (fun _ hk=>⟨hk.1.1.1,hk.2⟩)⟩⟩
   case round =>
    clear H'
    try clear c1
    try clear p1
    try clear q1
    try clear hx1
    try clear p2
    try clear c10
    try clear c10b0
    try clear p10
    try clear q10
    try clear hx10
    try clear c11
    try clear c11b0
    try clear c12
    try clear c12b0
    try clear hcz7_0
    try clear hcz7_1
    try clear hcz7_2
    try clear hfz7_0
    try clear hfz7_1
    try clear hfz7_2
    try clear hx108_0
    try clear p108
    try clear p2
    try clear q108
    obtain ⟨x5_2,x8_2,x23_2,rfl,HA,HK2,HO_5,HO_8,HO_14,BK101,HB,HLq⟩:=hrel
    cases gk with
    | zero=>exact absurd HA.out (by simp [impl_tray_strI.l1])
    | succ k2 =>
     have H:=HA.out
     clear HA
     simp only [impl_tray_strI.l1] at H
     by_cases c15:x23_2 < ((rd_L3 t105 x16_1).length:Int)
     rotate_left
     ·rw [if_neg c15] at H
      have c15b0:decide (x23_2 < ((rd_L3 t105 x16_1).length:Int)) = false:=decide_eq_false c15
      clear c15
      by_cases c31:(x8_2.length:Int) > 0
      rotate_left
      ·rw [if_neg c31] at H
       have c31b0:decide (0 < (x8_2.length:Int)) = false:=decide_eq_false c31
       have c31b1:decide (0 < x8_2.length) = false:=decide_eq_false o_m
       clear c31
       have H':=am H
       clear H
       obtain ⟨Ao35,co35,eo35⟩:=Kd.R_slice HO_8.out
       subst eo35
       go_wp2
       go_roundg k2
       case measure=>have:=HK1.out;have:=HK2.out;omega
       case rel=>exact ⟨(x5_2),(wrap64 (x16_1 + 1)),aq6,H',⟨aq43⟩,⟨aq40⟩,⟨by (with_reducible repeat (first | apply Kd.S_alloc | apply Kd.S_drewN | apply Kd.S_drew));exact Kd.S_mono HO_14.out (fun _ hk=>hk.1)⟩,⟨aq2⟩,⟨aq0⟩⟩
      rw [if_pos c31] at H
      have c31b0:decide (0 < (x8_2.length:Int)) = true:=decide_eq_true c31
      have c31b1:decide (0 < x8_2.length) = true:=decide_eq_true o_m
      clear c31
      replace H:=gd H
      obtain ⟨c32,H⟩:=H
      have LMc32:=am c32
      clear c32
      obtain ⟨y112,hy112⟩:∃ y_:List (List Int),y_ = (x5_2 ++ [x8_2]):=⟨_,rfl⟩
      replace H:(impl_tray_strI.l0 k2 y112 t105 (t105.length:Int) (wrap64 (x16_1 + 1)) a0_0 a0_1 l0_2) = some r:=by first | (rw [hy112];with_reducible exact H) | (have H2_:=(Option.bind_some _ _).symm.trans H;rw [hy112];with_reducible exact H2_) | (have H2_:=(Option.bind_some _ _).symm.trans H;with_reducible exact H2_) | with_reducible exact H | (rw [hy112];exact H) | exact H
      have Ny112:=am hy112
      clear hy112
      have H':=am H
      clear H
      obtain ⟨Ao33,co33,eo33⟩:=Kd.R_slice HO_8.out
      subst eo33
      go_wp2_with (first | ((with_reducible refine gate_builtin (b:=.append) (xs:=#[.tmp 48,.tmp 50]) rfl ?_);at_builtin;refine Kd.S_append (Kd.slice 3 (Kd.int .i64)) (w0:=w) w.heap.size rfl (.tmp 48) (.tmp 50) 57 40 (.slice none 0 0) 24 rfl Tryz.underlying57 info40 rfl d_c o_m u5 x5_2 x8_2 [.slice Ao33 x8_2.length co33] (fun k_=>some k_ ≠ (.slice (some ad108) t105.length co9:Value).ownBlock) (fun k_=>some k_ = (.slice Ao33 x8_2.length co33:Value).ownBlock) rfl rfl ?aP (fun k_ hk_=>((Kd.R_mono (ok':=fun k_=>((fun k_=>some k_ ≠ (.slice (some ad108) t105.length co9:Value).ownBlock)) k_ ∧ some k_ ≠ (u5:Value).ownBlock) (Kd.R_apart' (Kd.R_apart' (HO_8.out) (Kd.S_typed HO_14.out) d_c) (Kd.S_typed HO_5.out) d_c) (fun k_ hk=>⟨hk.1.2,hk.2⟩))).1 k_ hk_.symm) ?aF ?aO ?aB ?aS ?aL ?_;(case aP=>exact aq46);(case aB=>exact aq0);(case aF=>exact (fun k_ hk=>Kd.fresh' (Kd.S_lt aq27) k_ hk));(case aO=>exact aq70);(case aS=>exact aq51);(case aL=>have:=LMc32.out;omega);intro v113 w34 ho hb hg hat;rw [← Ny112.out] at ho;replace HO_14:=am (Kd.S_after (ok:=(fun k_=>some k_ ≠ (.slice Ao33 x8_2.length co33:Value).ownBlock)) aq78 hg hat);replace BK101:=am (bg BK101 hg (Kd.S_ne HO_5.out BK101.out d_c));replace HB:=am (hb);have HO114:=am (ho);clear HO_5 HO_8 ho hb hg hat))
      go_roundg k2
      case measure=>have:=HK1.out;have:=HK2.out;omega
      case rel=>exact ⟨(y112),(wrap64 (x16_1 + 1)),aq6,H',⟨aq43⟩,⟨by (with_reducible repeat (first | apply Kd.S_alloc | apply Kd.S_drewN | apply Kd.S_drew));exact HO114.out⟩,⟨by (with_reducible repeat (first | apply Kd.S_alloc | apply Kd.S_drewN | apply Kd.S_drew));exact Kd.S_mono HO_14.out (fun _ hk=>hk.2)⟩,⟨aq2⟩,⟨aq0⟩⟩
     rw [if_pos c15] at H
     have c15b0:decide (x23_2 < ((rd_L3 t105 x16_1).length:Int)) = true:=decide_eq_true c15
     clear c15
     replace H:=gd H
     obtain ⟨c16,H⟩:=H
     have c16b0:decide (0 ≤ x23_2) = true:=decide_eq_true c16
     clear c16
     replace H:=gd H
     obtain ⟨c17,H⟩:=H
     have c17b0:decide (x23_2 < ((rd_L3 t105 x16_1).length:Int)) = true:=decide_eq_true c17
     clear c17
     replace H:=gd H
     obtain ⟨c18,H⟩:=H
     have c18b0:decide (0 ≤ (rd (rd_L3 t105 x16_1) x23_2)) = true:=decide_eq_true c18
     clear c18
     replace H:=gd H
     obtain ⟨c19,H⟩:=H
     have c19b0:decide ((rd (rd_L3 t105 x16_1) x23_2) < (l0_2.length:Int)) = true:=decide_eq_true c19
     clear c19
     by_cases c20:(rd l0_2 (rd (rd_L3 t105 x16_1) x23_2)) = 35
     rotate_left
     ·rw [if_neg c20] at H
      have c20b0:((rd l0_2 (rd (rd_L3 t105 x16_1) x23_2)) == 35) = false:=beq_eq_false_iff_ne.mpr c20
      have c20b1:((rd l0_2 (rd (rd_L3 t105 x16_1) x23_2)) != 35) = true:=bne_iff_ne.mpr c20
      replace H:=gd H
      obtain ⟨c28,H⟩:=H
      have LMc28:=am c28
      clear c28
      obtain ⟨y120,hy120⟩:∃ y_:List Int,y_ = (x8_2 ++ [rd (rd_L3 t105 x16_1) x23_2]):=⟨_,rfl⟩
      replace H:(impl_tray_strI.l1 k2 x5_2 y120 t105 (t105.length:Int) x16_1 (rd_L3 t105 x16_1) ((rd_L3 t105 x16_1).length:Int) (wrap64 (x23_2 + 1)) a0_0 a0_1 l0_2) = some r:=by first | (rw [hy120];with_reducible exact H) | (have H2_:=(Option.bind_some _ _).symm.trans H;rw [hy120];with_reducible exact H2_) | (have H2_:=(Option.bind_some _ _).symm.trans H;with_reducible exact H2_) | with_reducible exact H | (rw [hy120];exact H) | exact H
      have Ny120:=am hy120
      clear hy120
      have H':=am H
      clear H
      have p115:0 ≤ (x23_2:Int):=of_decide_eq_true aq4
      have q115:x23_2 < ((rd_L3 t105 x16_1).length:Int):=of_decide_eq_true aq4
      obtain ⟨ad115,e115,hx115_0⟩:=Kd.at_int (Kd.R_reads' HLq.out).2.2 x23_2 p115 q115
      cases e115
      try replace hx115_0:=(HB.out.cell (World.block_lt_of_cell? w _ hx115_0)).trans hx115_0
      replace p115:=eq_true p115
      replace q115:=eq_true q115
      have hcz29_0:wr.cell? ⟨gb101,0,none⟩ = some (.int .i64 a0_0):=(blk_cell BK101.out 0).trans rfl
      have hcz29_1:wr.cell? ⟨gb101,1,none⟩ = some (.int .i64 a0_1):=(blk_cell BK101.out 1).trans rfl
      have hcz29_2:wr.cell? ⟨gb101,2,none⟩ = some (.slice A0_2 l0_2.length c0_2):=(blk_cell BK101.out 2).trans rfl
      have hfz29_0:=blk_frozen BK101.out 0
      have hfz29_1:=blk_frozen BK101.out 1
      have hfz29_2:=blk_frozen BK101.out 2
      have p116:0 ≤ ((rd (rd_L3 t105 x16_1) x23_2):Int):=of_decide_eq_true aq4
      have q116:(rd (rd_L3 t105 x16_1) x23_2) < (l0_2.length:Int):=of_decide_eq_true aq4
      obtain ⟨ad116,e116,hx116_0⟩:=Kd.at_int HR0_2.out (rd (rd_L3 t105 x16_1) x23_2) p116 q116
      cases e116
      try replace hx116_0:=(HB.out.cell (World.block_lt_of_cell? w _ hx116_0)).trans hx116_0
      replace p116:=eq_true p116
      replace q116:=eq_true q116
      go_wp2_with (first | ((with_reducible refine gate_builtin (b:=.append) (xs:=#[.tmp 33,.tmp 35]) rfl ?_);at_builtin;refine Kd.R_append (Kd.int .i64) (w0:=w) w.heap.size rfl (.tmp 33) (.tmp 35) 40 3 (.int .i64 0) 8 rfl Tryz.underlying40 info3 rfl d_c o_m u8 x8_2 (rd (rd_L3 t105 x16_1) x23_2) [.int .i64 (rd (rd_L3 t105 x16_1) x23_2)] (fun _=>True) (fun _=>False) rfl rfl ?aP (fun _ hk=>hk.elim) ?aF ?aO ?aB ?aS ?aL ?_;(case aP=>exact rfl);(case aB=>exact aq0);(case aF=>exact aq50);(case aO=>exact aq20);(case aS=>exact aq51);(case aL=>have:=LMc28.out;omega);intro v121 w30 ho hb hg hat;rw [← Ny120.out] at ho;have n0_:=am (Kd.S_after (ok:=(fun k_=>some k_ ≠ (.slice (some ad108) t105.length co9:Value).ownBlock)) aq54 hg hat);have n1_:=am (Kd.S_after (ok:=(fun k_=>some k_ ≠ (u5:Value).ownBlock)) aq27 hg hat);have n2_:=am (bg BK101 hg (Kd.R_ne HO_8.out BK101.out d_c));have n3_:=am (hb);have n4_:=am (ho);clear HO_5;have nq_:=am (Kd.R_after (ok:=(fun k_=>some k_ ≠ (u5:Value).ownBlock)) HLq.out hg hat);clear HLq;have HLq:=nq_;clear nq_ HO_14 BK101 HB HO_8;have HO_5:=n0_;have HO_14:=n1_;have BK101:=n2_;have HB:=n3_;have HO122:=n4_;clear n0_ n1_ n2_ n3_ n4_ ho hb hg hat))
      go_roundg k2
      case measure=>have:=HK1.out;have:=HK2.out;omega
      case rel=>exact ⟨(x5_2),(y120),(wrap64 (x23_2 + 1)),aq6,H',⟨aq43⟩,⟨aq54⟩,⟨by (with_reducible repeat (first | apply Kd.R_alloc | apply Kd.R_drewN | apply Kd.R_drew));exact HO122.out⟩,⟨aq27⟩,⟨aq2⟩,⟨aq0⟩,⟨aq52⟩⟩
     rw [if_pos c20] at H
     have c20b0:((rd l0_2 (rd (rd_L3 t105 x16_1) x23_2)) == 35) = true:=beq_iff_eq.mpr c20
     have c20b1:((rd l0_2 (rd (rd_L3 t105 x16_1) x23_2)) != 35) = false:=bne_eq_false_iff_eq.mpr c20
     clear c20
     by_cases c21:(x8_2.length:Int) > 0
     rotate_left
     ·rw [if_neg c21] at H
      have c21b0:decide (0 < (x8_2.length:Int)) = false:=decide_eq_false c21
      have c21b1:decide (0 < x8_2.length) = false:=decide_eq_false o_m
      clear c21
      have H':=am H
      clear H
      have p115:0 ≤ (x23_2:Int):=of_decide_eq_true aq4
      have q115:x23_2 < ((rd_L3 t105 x16_1).length:Int):=of_decide_eq_true aq4
      obtain ⟨ad115,e115,hx115_0⟩:=Kd.at_int (Kd.R_reads' HLq.out).2.2 x23_2 p115 q115
      cases e115
      try replace hx115_0:=(HB.out.cell (World.block_lt_of_cell? w _ hx115_0)).trans hx115_0
      replace p115:=eq_true p115
      replace q115:=eq_true q115
      have hcz26_0:wr.cell? ⟨gb101,0,none⟩ = some (.int .i64 a0_0):=(blk_cell BK101.out 0).trans rfl
      have hcz26_1:wr.cell? ⟨gb101,1,none⟩ = some (.int .i64 a0_1):=(blk_cell BK101.out 1).trans rfl
      have hcz26_2:wr.cell? ⟨gb101,2,none⟩ = some (.slice A0_2 l0_2.length c0_2):=(blk_cell BK101.out 2).trans rfl
      have hfz26_0:=blk_frozen BK101.out 0
      have hfz26_1:=blk_frozen BK101.out 1
      have hfz26_2:=blk_frozen BK101.out 2
      have p116:0 ≤ ((rd (rd_L3 t105 x16_1) x23_2):Int):=of_decide_eq_true aq4
      have q116:(rd (rd_L3 t105 x16_1) x23_2) < (l0_2.length:Int):=of_decide_eq_true aq4
      obtain ⟨ad116,e116,hx116_0⟩:=Kd.at_int HR0_2.out (rd (rd_L3 t105 x16_1) x23_2) p116 q116
      cases e116
      try replace hx116_0:=(HB.out.cell (World.block_lt_of_cell? w _ hx116_0)).trans hx116_0
      replace p116:=eq_true p116
      replace q116:=eq_true q116
      obtain ⟨Ao27,co27,eo27⟩:=Kd.R_slice HO_8.out
      subst eo27
      go_wp2
      go_roundg k2
      case measure=>have:=HK1.out;have:=HK2.out;omega
      case rel=>exact ⟨(x5_2),(x8_2),(wrap64 (x23_2 + 1)),aq6,H',⟨aq43⟩,⟨aq18⟩,⟨aq20⟩,⟨aq27⟩,⟨aq2⟩,⟨aq0⟩,⟨aq52⟩⟩
     rw [if_pos c21] at H
     have c21b0:decide (0 < (x8_2.length:Int)) = true:=decide_eq_true c21
     have c21b1:decide (0 < x8_2.length) = true:=decide_eq_true o_m
     clear c21
     replace H:=gd H
     obtain ⟨c22,H⟩:=H
     have LMc22:=am c22
     clear c22
     obtain ⟨y117,hy117⟩:∃ y_:List (List Int),y_ = (x5_2 ++ [x8_2]):=⟨_,rfl⟩
     replace H:(impl_tray_strI.l1 k2 y117 ([]:List Int) t105 (t105.length:Int) x16_1 (rd_L3 t105 x16_1) ((rd_L3 t105 x16_1).length:Int) (wrap64 (x23_2 + 1)) a0_0 a0_1 l0_2) = some r:=by first | (rw [hy117];with_reducible exact H) | (have H2_:=(Option.bind_some _ _).symm.trans H;rw [hy117];with_reducible exact H2_) | (have H2_:=(Option.bind_some _ _).symm.trans H;with_reducible exact H2_) | with_reducible exact H | (rw [hy117];exact H) | exact H
     have Ny117:=am hy117
     clear hy117
     have H':=am H
     clear H
     have p115:0 ≤ (x23_2:Int):=of_decide_eq_true aq4
     have q115:x23_2 < ((rd_L3 t105 x16_1).length:Int):=of_decide_eq_true aq4
     obtain ⟨ad115,e115,hx115_0⟩:=Kd.at_int (Kd.R_reads' HLq.out).2.2 x23_2 p115 q115
     cases e115
     try replace hx115_0:=(HB.out.cell (World.block_lt_of_cell? w _ hx115_0)).trans hx115_0
     replace p115:=eq_true p115
     replace q115:=eq_true q115
     have hcz23_0:wr.cell? ⟨gb101,0,none⟩ = some (.int .i64 a0_0):=(blk_cell BK101.out 0).trans rfl
     have hcz23_1:wr.cell? ⟨gb101,1,none⟩ = some (.int .i64 a0_1):=(blk_cell BK101.out 1).trans rfl
     have hcz23_2:wr.cell? ⟨gb101,2,none⟩ = some (.slice A0_2 l0_2.length c0_2):=(blk_cell BK101.out 2).trans rfl
     have hfz23_0:=blk_frozen BK101.out 0
     have hfz23_1:=blk_frozen BK101.out 1
     have hfz23_2:=blk_frozen BK101.out 2
     have p116:0 ≤ ((rd (rd_L3 t105 x16_1) x23_2):Int):=of_decide_eq_true aq4
     have q116:(rd (rd_L3 t105 x16_1) x23_2) < (l0_2.length:Int):=of_decide_eq_true aq4
     obtain ⟨ad116,e116,hx116_0⟩:=Kd.at_int HR0_2.out (rd (rd_L3 t105 x16_1) x23_2) p116 q116
     cases e116
     try replace hx116_0:=(HB.out.cell (World.block_lt_of_cell? w _ hx116_0)).trans hx116_0
     replace p116:=eq_true p116
     replace q116:=eq_true q116
     obtain ⟨Ao24,co24,eo24⟩:=Kd.R_slice HO_8.out
     subst eo24
     go_wp2_with (first | ((with_reducible refine gate_builtin (b:=.append) (xs:=#[.tmp 40,.tmp 42]) rfl ?_);at_builtin;refine Kd.S_append (Kd.slice 3 (Kd.int .i64)) (w0:=w) w.heap.size rfl (.tmp 40) (.tmp 42) 57 40 (.slice none 0 0) 24 rfl Tryz.underlying57 info40 rfl d_c o_m u5 x5_2 x8_2 [.slice Ao24 x8_2.length co24] (fun k_=>some k_ ≠ (.slice (some ad108) t105.length co9:Value).ownBlock) (fun k_=>some k_ = (.slice Ao24 x8_2.length co24:Value).ownBlock) rfl rfl ?aP (fun k_ hk_=>((Kd.R_mono (ok':=fun k_=>((fun k_=>some k_ ≠ (.slice (some ad108) t105.length co9:Value).ownBlock)) k_ ∧ some k_ ≠ (u5:Value).ownBlock) (Kd.R_apart' (Kd.R_apart' (HO_8.out) (Kd.S_typed HO_14.out) d_c) (Kd.S_typed HO_5.out) d_c) (fun k_ hk=>⟨hk.1.2,hk.2⟩))).1 k_ hk_.symm) ?aF ?aO ?aB ?aS ?aL ?_;(case aP=>exact aq46);(case aB=>exact aq0);(case aF=>exact (fun k_ hk=>Kd.fresh' (Kd.S_lt aq27) k_ hk));(case aO=>exact aq70);(case aS=>exact aq51);(case aL=>have:=LMc22.out;omega);intro v118 w25 ho hb hg hat;rw [← Ny117.out] at ho;replace HLq:=am (Kd.R_after (ok:=(fun k_=>some k_ ≠ (.slice Ao24 x8_2.length co24:Value).ownBlock)) (Kd.R_mono HLq.out (fun _ hk=>⟨hk.2,hk.1⟩)) hg hat);replace HO_14:=am (Kd.S_after (ok:=(fun k_=>some k_ ≠ (.slice Ao24 x8_2.length co24:Value).ownBlock)) aq78 hg hat);replace BK101:=am (bg BK101 hg (Kd.S_ne HO_5.out BK101.out d_c));replace HB:=am (hb);have HO119:=am (ho);clear HO_5 HO_8 ho hb hg hat))
     go_roundg k2
     case measure=>have:=HK1.out;have:=HK2.out;omega
     case rel=>exact ⟨(y117),(([]:List Int)),(wrap64 (x23_2 + 1)),aq6,H',⟨aq43⟩,⟨by (with_reducible repeat (first | apply Kd.S_alloc | apply Kd.S_drewN | apply Kd.S_drew));exact Kd.S_mono HO119.out (fun _ hk=>⟨(by simp [Value.ownBlock]),hk⟩)⟩,⟨aq19⟩,⟨by (with_reducible repeat (first | apply Kd.S_alloc | apply Kd.S_drewN | apply Kd.S_drew));exact Kd.S_mono HO_14.out (fun _ hk=>⟨hk.2,(by simp [Value.ownBlock])⟩)⟩,⟨aq2⟩,⟨aq0⟩,⟨aq52⟩⟩
end Go.Proofs.YtldhkbiomingbaaGreatDoor.F

namespace Go.Proofs.YtldhkbiomingbaaGreatDoor
open Go.RowKit Go.YW.PrintWords Go.YW.PrintLast Go.YW.PrintMore Go.Lib Go.Shelf Go.Proofs.YtldhkbiomingbaaGreatDoor.F Go.Maps
attribute [local go_sem] max2_int min2_int
theorem putAll_put (cs out:List Int) (m:List (Nat × Nat)) (k t:Nat):putAll cs out (m ++ [(k,t)]) = (putAll cs out m).set t (cs.getD k 0):=by rw [putAll_app];rfl
theorem tiTilt_calls (a0 a1 dir:Int) (A2:Option Addr) (c2:Nat) (l2:List Int) (SN:List (List Nat)) (w:World) (hr2:Kd.C (Kd.int .u8) w A2 l2.length l2) (hc2:l2.length ≤ c2)
  (hl:0 < l2.length ∧ l2.length < 65536) (hS:∀ st ∈ SN,∀ i ∈ st,i < l2.length) (hlen1:SN.length < 65536) (hlen2:∀ st ∈ SN,st.length < 65536)
  (hcall:∀ W,Below w.heap.size w W → Calls Tryz.prog 120 #[.agg #[.int .i64 a0,.int .i64 a1,.slice A2 l2.length c2],.int .i64 dir] W fun e w'=>∃ v,e = .returned v ∧ Kd.N (Kd.slice 3 (Kd.int .i64)) 40 w' W.heap.size (fun k_=>W.heap.size ≤ k_) v (SN.map castsI) ∧ Below W.heap.size W w') :
  Calls Tryz.prog 100 #[.agg #[.int .i64 a0,.int .i64 a1,.slice A2 l2.length c2],.int .i64 dir] w fun e w'=>∃ v2_:Value,e = .returned (.agg #[.int .i64 a0,.int .i64 a1,v2_]) ∧ Kd.R (Kd.int .u8) 5 w' w.heap.size (fun _=>True) v2_ (putAll l2 (wallsL l2) (mvs (ballAt l2) SN)) ∧ Below w.heap.size w w':=by
 have hball:∀ (c:Int) (W:World),Calls Tryz.prog 116 #[.int .u8 c] W fun e w'=>e = .returned (.bool (isBallC c)) ∧ w'.heap = W.heap ∧ Below W.heap.size W w':=fun c W=>by
  refine (spec_tyBall.calls c (isBallC c) W (spec_tyBall_is c)).mono ?_
  rintro e w' ⟨rfl,⟨nd,rfl⟩⟩
  exact ⟨rfl,rfl,pw_below_drewN (Below.refl _ _) nd⟩
 have hemp:spec_tyWalls.f a0 a1 l2 = some (a0,a1,wallsL l2):=if_pos hl
 have HR:=am hr2
 have HC:=am hc2
 have HL:=am hl
 have HSS:=am hS
 have HLEN:=am (And.intro hlen1 hlen2)
 have HCALL:=am hcall
 obtain ⟨sb,so,rfl,hsb,hscells⟩:=C_place hr2 hl.1
 have hwalls:∀ W,Below w.heap.size w W → Calls Tryz.prog 119 #[.agg #[.int .i64 a0,.int .i64 a1,.slice (some ⟨sb,so,none⟩) l2.length c2]] W fun e w'=>∃ g co ts,e = .returned (.agg #[.int .i64 a0,.int .i64 a1,.slice (some ⟨g,0,none⟩) l2.length co]) ∧ W.heap.size ≤ g ∧ l2.length ≤ co ∧ w'.heap[g]? = some (.cells ((wallsL l2).map (Value.int .u8) ++ ts).toArray 5 (0,0)) ∧ ts.length + l2.length = co ∧ co ≤ maxLen ∧ Below W.heap.size W w':=fun W hW=>by
  refine (spec_tyWalls.calls a0 a1 _ c2 l2 a0 a1 (wallsL l2) W (Kd.C_below HR.out hW) HC.out hemp).mono ?_
  rintro e w' ⟨v2,rfl,ho,hb⟩
  have hwl:(wallsL l2).length = l2.length:=by simp [wallsL]
  obtain ⟨_,⟨rfl,h0⟩ | ⟨g,cap,cur,rfl,hg,hrow,hcl,hcm,hsz,htk⟩⟩:=Kd.own_of_R (enc:=Value.int .u8) (h1:=fun _=>rfl) ho
  ·have:=HL.out;omega
  ·rw [hwl] at hcl htk
   refine ⟨g,cap,cur.toList.drop l2.length,by rw [hwl],hg,hcl,?_,?_,hcm,hb⟩
   ·rw [hrow]
    congr 2
    have:(wallsL l2).map (Value.int .u8) ++ cur.toList.drop l2.length = cur.toList:=by
     rw [show (wallsL l2).map (Value.int .u8) = cur.toList.take l2.length from by rw [← encs,← htk,Nat.mul_one]]
     exact List.take_append_drop _ _
    rw [this]
   ·rw [List.length_drop,Array.length_toList];omega
 have HSC:=am hscells
 have HSB:=am hsb
 have HB:=am (Below.refl w.heap.size w)
 clear hr2 hc2 hl hS hlen1 hlen2 hscells hsb hcall hemp
 go_enter Tryz.func100,Tryz.ntmps100
 go_wp2_with (first
  | (refine bx 2 #[.int .i64 a0,.int .i64 a1,.slice (some ⟨sb,so,none⟩) l2.length c2] 75 ?_;intro b1 hg1 w3 hbox1 hb1;have G1:=am hg1;have X1:=am hbox1;have B1:=am hb1;clear hg1 hbox1 hb1)
  | (refine bx 4 #[.int .i64 0,.int .i64 0,.slice none 0 0] 75 ?_;intro b2 hg2 w4 hbox2 hb2;have G2:=am hg2;have X2:=am hbox2;have B2:=am (below_step B1.out hb2);have n1:=am (blk_below X1.out hb2);clear X1;have X1:=n1;clear n1;have z10:w4.cell? ⟨b1,0,none⟩ = some (.int .i64 a0):=(blk_cell X1.out 0).trans rfl;have z11:w4.cell? ⟨b1,1,none⟩ = some (.int .i64 a1):=(blk_cell X1.out 1).trans rfl;have z12:w4.cell? ⟨b1,2,none⟩ = some (.slice (some ⟨sb,so,none⟩) l2.length c2):=(blk_cell X1.out 2).trans rfl;clear hg2 hbox2 hb2)
  | (go_at_call 119;refine (hwalls _ B2.out).mono ?_;rintro e w5 ⟨g,co,ts,rfl,hg0,hco,hrow,hts,hcb,hb⟩;have G0:=am hg0;have HCO:=am hco;have HROW:=am hrow;have HTS:=am hts;have HCB:=am hcb;have B5:=am (below_step B2.out hb);have n2:=am (blk_below X2.out hb);have n1:=am (blk_below X1.out hb);clear X1 X2;have X2:=n2;have X1:=n1;clear n1 n2 z10 z11 z12;have hbl:(w5.alloc (.cells #[.int .i64 a0,.int .i64 a1,.slice (some ⟨g,0,none⟩) l2.length co] 75)).heap[b1]? = _:=(((Below.refl _ w5).alloc (Nat.le_refl _) _).block b1 (blk_lt X1.out)).trans X1.out;have z10:(w5.alloc (.cells #[.int .i64 a0,.int .i64 a1,.slice (some ⟨g,0,none⟩) l2.length co] 75)).cell? ⟨b1,0,none⟩ = some (.int .i64 a0):=(blk_cell hbl 0).trans rfl;have z11:(w5.alloc (.cells #[.int .i64 a0,.int .i64 a1,.slice (some ⟨g,0,none⟩) l2.length co] 75)).cell? ⟨b1,1,none⟩ = some (.int .i64 a1):=(blk_cell hbl 1).trans rfl;have z12:(w5.alloc (.cells #[.int .i64 a0,.int .i64 a1,.slice (some ⟨g,0,none⟩) l2.length co] 75)).cell? ⟨b1,2,none⟩ = some (.slice (some ⟨sb,so,none⟩) l2.length c2):=(blk_cell hbl 2).trans rfl;clear hbl hb hg0 hco hrow hts hcb)
  | (go_at_call 120;obtain ⟨b3,hb3⟩:∃ b3,w5.heap.size = b3:=⟨_,rfl⟩;obtain ⟨W8,hW8⟩:∃ W8,w5.alloc (.cells #[.int .i64 a0,.int .i64 a1,.slice (some ⟨g,0,none⟩) l2.length co] 75) = W8:=⟨_,rfl⟩;have hB58:Below b3 w5 W8:=(by rw [← hW8,← hb3];exact (Below.refl _ w5).alloc (Nat.le_refl _) _);have hB8:Below w.heap.size w W8:=(by rw [← hW8];exact B5.out.alloc B5.out.size _);have hsz:W8.heap.size = b3 + 1:=(by rw [← hW8,← hb3];simp);have x3:W8.heap[b3]? = some (.cells #[.int .i64 a0,.int .i64 a1,.slice (some ⟨g,0,none⟩) l2.length co] 75 (0,0)):=(by rw [← hW8,← hb3];exact World.alloc_heap_new w5 _);rw [hW8];(try simp only [hb3]);have HB58:=am hB58;have HB8:=am hB8;have HSZ:=am hsz;have X3:=am x3;have HW8:=am hb3;clear hB58 hB8 hsz x3 hW8 hb3 z10 z11 z12;refine (HCALL.out W8 HB8.out).mono ?_;rintro e w6 ⟨v,rfl,ho,hb⟩;obtain ⟨Av,cv,hv⟩:=Kd.N_slice ho;rw [List.length_map] at hv;subst hv;have ho':=Kd.N_mono ho (ok':=fun k=>b3 < k) (fun k hk=>by have:=HSZ.out;omega);have HO:=am ho';have B6:=am hb;clear ho ho' hb))
 have hgw:w.heap.size ≤ g:=Nat.le_trans B2.out.size G0.out
 have hg5:g < b3:=by rw [← HW8.out];exact blk_lt HROW.out
 have h1w:w.heap.size ≤ b1:=by rw [G1.out];exact Nat.le_refl _
 have h2w:w.heap.size ≤ b2:=by rw [G2.out];exact B1.out.size
 have h15:b1 < b3:=by rw [← HW8.out];exact blk_lt X1.out
 have h25:b2 < b3:=by rw [← HW8.out];exact blk_lt X2.out
 have h3s:b3 < W8.heap.size:=blk_lt X3.out
 have ROW6:=am ((B6.out.block g o_m).trans ((HB58.out.block g hg5).trans HROW.out))
 have Y3:=am ((B6.out.block b3 h3s).trans X3.out)
 have Y1:=am ((B6.out.block b1 o_m).trans ((HB58.out.block b1 h15).trans X1.out))
 have Y2:=am ((B6.out.block b2 o_m).trans ((HB58.out.block b2 h25).trans X2.out))
 have BW:=am (below_step HB8.out B6.out)
 have gb1:b1 ≠ g:=Ne.symm (blk_ne ROW6.out Y1.out d_c)
 have gb2:b2 ≠ g:=Ne.symm (blk_ne ROW6.out Y2.out d_c)
 have gb3:b3 ≠ g:=by omega
 have GB:=am (And.intro gb1 (And.intro gb2 (And.intro gb3 (And.intro hgw h2w))))
 have rows:∀ j,(hj:j < SN.length) → ∃ bk o A0 c0,Av = some ⟨bk,o,none⟩ ∧ SN[j].length ≤ c0 ∧ ∀ W,KeepBut w6 W g none → W.cell? ⟨bk,o + j,none⟩ = some (.slice A0 SN[j].length c0) ∧ Kd.C (Kd.int .i64) W A0 SN[j].length (castsI SN[j]):=fun j hj=>by
  have hgd:(SN.map castsI).getD j [] = castsI SN[j]:=by
   rw [List.getD_eq_getElem?_getD,List.getElem?_map,List.getElem?_eq_getElem hj];rfl
  have get:∀ W,KeepBut w6 W g none → ∃ bk o A0 c0,Av = some ⟨bk,o,none⟩ ∧ W.cell? ⟨bk,o + j,none⟩ = some (.slice A0 SN[j].length c0) ∧ SN[j].length ≤ c0 ∧ Kd.C (Kd.int .i64) W A0 SN[j].length (castsI SN[j]):=fun W hk=>by
   obtain ⟨A,c,e,_,hC⟩:=Kd.N_reads (Kd.N_keep HO.out hk (fun k h=>by omega))
   injection e with e1 e2 e3
   subst e1
   obtain ⟨bk,o,A0,c0,q1,q2,q3,q4⟩:=row_at hC j (by rw [List.length_map];exact hj)
   rw [hgd,castsI_length] at q2 q3 q4
   exact ⟨bk,o,A0,c0,q1,q2,q3,q4⟩
  have k5:KeepBut w6 w6 g none:=⟨Nat.le_refl _,fun _ _ _ _=>rfl⟩
  obtain ⟨bk,o,A0,c0,q1,q2,q3,q4⟩:=get w6 k5
  refine ⟨bk,o,A0,c0,q1,q3,fun W hk=>?_⟩
  obtain ⟨bk',o',A0',c0',r1,r2,r3,r4⟩:=get W hk
  rw [q1] at r1
  injection r1 with r1
  injection r1 with r1 r1'
  subst r1 r1'
  have hne:bk ≠ g:=by
   have:=HO.out.1 bk (by rw [q1];rfl)
   omega
  have he:W.cell? ⟨bk,o + j,none⟩ = w6.cell? ⟨bk,o + j,none⟩:=World.cell?_of_block (hk.2 bk (World.block_lt_of_cell? w6 _ q2) hne (by simp))
  rw [he,q2] at r2
  injection r2 with r2
  injection r2 with r2 _ r2'
  subst r2 r2'
  exact ⟨by rw [he];exact q2,r4⟩
 have ROWS:=am rows
 have K6:=am (show KeepBut w6 w6 g none from ⟨Nat.le_refl _,fun _ _ _ _=>rfl⟩)
 clear rows gb1 gb2 gb3 hgw hg5 h1w h2w h15 h25 h3s HO HCALL hwalls X1 X2 X3 HROW HB58 HB8 B6 HSZ HW8 G0 G1 G2 B1 B2 B5
 go_wp2
 go_loopw [17] (fun v17 wr=>∃ j:Nat,j ≤ SN.length ∧ v17 = .int .i64 j ∧ Aside0 (wr.heap[g]? = some (.cells ((putAll l2 (wallsL l2) (mvs (ballAt l2) (SN.take j))).map (Value.int .u8) ++ ts).toArray 5 (0,0))) ∧ Aside0 (KeepBut w6 wr g none) ∧ Aside0 (Below w.heap.size w wr)) (fun v17 _=>SN.length - (intOf v17).toNat)
 case atStart=>exact ⟨0,Nat.zero_le _,rfl,ROW6,K6,BW⟩
 case round =>
  obtain ⟨j,hj,rfl,Mr,Kr,Br⟩:=hrel
  by_cases hlt:j < SN.length
  rotate_left
  ·have hge:¬ (j:Int) < (SN.length:Int):=by omega
   have M':=Mr.out
   rw [List.take_of_length_le o_m] at M'
   have Z3:wr.heap[b3]? = _:=(Kr.out.2 b3 (blk_lt Y3.out) GB.out.2.2.1 (by simp)).trans Y3.out
   have Z2:wr.heap[b2]? = _:=(Kr.out.2 b2 (blk_lt Y2.out) GB.out.2.1 (by simp)).trans Y2.out
   have y0:wr.cell? ⟨b3,0,none⟩ = some (.int .i64 a0):=(blk_cell Z3 0).trans rfl
   have y1:wr.cell? ⟨b3,1,none⟩ = some (.int .i64 a1):=(blk_cell Z3 1).trans rfl
   have y2:wr.cell? ⟨b3,2,none⟩ = some (.slice (some ⟨g,0,none⟩) l2.length co):=(blk_cell Z3 2).trans rfl
   have e0:wr.cell? ⟨b2,0,none⟩ = some (.int .i64 0):=(blk_cell Z2 0).trans rfl
   have e1:wr.cell? ⟨b2,1,none⟩ = some (.int .i64 0):=(blk_cell Z2 1).trans rfl
   have e2:wr.cell? ⟨b2,2,none⟩ = some (.slice none 0 0):=(blk_cell Z2 2).trans rfl
   have f0:=blk_frozen Z2 0
   have f1:=blk_frozen Z2 1
   have f2:=blk_frozen Z2 2
   have RR:=am M'
   have ZZ2:=am Z2
   clear M' Z2 Z3
   go_wp2
   refine bodyPost_ret (results_cell_row rfl _ _ b2 75 #[.int .i64 a0,.int .i64 a1,.slice (some ⟨g,0,none⟩) l2.length co] (0,0) _ rfl (by exact blk_put (blk_put (blk_put ZZ2.out 0 (.int .i64 a0) rfl) 1 (.int .i64 a1) rfl) 2 (.slice (some ⟨g,0,none⟩) l2.length co) rfl) Tryz.underlying75 rfl k_r) rfl ?_
   obtain ⟨n1,n2,n3,hgw,h2w⟩:=GB.out
   refine ⟨.slice (some ⟨g,0,none⟩) l2.length co,rfl,?_,((Br.out.setCell (p:=⟨b2,0,none⟩) h2w _).setCell (p:=⟨b2,1,none⟩) h2w _).setCell (p:=⟨b2,2,none⟩) h2w _⟩
   have hrl:(putAll l2 (wallsL l2) (mvs (ballAt l2) SN)).length = l2.length:=by rw [putAll_length];simp [wallsL]
   rw [← hrl]
   refine Kd.R_of_own (enc:=Value.int .u8) (h1:=fun _=>rfl) ?_ (fun _ _=>trivial)
   have n2':g ≠ b2:=Ne.symm n2
   refine ⟨by simp [encs],.inr ⟨g,co,_,rfl,hgw,blk_far (blk_far (blk_far RR.out (p:=⟨b2,0,none⟩) n2' _) (p:=⟨b2,1,none⟩) n2' _) (p:=⟨b2,2,none⟩) n2' _,by rw [hrl];exact HCO.out,HCB.out,?_,?_⟩⟩
   ·have:=HTS.out
    simp [hrl];omega
   ·rw [Nat.mul_one,List.take_append_of_le_length (by simp),List.take_of_length_le (by simp)];rfl
  obtain ⟨bk,o,A0,c0,rfl,hc0,hat⟩:=ROWS.out j hlt
  have hcell:=(hat wr Kr.out).1
  have hltI:(j:Int) < (SN.length:Int):=by omega
  have hstl:=HLEN.out.2 SN[j] (List.getElem_mem hlt)
  have hmv:=mvs_take (b:=ballAt l2) hlt
  have hin:=HSS.out SN[j] (List.getElem_mem hlt)
  generalize hst:SN[j] = st at *
  have HMV:=am hmv
  have HAT:=am hat
  have HIN:=am hin
  have HSTL:=am hstl
  have HJ:=am hlt
  clear hmv hat hin hstl hst hj hlt
  go_wp2
  go_loopw [8,23] (fun v8 v23 wq=>∃ i:Nat,i ≤ st.length ∧ v23 = .int .i64 i ∧ v8 = .int .i64 ((((st.take i).filter (ballAt l2)).length:Nat):Int) ∧ Aside0 (wq.heap[g]? = some (.cells ((putAll l2 (wallsL l2) (mvs (ballAt l2) (SN.take j) ++ partM (ballAt l2) st i)).map (Value.int .u8) ++ ts).toArray 5 (0,0))) ∧ Aside0 (KeepBut w6 wq g none) ∧ Aside0 (Below w.heap.size w wq)) (fun _ v23 _=>st.length - (intOf v23).toNat)
  case atStart=>exact ⟨0,Nat.zero_le _,rfl,rfl,⟨by unfold partM;simp;exact Mr.out⟩,Kr,Br⟩
  case round =>
   obtain ⟨i,hi,rfl,rfl,Mq,Kq,Bq⟩:=hrel
   by_cases hlt2:i < st.length
   rotate_left
   ·have hge:¬ (i:Int) < (st.length:Int):=by omega
    obtain rfl:i = st.length:=by omega
    have M2:Aside0 (wr.heap[g]? = some (.cells ((putAll l2 (wallsL l2) (mvs (ballAt l2) (SN.take (j + 1)))).map (Value.int .u8) ++ ts).toArray 5 (0,0))):=⟨by rw [HMV.out];exact Mq.out⟩
    have hw:IntKind.i64.wrap ((j:Int) + 1) = ((j + 1:Nat):Int):=by rw [IntKind.wrap_i64];have:=HLEN.out.1;have:=HJ.out;omega
    go_wp2
    go_roundw
    case rel=>exact ⟨j + 1,by have:=HJ.out;omega,by first | rfl | simp,M2,Kq,Bq⟩
    case measure=>have:=HJ.out;simp [intOf];omega
   obtain ⟨_,hCq⟩:=HAT.out wr Kq.out
   obtain ⟨bo,oo,hA0,hbo,hcs⟩:=C_place (by rw [← castsI_length st] at hCq;exact hCq) (by rw [castsI_length];omega)
   have x1:wr.cell? ⟨bo,oo + i,none⟩ = some (.int .i64 ((st[i]'hlt2:Nat):Int)):=hcs i _ (castsI_getD st i hlt2)
   have hcnt:=cnt_le (ballAt l2) st i
   have x2:wr.cell? ⟨bo,oo + ((st.take i).filter (ballAt l2)).length,none⟩ = some (.int .i64 ((st.getD ((st.take i).filter (ballAt l2)).length 0:Nat):Int)):=hcs _ _ (by rw [castsI_getD st _ o_m];rw [List.getD_eq_getElem?_getD,List.getElem?_eq_getElem o_m];rfl)
   have hk:=HIN.out _ (List.getElem_mem hlt2)
   have hYES:=partM_yes (b:=ballAt l2) hlt2
   have hNO:=partM_no (b:=ballAt l2) hlt2
   have htf:=take_filter (b:=ballAt l2) hlt2
   have Xr:wr.heap[b1]? = _:=(Kq.out.2 b1 (blk_lt Y1.out) GB.out.1 (by simp)).trans Y1.out
   have Xr3:wr.heap[b3]? = _:=(Kq.out.2 b3 (blk_lt Y3.out) GB.out.2.2.1 (by simp)).trans Y3.out
   have z2:wr.cell? ⟨b1,2,none⟩ = some (.slice (some ⟨sb,so,none⟩) l2.length c2):=(blk_cell Xr 2).trans rfl
   have htq:st.getD ((st.take i).filter (ballAt l2)).length 0 < l2.length:=by
    rw [List.getD_eq_getElem?_getD,List.getElem?_eq_getElem o_m];exact HIN.out _ (List.getElem_mem _)
   generalize hcn:((st.take i).filter (ballAt l2)).length = cnt at *
   generalize hki:st[i]'hlt2 = k at *
   generalize hto:st.getD cnt 0 = tq at *
   have src:wr.cell? ⟨sb,so + k,none⟩ = some (.int .u8 (l2.getD k 0)):=(Bq.out.cell (p:=⟨sb,so + k,none⟩) HSB.out).trans (HSC.out k _ (by rw [getD_at hk];exact List.getElem?_eq_getElem hk))
   have hbb:isBallC (l2.getD k 0) = ballAt l2 k:=rfl
   have hput:=putAll_put l2 (wallsL l2) (mvs (ballAt l2) (SN.take j) ++ partM (ballAt l2) st i) k tq
   have hpl:(putAll l2 (wallsL l2) (mvs (ballAt l2) (SN.take j) ++ partM (ballAt l2) st i)).length = l2.length:=by rw [putAll_length];simp [wallsL]
   have dst:wr.cell? ⟨g,tq,none⟩ = some (.int .u8 ((putAll l2 (wallsL l2) (mvs (ballAt l2) (SN.take j) ++ partM (ballAt l2) st i)).getD tq 0)):=(blk_cell Mq.out tq).trans (cells_get _ ts tq (by rw [hpl];exact htq))
   have hset:=cells_of (n:=0) (putAll l2 (wallsL l2) (mvs (ballAt l2) (SN.take j) ++ partM (ballAt l2) st i)) ts tq (by rw [hpl];exact htq) (l2.getD k 0)
   generalize l2.getD k 0 = c at *
   have hltI2:(i:Int) < (st.length:Int):=by omega
   have hkI:(k:Int) < (l2.length:Int):=by omega
   have hcI:(cnt:Int) < (st.length:Int):=by omega
   have htI:(tq:Int) < (l2.length:Int):=by omega
   subst hA0
   have hw1:IntKind.i64.wrap ((i:Int) + 1) = ((i + 1:Nat):Int):=by rw [IntKind.wrap_i64];have:=HSTL.out;omega
   have hw2:IntKind.i64.wrap ((cnt:Int) + 1) = ((cnt + 1:Nat):Int):=by rw [IntKind.wrap_i64];have:=HSTL.out;omega
   have HII:=am (And.intro hi hlt2)
   have HTF:=am htf
   have HYES:=am hYES
   have HNO:=am hNO
   have HBB:=am hbb
   have HBO:=am hbo
   have HCN:=am hcn
   have HPUT:=am hput
   have HSET:=am hset
   have DST:=am dst
   have XR3:=am Xr3
   have XR1:=am Xr
   have ZS:=am (And.intro x2 src)
   clear hi hlt2 htf hYES hNO hcs hCq hcnt hk hcn hki hto Xr Xr3 hbo hput hset dst hpl htq
   cases hbt:ballAt l2 k with
   | true =>
    rw [hbt] at hbb
    go_wp2_with (first
     | (go_at_call 116;refine (hball c _).mono ?_;rw [hbb];rintro e w9 ⟨rfl,hh,hb9⟩;have HH:=am hh;have B9:=am (below_step Bq.out hb9);clear hh hb9 x1 x2 z2 src))
    have cellH:∀ p:Addr,w9.cell? p = wr.cell? p:=fun p=>World.cell?_of_block (congrArg (fun h=>h[p.block]?) HH.out)
    have y2:w9.cell? ⟨bo,oo + cnt,none⟩ = some (.int .i64 ((tq:Nat):Int)):=(cellH _).trans ZS.out.1
    have src:w9.cell? ⟨sb,so + k,none⟩ = some (.int .u8 c):=(cellH _).trans ZS.out.2
    have z2:w9.cell? ⟨b1,2,none⟩ = some (.slice (some ⟨sb,so,none⟩) l2.length c2):=(cellH _).trans ((blk_cell XR1.out 2).trans rfl)
    have z3:w9.cell? ⟨b3,2,none⟩ = some (.slice (some ⟨g,0,none⟩) l2.length co):=(cellH _).trans ((blk_cell XR3.out 2).trans rfl)
    have dst:w9.cell? ⟨g,tq,none⟩ = some _:=(cellH _).trans DST.out
    have ROW9:w9.heap[g]? = _:=(congrArg (fun h=>h[g]?) HH.out).trans Mq.out
    have hf:=blk_frozen ROW9 tq
    have HROW9:=am ROW9
    have HK9:=am (show KeepBut w6 w9 g none from ⟨by rw [HH.out];exact Kq.out.1,fun q h1 h2 h3=>(congrArg (fun h=>h[q]?) HH.out).trans (Kq.out.2 q h1 h2 h3)⟩)
    clear cellH ROW9
    go_wp2
    go_still_tail 12,k_r
    change wpList _ _ _ _ _ w9.drew
    have dst':w9.drew.cell? ⟨g,tq,none⟩ = some _:=dst
    have hf':w9.drew.frozen? ⟨g,tq,none⟩ = false:=hf
    have DROW:Aside0 (w9.drew.heap[g]? = _):=HROW9
    have DK:Aside0 (KeepBut w6 w9.drew g none):=⟨⟨HK9.out.1,fun q h1 h2 h3=>HK9.out.2 q h1 h2 h3⟩⟩
    have DB:Aside0 (Below w.heap.size w w9.drew):=⟨below_drew1 B9.out⟩
    clear dst hf HROW9 HK9 B9 y2 z2 z3 src HH
    generalize w9.drew = w2 at dst' hf' DROW DK DB ⊢
    go_wp2
    go_roundw
    case rel=>exact ⟨i + 1,by have:=HII.out;omega,by first | rfl | simp,by rw [HTF.out,if_pos hbt,List.length_append,HCN.out];first | rfl | simp,⟨by rw [HYES.out hbt,← List.append_assoc,HPUT.out,← HSET.out];exact blk_put DROW.out tq _ rfl⟩,⟨KeepBut.set_ DK.out tq _⟩,⟨DB.out.setCell (p:=⟨g,tq,none⟩) GB.out.2.2.2.1 _⟩⟩
    case measure=>have:=HII.out;simp [intOf];omega
   | false =>
    rw [hbt] at hbb
    go_wp2_with (first
     | (go_at_call 116;refine (hball c _).mono ?_;rw [hbb];rintro e w9 ⟨rfl,hh,hb9⟩;have HH:=am hh;have B9:=am (below_step Bq.out hb9);clear hh hb9 x1 x2 z2 src))
    go_roundw
    case rel=>exact ⟨i + 1,by have:=HII.out;omega,by first | rfl | simp,by rw [HTF.out,if_neg (by rw [hbt];exact Bool.false_ne_true),HCN.out],⟨by rw [HNO.out hbt];exact (congrArg (fun h=>h[g]?) HH.out).trans Mq.out⟩,⟨by rw [HH.out];exact Kq.out.1,fun q h1 h2 h3=>(congrArg (fun h=>h[q]?) HH.out).trans (Kq.out.2 q h1 h2 h3)⟩,B9⟩
    case measure=>have:=HII.out;simp [intOf];omega
end Go.Proofs.YtldhkbiomingbaaGreatDoor

namespace Go.Proofs.YtldhkbiomingbaaGreatDoor.F
open Go.Proofs.YtldhkbiomingbaaGreatDoor
open Go.RowKit Go.YW.PrintWords Go.YW.PrintLast Go.YW.PrintMore
attribute [local go_sem] max2_int min2_int max_two min_two max_three min_three max_four min_four
def spec_tyCell.f (a0_0:Int) (a0_1:Int) (l0_2:List Int) (a1:Int) (a2:Int):Option (Bool):=(spec_l1In.f a1 0 (wrap64 (a0_0 - 1))).bind fun t102=>(if t102 = true then ((spec_l1In.f a2 0 (wrap64 (a0_1 - 1))).bind fun t103=>(some t103)) else (some false))
theorem spec_tyCell.calls (a0_0:Int) (a0_1:Int) (A0_2:Option Addr) (c0_2:Nat) (l0_2:List Int) (a1:Int) (a2:Int) (r:Bool) (w:World) (hr0_2:Kd.C (Kd.int .u8) w A0_2 l0_2.length l0_2) (hc0_2:l0_2.length ≤ c0_2) (h:spec_tyCell.f a0_0 a0_1 l0_2 a1 a2 = some r) :
  Calls Tryz.prog 192 #[.agg #[.int .i64 a0_0,.int .i64 a0_1,.slice A0_2 l0_2.length c0_2],.int .i64 a1,.int .i64 a2] w fun e w'=>e = .returned (.bool r) ∧ Below w.heap.size w w':=by
 have hu75:=Tryz.underlying75
 have HR0_2:=am hr0_2
 have HC0_2:=am hc0_2
 clear hr0_2 hc0_2
 have HB:=am (Below.refl w.heap.size w)
 have H:((spec_l1In.f a1 0 (wrap64 (a0_0 - 1))).bind fun t102=>(if t102 = true then ((spec_l1In.f a2 0 (wrap64 (a0_1 - 1))).bind fun t103=>(some t103)) else (some false))) = some r:=h
 clear h
 obtain ⟨t102,A4,H⟩:=bn H
 by_cases c5:t102 = true
 rotate_left
 ·replace c5:=Bool.eq_false_iff.mpr c5
  subst c5
  rw [if_neg Bool.false_ne_true] at H
  obtain rfl:=Option.some.inj H
  go_enter Tryz.func192,Tryz.ntmps192
  go_wp2_with (first | (refine bx 3 #[.int .i64 a0_0,.int .i64 a0_1,.slice A0_2 l0_2.length c0_2] 75 ?_;intro gb101 hg w9 hbox hb;have BK101:=am (hbox);have GW101:=am ((by rw [hg];exact (below_size aq1):w.heap.size ≤ gb101));have GE101:=GW101;replace HB:=am (below_step aq1 hb);clear hb hbox hg;obtain ⟨hcz10_0,hcz10_1,hcz10_2,hfz10_0,hfz10_1,hfz10_2⟩:=blk3_ BK101.out) | ((with_reducible refine gate_callee (f:=68) rfl ?_);refine goesL_ (some 11) rfl rfl Tryz.func68 k_r rfl #[.int .i64 a1,.int .i64 0,.int .i64 (wrap64 (a0_0 - 1))] rfl aq8 ?_;(with_reducible refine (spec_l1In.calls a1 0 (wrap64 (a0_0 - 1)) false _ A4.out).mono ?_);rintro e w' ⟨rfl,⟨nd,rfl⟩⟩;refine ⟨_,rfl,?_⟩))
  go_ret
  exact ⟨aq9,aq0⟩
 subst c5
 rw [if_pos rfl] at H
 obtain ⟨t103,A6,H⟩:=bn H
 obtain rfl:=Option.some.inj H
 go_enter Tryz.func192,Tryz.ntmps192
 go_wp2_with (first | (refine bx 3 #[.int .i64 a0_0,.int .i64 a0_1,.slice A0_2 l0_2.length c0_2] 75 ?_;intro gb101 hg w7 hbox hb;have BK101:=am (hbox);have GW101:=am ((by rw [hg];exact (below_size aq1):w.heap.size ≤ gb101));have GE101:=GW101;replace HB:=am (below_step aq1 hb);clear hb hbox hg;obtain ⟨hcz8_0,hcz8_1,hcz8_2,hfz8_0,hfz8_1,hfz8_2⟩:=blk3_ BK101.out) | ((with_reducible refine gate_callee (f:=68) rfl ?_);refine goesL_ (some 11) rfl rfl Tryz.func68 k_r rfl #[.int .i64 a1,.int .i64 0,.int .i64 (wrap64 (a0_0 - 1))] rfl aq8 ?_;(with_reducible refine (spec_l1In.calls a1 0 (wrap64 (a0_0 - 1)) true _ A4.out).mono ?_);rintro e w' ⟨rfl,⟨nd,rfl⟩⟩;refine ⟨_,rfl,?_⟩) | (go_at_call 68;(with_reducible refine (spec_l1In.calls a2 0 (wrap64 (a0_1 - 1)) t103 _ A6.out).mono ?_);rintro e w' ⟨rfl,⟨nd,rfl⟩⟩))
 go_ret
 exact ⟨aq9,aq0⟩
def spec_tiAhead.f (a0_0:Int) (a0_1:Int) (l0_2:List Int) (a1:Int) (a2:Int):Option (Int):=if a0_0 = 0 then (none) else (if a2 = 0 then ((spec_tyCell.f a0_0 a0_1 l0_2 (Int.tmod a1 a0_0) (wrap64 ((wrap64 (Int.tdiv a1 a0_0)) - 1))).bind fun t102=>(if t102 = true then (if 0 ≤ (wrap64 ((wrap64 ((wrap64 ((wrap64 (Int.tdiv a1 a0_0)) - 1)) * a0_0)) + (Int.tmod a1 a0_0))) then (if (wrap64 ((wrap64 ((wrap64 ((wrap64 (Int.tdiv a1 a0_0)) - 1)) * a0_0)) + (Int.tmod a1 a0_0))) < (l0_2.length:Int) then (if (rd l0_2 (wrap64 ((wrap64 ((wrap64 ((wrap64 (Int.tdiv a1 a0_0)) - 1)) * a0_0)) + (Int.tmod a1 a0_0)))) = 35 then (some (-1)) else (some (wrap64 ((wrap64 ((wrap64 ((wrap64 (Int.tdiv a1 a0_0)) - 1)) * a0_0)) + (Int.tmod a1 a0_0))))) else (none)) else (none)) else (some (-1)))) else (if a2 = 1 then ((spec_tyCell.f a0_0 a0_1 l0_2 (wrap64 ((Int.tmod a1 a0_0) + 1)) (wrap64 (Int.tdiv a1 a0_0))).bind fun t104=>(if t104 = true then (if 0 ≤ (wrap64 ((wrap64 ((wrap64 (Int.tdiv a1 a0_0)) * a0_0)) + (wrap64 ((Int.tmod a1 a0_0) + 1)))) then (if (wrap64 ((wrap64 ((wrap64 (Int.tdiv a1 a0_0)) * a0_0)) + (wrap64 ((Int.tmod a1 a0_0) + 1)))) < (l0_2.length:Int) then (if (rd l0_2 (wrap64 ((wrap64 ((wrap64 (Int.tdiv a1 a0_0)) * a0_0)) + (wrap64 ((Int.tmod a1 a0_0) + 1))))) = 35 then (some (-1)) else (some (wrap64 ((wrap64 ((wrap64 (Int.tdiv a1 a0_0)) * a0_0)) + (wrap64 ((Int.tmod a1 a0_0) + 1)))))) else (none)) else (none)) else (some (-1)))) else (if a2 = 2 then ((spec_tyCell.f a0_0 a0_1 l0_2 (Int.tmod a1 a0_0) (wrap64 ((wrap64 (Int.tdiv a1 a0_0)) + 1))).bind fun t106=>(if t106 = true then (if 0 ≤ (wrap64 ((wrap64 ((wrap64 ((wrap64 (Int.tdiv a1 a0_0)) + 1)) * a0_0)) + (Int.tmod a1 a0_0))) then (if (wrap64 ((wrap64 ((wrap64 ((wrap64 (Int.tdiv a1 a0_0)) + 1)) * a0_0)) + (Int.tmod a1 a0_0))) < (l0_2.length:Int) then (if (rd l0_2 (wrap64 ((wrap64 ((wrap64 ((wrap64 (Int.tdiv a1 a0_0)) + 1)) * a0_0)) + (Int.tmod a1 a0_0)))) = 35 then (some (-1)) else (some (wrap64 ((wrap64 ((wrap64 ((wrap64 (Int.tdiv a1 a0_0)) + 1)) * a0_0)) + (Int.tmod a1 a0_0))))) else (none)) else (none)) else (some (-1)))) else ((spec_tyCell.f a0_0 a0_1 l0_2 (wrap64 ((Int.tmod a1 a0_0) - 1)) (wrap64 (Int.tdiv a1 a0_0))).bind fun t108=>(if t108 = true then (if 0 ≤ (wrap64 ((wrap64 ((wrap64 (Int.tdiv a1 a0_0)) * a0_0)) + (wrap64 ((Int.tmod a1 a0_0) - 1)))) then (if (wrap64 ((wrap64 ((wrap64 (Int.tdiv a1 a0_0)) * a0_0)) + (wrap64 ((Int.tmod a1 a0_0) - 1)))) < (l0_2.length:Int) then (if (rd l0_2 (wrap64 ((wrap64 ((wrap64 (Int.tdiv a1 a0_0)) * a0_0)) + (wrap64 ((Int.tmod a1 a0_0) - 1))))) = 35 then (some (-1)) else (some (wrap64 ((wrap64 ((wrap64 (Int.tdiv a1 a0_0)) * a0_0)) + (wrap64 ((Int.tmod a1 a0_0) - 1)))))) else (none)) else (none)) else (some (-1)))))))
theorem spec_tiAhead.calls (a0_0:Int) (a0_1:Int) (A0_2:Option Addr) (c0_2:Nat) (l0_2:List Int) (a1:Int) (a2:Int) (r:Int) (w:World) (hr0_2:Kd.C (Kd.int .u8) w A0_2 l0_2.length l0_2) (hc0_2:l0_2.length ≤ c0_2) (h:spec_tiAhead.f a0_0 a0_1 l0_2 a1 a2 = some r) :
  Calls Tryz.prog 160 #[.agg #[.int .i64 a0_0,.int .i64 a0_1,.slice A0_2 l0_2.length c0_2],.int .i64 a1,.int .i64 a2] w fun e w'=>e = .returned (.int .i64 r) ∧ Below w.heap.size w w':=by
 have hu75:=Tryz.underlying75
 have HR0_2:=am hr0_2
 have HC0_2:=am hc0_2
 clear hr0_2 hc0_2
 have HB:=am (Below.refl w.heap.size w)
 have H:(if a0_0 = 0 then (none) else (if a2 = 0 then ((spec_tyCell.f a0_0 a0_1 l0_2 (Int.tmod a1 a0_0) (wrap64 ((wrap64 (Int.tdiv a1 a0_0)) - 1))).bind fun t102=>(if t102 = true then (if 0 ≤ (wrap64 ((wrap64 ((wrap64 ((wrap64 (Int.tdiv a1 a0_0)) - 1)) * a0_0)) + (Int.tmod a1 a0_0))) then (if (wrap64 ((wrap64 ((wrap64 ((wrap64 (Int.tdiv a1 a0_0)) - 1)) * a0_0)) + (Int.tmod a1 a0_0))) < (l0_2.length:Int) then (if (rd l0_2 (wrap64 ((wrap64 ((wrap64 ((wrap64 (Int.tdiv a1 a0_0)) - 1)) * a0_0)) + (Int.tmod a1 a0_0)))) = 35 then (some (-1)) else (some (wrap64 ((wrap64 ((wrap64 ((wrap64 (Int.tdiv a1 a0_0)) - 1)) * a0_0)) + (Int.tmod a1 a0_0))))) else (none)) else (none)) else (some (-1)))) else (if a2 = 1 then ((spec_tyCell.f a0_0 a0_1 l0_2 (wrap64 ((Int.tmod a1 a0_0) + 1)) (wrap64 (Int.tdiv a1 a0_0))).bind fun t104=>(if t104 = true then (if 0 ≤ (wrap64 ((wrap64 ((wrap64 (Int.tdiv a1 a0_0)) * a0_0)) + (wrap64 ((Int.tmod a1 a0_0) + 1)))) then (if (wrap64 ((wrap64 ((wrap64 (Int.tdiv a1 a0_0)) * a0_0)) + (wrap64 ((Int.tmod a1 a0_0) + 1)))) < (l0_2.length:Int) then (if (rd l0_2 (wrap64 ((wrap64 ((wrap64 (Int.tdiv a1 a0_0)) * a0_0)) + (wrap64 ((Int.tmod a1 a0_0) + 1))))) = 35 then (some (-1)) else (some (wrap64 ((wrap64 ((wrap64 (Int.tdiv a1 a0_0)) * a0_0)) + (wrap64 ((Int.tmod a1 a0_0) + 1)))))) else (none)) else (none)) else (some (-1)))) else (if a2 = 2 then ((spec_tyCell.f a0_0 a0_1 l0_2 (Int.tmod a1 a0_0) (wrap64 ((wrap64 (Int.tdiv a1 a0_0)) + 1))).bind fun t106=>(if t106 = true then (if 0 ≤ (wrap64 ((wrap64 ((wrap64 ((wrap64 (Int.tdiv a1 a0_0)) + 1)) * a0_0)) + (Int.tmod a1 a0_0))) then (if (wrap64 ((wrap64 ((wrap64 ((wrap64 (Int.tdiv a1 a0_0)) + 1)) * a0_0)) + (Int.tmod a1 a0_0))) < (l0_2.length:Int) then (if (rd l0_2 (wrap64 ((wrap64 ((wrap64 ((wrap64 (Int.tdiv a1 a0_0)) + 1)) * a0_0)) + (Int.tmod a1 a0_0)))) = 35 then (some (-1)) else (some (wrap64 ((wrap64 ((wrap64 ((wrap64 (Int.tdiv a1 a0_0)) + 1)) * a0_0)) + (Int.tmod a1 a0_0))))) else (none)) else (none)) else (some (-1)))) else ((spec_tyCell.f a0_0 a0_1 l0_2 (wrap64 ((Int.tmod a1 a0_0) - 1)) (wrap64 (Int.tdiv a1 a0_0))).bind fun t108=>(if t108 = true then (if 0 ≤ (wrap64 ((wrap64 ((wrap64 (Int.tdiv a1 a0_0)) * a0_0)) + (wrap64 ((Int.tmod a1 a0_0) - 1)))) then (if (wrap64 ((wrap64 ((wrap64 (Int.tdiv a1 a0_0)) * a0_0)) + (wrap64 ((Int.tmod a1 a0_0) - 1)))) < (l0_2.length:Int) then (if (rd l0_2 (wrap64 ((wrap64 ((wrap64 (Int.tdiv a1 a0_0)) * a0_0)) + (wrap64 ((Int.tmod a1 a0_0) - 1))))) = 35 then (some (-1)) else (some (wrap64 ((wrap64 ((wrap64 (Int.tdiv a1 a0_0)) * a0_0)) + (wrap64 ((Int.tmod a1 a0_0) - 1)))))) else (none)) else (none)) else (some (-1)))))))) = some r:=h
 clear h
 by_cases c4:a0_0 = 0
 ·rw [if_pos c4] at H
  exact absurd H (by simp)
 rw [if_neg c4] at H
 have c4b0:=beq_eq_false_iff_ne.mpr c4
 have c4b1:=bne_iff_ne.mpr c4
 by_cases c5:a2 = 0
 ·rw [if_pos c5] at H
  have c5b0:=beq_iff_eq.mpr c5
  have c5b1:=bne_eq_false_iff_eq.mpr c5
  clear c5
  obtain ⟨t102,A6,H⟩:=bn H
  by_cases c7:t102 = true
  rotate_left
  ·replace c7:=Bool.eq_false_iff.mpr c7
   subst c7
   rw [if_neg Bool.false_ne_true] at H
   obtain rfl:=Option.some.inj H
   go_enter Tryz.func160,Tryz.ntmps160
   go_wp2_with (first | (refine bx 3 #[.int .i64 a0_0,.int .i64 a0_1,.slice A0_2 l0_2.length c0_2] 75 ?_;intro gb101 hg w20 hbox hb;have BK101:=am (hbox);have GW101:=am ((by rw [hg];exact (below_size aq1):w.heap.size ≤ gb101));have GE101:=GW101;replace HB:=am (below_step aq1 hb);clear hb hbox hg;obtain ⟨hcz21_0,hcz21_1,hcz21_2,hfz21_0,hfz21_1,hfz21_2⟩:=blk3_ BK101.out))
   repeat (go_quiet (fail);try go_wp2_with (first | (go_at_call 192;(with_reducible refine (spec_tyCell.calls a0_0 a0_1 _ _ l0_2 (Int.tmod a1 a0_0) (wrap64 ((wrap64 (Int.tdiv a1 a0_0)) - 1)) false _ ?side1 ?side2 A6.out).mono ?_);(case side1=>exact aq7);(case side2=>exact HC0_2.out);rintro e w22 ⟨rfl,hb⟩;replace BK101:=am (bb BK101 hb);replace HB:=am (below_step aq0 hb);(try clear hb))))
   go_ret
   exact ⟨aq9,aq0⟩
  subst c7
  rw [if_pos rfl] at H
  obtain ⟨ji8,hji8⟩:∃ j_:Int,(wrap64 ((wrap64 ((wrap64 ((wrap64 (Int.tdiv a1 a0_0)) - 1)) * a0_0)) + (Int.tmod a1 a0_0))) = j_:=⟨_,rfl⟩
  first | rw [hji8] at H | simp only [hji8] at H
  (try rw [hji8] at A6)
  have hji8w:(IntKind.i64.wrap ((wrap64 ((wrap64 ((wrap64 (Int.tdiv a1 a0_0)) - 1)) * a0_0)) + (Int.tmod a1 a0_0))) = ji8:=(i64_w _).trans hji8
  replace H:=gd H
  obtain ⟨c9,H⟩:=H
  have c9b0:=decide_eq_true c9
  clear c9
  replace H:=gd H
  obtain ⟨c10,H⟩:=H
  have c10b0:=decide_eq_true c10
  clear c10
  by_cases c11:(rd l0_2 (ji8)) = 35
  rotate_left
  ·rw [if_neg c11] at H
   have c11b0:=beq_eq_false_iff_ne.mpr c11
   have c11b1:=bne_iff_ne.mpr c11
   obtain rfl:=Option.some.inj H
   go_enter Tryz.func160,Tryz.ntmps160
   go_wp2_with (first | (refine bx 3 #[.int .i64 a0_0,.int .i64 a0_1,.slice A0_2 l0_2.length c0_2] 75 ?_;intro gb101 hg w16 hbox hb;have BK101:=am (hbox);have GW101:=am ((by rw [hg];exact (below_size aq1):w.heap.size ≤ gb101));have GE101:=GW101;replace HB:=am (below_step aq1 hb);clear hb hbox hg;obtain ⟨hcz17_0,hcz17_1,hcz17_2,hfz17_0,hfz17_1,hfz17_2⟩:=blk3_ BK101.out))
   repeat (go_quiet (fail);try go_wp2_with (first | (go_at_call 192;(with_reducible refine (spec_tyCell.calls a0_0 a0_1 _ _ l0_2 (Int.tmod a1 a0_0) (wrap64 ((wrap64 (Int.tdiv a1 a0_0)) - 1)) true _ ?side1 ?side2 A6.out).mono ?_);(case side1=>exact aq7);(case side2=>exact HC0_2.out);rintro e w18 ⟨rfl,hb⟩;replace BK101:=am (bb BK101 hb);replace HB:=am (below_step aq0 hb);(try clear hb);obtain ⟨hcz19_0,hcz19_1,hcz19_2,hfz19_0,hfz19_1,hfz19_2⟩:=blk3_ BK101.out;have p103:0 ≤ ((ji8):Int):=of_decide_eq_true aq4;have q103:(ji8) < (l0_2.length:Int):=of_decide_eq_true aq4;obtain ⟨ad103,e103,hx103_0⟩:=Kd.at_int HR0_2.out (ji8) p103 q103;cases e103;replace hx103_0:=(HB.out.cell (World.block_lt_of_cell? w _ hx103_0)).trans hx103_0;replace p103:=eq_true p103;replace q103:=eq_true q103)))
   go_ret
   exact ⟨aq65,aq0⟩
  rw [if_pos c11] at H
  have c11b0:=beq_iff_eq.mpr c11
  have c11b1:=bne_eq_false_iff_eq.mpr c11
  clear c11
  obtain rfl:=Option.some.inj H
  go_enter Tryz.func160,Tryz.ntmps160
  go_wp2_with (first | (refine bx 3 #[.int .i64 a0_0,.int .i64 a0_1,.slice A0_2 l0_2.length c0_2] 75 ?_;intro gb101 hg w12 hbox hb;have BK101:=am (hbox);have GW101:=am ((by rw [hg];exact (below_size aq1):w.heap.size ≤ gb101));have GE101:=GW101;replace HB:=am (below_step aq1 hb);clear hb hbox hg;obtain ⟨hcz13_0,hcz13_1,hcz13_2,hfz13_0,hfz13_1,hfz13_2⟩:=blk3_ BK101.out))
  repeat (go_quiet (fail);try go_wp2_with (first | (go_at_call 192;(with_reducible refine (spec_tyCell.calls a0_0 a0_1 _ _ l0_2 (Int.tmod a1 a0_0) (wrap64 ((wrap64 (Int.tdiv a1 a0_0)) - 1)) true _ ?side1 ?side2 A6.out).mono ?_);(case side1=>exact aq7);(case side2=>exact HC0_2.out);rintro e w14 ⟨rfl,hb⟩;replace BK101:=am (bb BK101 hb);replace HB:=am (below_step aq0 hb);(try clear hb);obtain ⟨hcz15_0,hcz15_1,hcz15_2,hfz15_0,hfz15_1,hfz15_2⟩:=blk3_ BK101.out;have p103:0 ≤ ((ji8):Int):=of_decide_eq_true aq4;have q103:(ji8) < (l0_2.length:Int):=of_decide_eq_true aq4;obtain ⟨ad103,e103,hx103_0⟩:=Kd.at_int HR0_2.out (ji8) p103 q103;cases e103;replace hx103_0:=(HB.out.cell (World.block_lt_of_cell? w _ hx103_0)).trans hx103_0;replace p103:=eq_true p103;replace q103:=eq_true q103)))
  go_ret
  exact ⟨aq65,aq0⟩
 rw [if_neg c5] at H
 have c5b0:=beq_eq_false_iff_ne.mpr c5
 have c5b1:=bne_iff_ne.mpr c5
 by_cases c23:a2 = 1
 ·rw [if_pos c23] at H
  have c23b0:=beq_iff_eq.mpr c23
  have c23b1:=bne_eq_false_iff_eq.mpr c23
  clear c23
  obtain ⟨t104,A24,H⟩:=bn H
  by_cases c25:t104 = true
  rotate_left
  ·replace c25:=Bool.eq_false_iff.mpr c25
   subst c25
   rw [if_neg Bool.false_ne_true] at H
   obtain rfl:=Option.some.inj H
   go_enter Tryz.func160,Tryz.ntmps160
   go_wp2_with (first | (refine bx 3 #[.int .i64 a0_0,.int .i64 a0_1,.slice A0_2 l0_2.length c0_2] 75 ?_;intro gb101 hg w38 hbox hb;have BK101:=am (hbox);have GW101:=am ((by rw [hg];exact (below_size aq1):w.heap.size ≤ gb101));have GE101:=GW101;replace HB:=am (below_step aq1 hb);clear hb hbox hg;obtain ⟨hcz39_0,hcz39_1,hcz39_2,hfz39_0,hfz39_1,hfz39_2⟩:=blk3_ BK101.out))
   repeat (go_quiet (fail);try go_wp2_with (first | (go_at_call 192;(with_reducible refine (spec_tyCell.calls a0_0 a0_1 _ _ l0_2 (wrap64 ((Int.tmod a1 a0_0) + 1)) (wrap64 (Int.tdiv a1 a0_0)) false _ ?side1 ?side2 A24.out).mono ?_);(case side1=>exact aq7);(case side2=>exact HC0_2.out);rintro e w40 ⟨rfl,hb⟩;replace BK101:=am (bb BK101 hb);replace HB:=am (below_step aq0 hb);(try clear hb))))
   go_ret
   exact ⟨aq9,aq0⟩
  subst c25
  rw [if_pos rfl] at H
  obtain ⟨ji26,hji26⟩:∃ j_:Int,(wrap64 ((wrap64 ((wrap64 (Int.tdiv a1 a0_0)) * a0_0)) + (wrap64 ((Int.tmod a1 a0_0) + 1)))) = j_:=⟨_,rfl⟩
  first | rw [hji26] at H | simp only [hji26] at H
  (try rw [hji26] at A24)
  have hji26w:(IntKind.i64.wrap ((wrap64 ((wrap64 (Int.tdiv a1 a0_0)) * a0_0)) + (wrap64 ((Int.tmod a1 a0_0) + 1)))) = ji26:=(i64_w _).trans hji26
  replace H:=gd H
  obtain ⟨c27,H⟩:=H
  have c27b0:=decide_eq_true c27
  clear c27
  replace H:=gd H
  obtain ⟨c28,H⟩:=H
  have c28b0:=decide_eq_true c28
  clear c28
  by_cases c29:(rd l0_2 (ji26)) = 35
  rotate_left
  ·rw [if_neg c29] at H
   have c29b0:=beq_eq_false_iff_ne.mpr c29
   have c29b1:=bne_iff_ne.mpr c29
   obtain rfl:=Option.some.inj H
   go_enter Tryz.func160,Tryz.ntmps160
   go_wp2_with (first | (refine bx 3 #[.int .i64 a0_0,.int .i64 a0_1,.slice A0_2 l0_2.length c0_2] 75 ?_;intro gb101 hg w34 hbox hb;have BK101:=am (hbox);have GW101:=am ((by rw [hg];exact (below_size aq1):w.heap.size ≤ gb101));have GE101:=GW101;replace HB:=am (below_step aq1 hb);clear hb hbox hg;obtain ⟨hcz35_0,hcz35_1,hcz35_2,hfz35_0,hfz35_1,hfz35_2⟩:=blk3_ BK101.out))
   repeat (go_quiet (fail);try go_wp2_with (first | (go_at_call 192;(with_reducible refine (spec_tyCell.calls a0_0 a0_1 _ _ l0_2 (wrap64 ((Int.tmod a1 a0_0) + 1)) (wrap64 (Int.tdiv a1 a0_0)) true _ ?side1 ?side2 A24.out).mono ?_);(case side1=>exact aq7);(case side2=>exact HC0_2.out);rintro e w36 ⟨rfl,hb⟩;replace BK101:=am (bb BK101 hb);replace HB:=am (below_step aq0 hb);(try clear hb);obtain ⟨hcz37_0,hcz37_1,hcz37_2,hfz37_0,hfz37_1,hfz37_2⟩:=blk3_ BK101.out;have p105:0 ≤ ((ji26):Int):=of_decide_eq_true aq4;have q105:(ji26) < (l0_2.length:Int):=of_decide_eq_true aq4;obtain ⟨ad105,e105,hx105_0⟩:=Kd.at_int HR0_2.out (ji26) p105 q105;cases e105;replace hx105_0:=(HB.out.cell (World.block_lt_of_cell? w _ hx105_0)).trans hx105_0;replace p105:=eq_true p105;replace q105:=eq_true q105)))
   go_ret
   exact ⟨aq64,aq0⟩
  rw [if_pos c29] at H
  have c29b0:=beq_iff_eq.mpr c29
  have c29b1:=bne_eq_false_iff_eq.mpr c29
  clear c29
  obtain rfl:=Option.some.inj H
  go_enter Tryz.func160,Tryz.ntmps160
  go_wp2_with (first | (refine bx 3 #[.int .i64 a0_0,.int .i64 a0_1,.slice A0_2 l0_2.length c0_2] 75 ?_;intro gb101 hg w30 hbox hb;have BK101:=am (hbox);have GW101:=am ((by rw [hg];exact (below_size aq1):w.heap.size ≤ gb101));have GE101:=GW101;replace HB:=am (below_step aq1 hb);clear hb hbox hg;obtain ⟨hcz31_0,hcz31_1,hcz31_2,hfz31_0,hfz31_1,hfz31_2⟩:=blk3_ BK101.out))
  repeat (go_quiet (fail);try go_wp2_with (first | (go_at_call 192;(with_reducible refine (spec_tyCell.calls a0_0 a0_1 _ _ l0_2 (wrap64 ((Int.tmod a1 a0_0) + 1)) (wrap64 (Int.tdiv a1 a0_0)) true _ ?side1 ?side2 A24.out).mono ?_);(case side1=>exact aq7);(case side2=>exact HC0_2.out);rintro e w32 ⟨rfl,hb⟩;replace BK101:=am (bb BK101 hb);replace HB:=am (below_step aq0 hb);(try clear hb);obtain ⟨hcz33_0,hcz33_1,hcz33_2,hfz33_0,hfz33_1,hfz33_2⟩:=blk3_ BK101.out;have p105:0 ≤ ((ji26):Int):=of_decide_eq_true aq4;have q105:(ji26) < (l0_2.length:Int):=of_decide_eq_true aq4;obtain ⟨ad105,e105,hx105_0⟩:=Kd.at_int HR0_2.out (ji26) p105 q105;cases e105;replace hx105_0:=(HB.out.cell (World.block_lt_of_cell? w _ hx105_0)).trans hx105_0;replace p105:=eq_true p105;replace q105:=eq_true q105)))
  go_ret
  exact ⟨aq64,aq0⟩
 rw [if_neg c23] at H
 have c23b0:=beq_eq_false_iff_ne.mpr c23
 have c23b1:=bne_iff_ne.mpr c23
 by_cases c41:a2 = 2
 rotate_left
 ·rw [if_neg c41] at H
  have c41b0:=beq_eq_false_iff_ne.mpr c41
  have c41b1:=bne_iff_ne.mpr c41
  obtain ⟨t108,A59,H⟩:=bn H
  by_cases c60:t108 = true
  rotate_left
  ·replace c60:=Bool.eq_false_iff.mpr c60
   subst c60
   rw [if_neg Bool.false_ne_true] at H
   obtain rfl:=Option.some.inj H
   go_enter Tryz.func160,Tryz.ntmps160
   go_wp2_with (first | (refine bx 3 #[.int .i64 a0_0,.int .i64 a0_1,.slice A0_2 l0_2.length c0_2] 75 ?_;intro gb101 hg w73 hbox hb;have BK101:=am (hbox);have GW101:=am ((by rw [hg];exact (below_size aq1):w.heap.size ≤ gb101));have GE101:=GW101;replace HB:=am (below_step aq1 hb);clear hb hbox hg;obtain ⟨hcz74_0,hcz74_1,hcz74_2,hfz74_0,hfz74_1,hfz74_2⟩:=blk3_ BK101.out))
   repeat (go_quiet (fail);try go_wp2_with (first | (go_at_call 192;(with_reducible refine (spec_tyCell.calls a0_0 a0_1 _ _ l0_2 (wrap64 ((Int.tmod a1 a0_0) - 1)) (wrap64 (Int.tdiv a1 a0_0)) false _ ?side1 ?side2 A59.out).mono ?_);(case side1=>exact aq7);(case side2=>exact HC0_2.out);rintro e w75 ⟨rfl,hb⟩;replace BK101:=am (bb BK101 hb);replace HB:=am (below_step aq0 hb);(try clear hb))))
   go_ret
   exact ⟨aq9,aq0⟩
  subst c60
  rw [if_pos rfl] at H
  obtain ⟨ji61,hji61⟩:∃ j_:Int,(wrap64 ((wrap64 ((wrap64 (Int.tdiv a1 a0_0)) * a0_0)) + (wrap64 ((Int.tmod a1 a0_0) - 1)))) = j_:=⟨_,rfl⟩
  first | rw [hji61] at H | simp only [hji61] at H
  (try rw [hji61] at A59)
  have hji61w:(IntKind.i64.wrap ((wrap64 ((wrap64 (Int.tdiv a1 a0_0)) * a0_0)) + (wrap64 ((Int.tmod a1 a0_0) - 1)))) = ji61:=(i64_w _).trans hji61
  replace H:=gd H
  obtain ⟨c62,H⟩:=H
  have c62b0:=decide_eq_true c62
  clear c62
  replace H:=gd H
  obtain ⟨c63,H⟩:=H
  have c63b0:=decide_eq_true c63
  clear c63
  by_cases c64:(rd l0_2 (ji61)) = 35
  rotate_left
  ·rw [if_neg c64] at H
   have c64b0:=beq_eq_false_iff_ne.mpr c64
   have c64b1:=bne_iff_ne.mpr c64
   obtain rfl:=Option.some.inj H
   go_enter Tryz.func160,Tryz.ntmps160
   go_wp2_with (first | (refine bx 3 #[.int .i64 a0_0,.int .i64 a0_1,.slice A0_2 l0_2.length c0_2] 75 ?_;intro gb101 hg w69 hbox hb;have BK101:=am (hbox);have GW101:=am ((by rw [hg];exact (below_size aq1):w.heap.size ≤ gb101));have GE101:=GW101;replace HB:=am (below_step aq1 hb);clear hb hbox hg;obtain ⟨hcz70_0,hcz70_1,hcz70_2,hfz70_0,hfz70_1,hfz70_2⟩:=blk3_ BK101.out))
   repeat (go_quiet (fail);try go_wp2_with (first | (go_at_call 192;(with_reducible refine (spec_tyCell.calls a0_0 a0_1 _ _ l0_2 (wrap64 ((Int.tmod a1 a0_0) - 1)) (wrap64 (Int.tdiv a1 a0_0)) true _ ?side1 ?side2 A59.out).mono ?_);(case side1=>exact aq7);(case side2=>exact HC0_2.out);rintro e w71 ⟨rfl,hb⟩;replace BK101:=am (bb BK101 hb);replace HB:=am (below_step aq0 hb);(try clear hb);obtain ⟨hcz72_0,hcz72_1,hcz72_2,hfz72_0,hfz72_1,hfz72_2⟩:=blk3_ BK101.out;have p109:0 ≤ ((ji61):Int):=of_decide_eq_true aq4;have q109:(ji61) < (l0_2.length:Int):=of_decide_eq_true aq4;obtain ⟨ad109,e109,hx109_0⟩:=Kd.at_int HR0_2.out (ji61) p109 q109;cases e109;replace hx109_0:=(HB.out.cell (World.block_lt_of_cell? w _ hx109_0)).trans hx109_0;replace p109:=eq_true p109;replace q109:=eq_true q109)))
   go_ret
   exact ⟨aq62,aq0⟩
  rw [if_pos c64] at H
  have c64b0:=beq_iff_eq.mpr c64
  have c64b1:=bne_eq_false_iff_eq.mpr c64
  clear c64
  obtain rfl:=Option.some.inj H
  go_enter Tryz.func160,Tryz.ntmps160
  go_wp2_with (first | (refine bx 3 #[.int .i64 a0_0,.int .i64 a0_1,.slice A0_2 l0_2.length c0_2] 75 ?_;intro gb101 hg w65 hbox hb;have BK101:=am (hbox);have GW101:=am ((by rw [hg];exact (below_size aq1):w.heap.size ≤ gb101));have GE101:=GW101;replace HB:=am (below_step aq1 hb);clear hb hbox hg;obtain ⟨hcz66_0,hcz66_1,hcz66_2,hfz66_0,hfz66_1,hfz66_2⟩:=blk3_ BK101.out))
  repeat (go_quiet (fail);try go_wp2_with (first | (go_at_call 192;(with_reducible refine (spec_tyCell.calls a0_0 a0_1 _ _ l0_2 (wrap64 ((Int.tmod a1 a0_0) - 1)) (wrap64 (Int.tdiv a1 a0_0)) true _ ?side1 ?side2 A59.out).mono ?_);(case side1=>exact aq7);(case side2=>exact HC0_2.out);rintro e w67 ⟨rfl,hb⟩;replace BK101:=am (bb BK101 hb);replace HB:=am (below_step aq0 hb);(try clear hb);obtain ⟨hcz68_0,hcz68_1,hcz68_2,hfz68_0,hfz68_1,hfz68_2⟩:=blk3_ BK101.out;have p109:0 ≤ ((ji61):Int):=of_decide_eq_true aq4;have q109:(ji61) < (l0_2.length:Int):=of_decide_eq_true aq4;obtain ⟨ad109,e109,hx109_0⟩:=Kd.at_int HR0_2.out (ji61) p109 q109;cases e109;replace hx109_0:=(HB.out.cell (World.block_lt_of_cell? w _ hx109_0)).trans hx109_0;replace p109:=eq_true p109;replace q109:=eq_true q109)))
  go_ret
  exact ⟨aq62,aq0⟩
 rw [if_pos c41] at H
 have c41b0:=beq_iff_eq.mpr c41
 have c41b1:=bne_eq_false_iff_eq.mpr c41
 clear c41
 obtain ⟨t106,A42,H⟩:=bn H
 by_cases c43:t106 = true
 rotate_left
 ·replace c43:=Bool.eq_false_iff.mpr c43
  subst c43
  rw [if_neg Bool.false_ne_true] at H
  obtain rfl:=Option.some.inj H
  go_enter Tryz.func160,Tryz.ntmps160
  go_wp2_with (first | (refine bx 3 #[.int .i64 a0_0,.int .i64 a0_1,.slice A0_2 l0_2.length c0_2] 75 ?_;intro gb101 hg w56 hbox hb;have BK101:=am (hbox);have GW101:=am ((by rw [hg];exact (below_size aq1):w.heap.size ≤ gb101));have GE101:=GW101;replace HB:=am (below_step aq1 hb);clear hb hbox hg;obtain ⟨hcz57_0,hcz57_1,hcz57_2,hfz57_0,hfz57_1,hfz57_2⟩:=blk3_ BK101.out))
  repeat (go_quiet (fail);try go_wp2_with (first | (go_at_call 192;(with_reducible refine (spec_tyCell.calls a0_0 a0_1 _ _ l0_2 (Int.tmod a1 a0_0) (wrap64 ((wrap64 (Int.tdiv a1 a0_0)) + 1)) false _ ?side1 ?side2 A42.out).mono ?_);(case side1=>exact aq7);(case side2=>exact HC0_2.out);rintro e w58 ⟨rfl,hb⟩;replace BK101:=am (bb BK101 hb);replace HB:=am (below_step aq0 hb);(try clear hb))))
  go_ret
  exact ⟨aq9,aq0⟩
 subst c43
 rw [if_pos rfl] at H
 obtain ⟨ji44,hji44⟩:∃ j_:Int,(wrap64 ((wrap64 ((wrap64 ((wrap64 (Int.tdiv a1 a0_0)) + 1)) * a0_0)) + (Int.tmod a1 a0_0))) = j_:=⟨_,rfl⟩
 first | rw [hji44] at H | simp only [hji44] at H
 (try rw [hji44] at A42)
 have hji44w:(IntKind.i64.wrap ((wrap64 ((wrap64 ((wrap64 (Int.tdiv a1 a0_0)) + 1)) * a0_0)) + (Int.tmod a1 a0_0))) = ji44:=(i64_w _).trans hji44
 replace H:=gd H
 obtain ⟨c45,H⟩:=H
 have c45b0:=decide_eq_true c45
 clear c45
 replace H:=gd H
 obtain ⟨c46,H⟩:=H
 have c46b0:=decide_eq_true c46
 clear c46
 by_cases c47:(rd l0_2 (ji44)) = 35
 rotate_left
 ·rw [if_neg c47] at H
  have c47b0:=beq_eq_false_iff_ne.mpr c47
  have c47b1:=bne_iff_ne.mpr c47
  obtain rfl:=Option.some.inj H
  go_enter Tryz.func160,Tryz.ntmps160
  go_wp2_with (first | (refine bx 3 #[.int .i64 a0_0,.int .i64 a0_1,.slice A0_2 l0_2.length c0_2] 75 ?_;intro gb101 hg w52 hbox hb;have BK101:=am (hbox);have GW101:=am ((by rw [hg];exact (below_size aq1):w.heap.size ≤ gb101));have GE101:=GW101;replace HB:=am (below_step aq1 hb);clear hb hbox hg;obtain ⟨hcz53_0,hcz53_1,hcz53_2,hfz53_0,hfz53_1,hfz53_2⟩:=blk3_ BK101.out))
  repeat (go_quiet (fail);try go_wp2_with (first | (go_at_call 192;(with_reducible refine (spec_tyCell.calls a0_0 a0_1 _ _ l0_2 (Int.tmod a1 a0_0) (wrap64 ((wrap64 (Int.tdiv a1 a0_0)) + 1)) true _ ?side1 ?side2 A42.out).mono ?_);(case side1=>exact aq7);(case side2=>exact HC0_2.out);rintro e w54 ⟨rfl,hb⟩;replace BK101:=am (bb BK101 hb);replace HB:=am (below_step aq0 hb);(try clear hb);obtain ⟨hcz55_0,hcz55_1,hcz55_2,hfz55_0,hfz55_1,hfz55_2⟩:=blk3_ BK101.out;have p107:0 ≤ ((ji44):Int):=of_decide_eq_true aq4;have q107:(ji44) < (l0_2.length:Int):=of_decide_eq_true aq4;obtain ⟨ad107,e107,hx107_0⟩:=Kd.at_int HR0_2.out (ji44) p107 q107;cases e107;replace hx107_0:=(HB.out.cell (World.block_lt_of_cell? w _ hx107_0)).trans hx107_0;replace p107:=eq_true p107;replace q107:=eq_true q107)))
  go_ret
  exact ⟨aq63,aq0⟩
 rw [if_pos c47] at H
 have c47b0:=beq_iff_eq.mpr c47
 have c47b1:=bne_eq_false_iff_eq.mpr c47
 clear c47
 obtain rfl:=Option.some.inj H
 go_enter Tryz.func160,Tryz.ntmps160
 go_wp2_with (first | (refine bx 3 #[.int .i64 a0_0,.int .i64 a0_1,.slice A0_2 l0_2.length c0_2] 75 ?_;intro gb101 hg w48 hbox hb;have BK101:=am (hbox);have GW101:=am ((by rw [hg];exact (below_size aq1):w.heap.size ≤ gb101));have GE101:=GW101;replace HB:=am (below_step aq1 hb);clear hb hbox hg;obtain ⟨hcz49_0,hcz49_1,hcz49_2,hfz49_0,hfz49_1,hfz49_2⟩:=blk3_ BK101.out))
 repeat (go_quiet (fail);try go_wp2_with (first | (go_at_call 192;(with_reducible refine (spec_tyCell.calls a0_0 a0_1 _ _ l0_2 (Int.tmod a1 a0_0) (wrap64 ((wrap64 (Int.tdiv a1 a0_0)) + 1)) true _ ?side1 ?side2 A42.out).mono ?_);(case side1=>exact aq7);(case side2=>exact HC0_2.out);rintro e w50 ⟨rfl,hb⟩;replace BK101:=am (bb BK101 hb);replace HB:=am (below_step aq0 hb);(try clear hb);obtain ⟨hcz51_0,hcz51_1,hcz51_2,hfz51_0,hfz51_1,hfz51_2⟩:=blk3_ BK101.out;have p107:0 ≤ ((ji44):Int):=of_decide_eq_true aq4;have q107:(ji44) < (l0_2.length:Int):=of_decide_eq_true aq4;obtain ⟨ad107,e107,hx107_0⟩:=Kd.at_int HR0_2.out (ji44) p107 q107;cases e107;replace hx107_0:=(HB.out.cell (World.block_lt_of_cell? w _ hx107_0)).trans hx107_0;replace p107:=eq_true p107;replace q107:=eq_true q107)))
 go_ret
 exact ⟨aq63,aq0⟩
def spec_l1Least.f (a0:Int) (a1:Int):Option (Int):=if a0 < a1 then (some a0) else (some a1)
theorem spec_l1Least.calls (a0:Int) (a1:Int) (r:Int) (w:World) (h:spec_l1Least.f a0 a1 = some r) :
  Calls Tryz.prog 193 #[.int .i64 a0,.int .i64 a1] w fun e w'=>e = .returned (.int .i64 r) ∧ Drawn0 w w':=by
 have H:(if a0 < a1 then (some a0) else (some a1)) = some r:=h
 clear h
 by_cases c3:a0 < a1
 rotate_left
 ·rw [if_neg c3] at H
  have c3b0:=decide_eq_false c3
  clear c3
  obtain rfl:=Option.some.inj H
  go_enter Tryz.func193,Tryz.ntmps193
  go_wp2
  go_ret
  exact ⟨aq6,aq13⟩
 rw [if_pos c3] at H
 have c3b0:=decide_eq_true c3
 clear c3
 obtain rfl:=Option.some.inj H
 go_enter Tryz.func193,Tryz.ntmps193
 go_wp2
 go_ret
 exact ⟨aq6,aq13⟩
def spec_tiFirst.l0:Nat → Int → List Int → Int → Int → Option (Int)
 | 0,_,_,_,_=>none
 | k + 1,x3,x9,x10,x11=>if x11 < x10 then (if 0 ≤ x11 then (if x11 < (x9.length:Int) then ((spec_l1Least.f x3 (rd x9 x11)).bind fun t103=>(spec_tiFirst.l0 k t103 x9 x10 (wrap64 (x11 + 1)))) else (none)) else (none)) else (some x3)
def spec_tiFirst.f (k:Nat) (l0:List Int):Option (Int):=if 0 < (l0.length:Int) then (spec_tiFirst.l0 k (rd l0 0) l0 (l0.length:Int) 0) else (none)
theorem spec_tiFirst.mono_l:∀ k,(∀ y0 y1 y2 y3,LeO (spec_tiFirst.l0 k y0 y1 y2 y3) (spec_tiFirst.l0 (k + 1) y0 y1 y2 y3))
 | 0=>fun _ _ _ _ r h=>by simp [spec_tiFirst.l0] at h
 | k + 1=>by
  have ih0:=spec_tiFirst.mono_l k
  ·intro y0 y1 y2 y3
   unfold spec_tiFirst.l0
   exact mo
theorem spec_tiFirst.mono:∀ a0 k,LeO (spec_tiFirst.f k a0) (spec_tiFirst.f (k + 1) a0):=by
 intro a0 k
 have ih0:=spec_tiFirst.mono_l k
 unfold spec_tiFirst.f
 exact mo
theorem spec_tiFirst.calls (k:Nat) (A0:Option Addr) (c0:Nat) (l0:List Int) (r:Int) (w:World) (hr0:Kd.C (Kd.int .i64) w A0 l0.length l0) (hc0:l0.length ≤ c0) (h:spec_tiFirst.f k l0 = some r) :
  Calls Tryz.prog 161 #[.slice A0 l0.length c0] w fun e w'=>e = .returned (.int .i64 r) ∧ Drawn0 w w':=by
 have HR0:=am hr0
 have HC0:=am hc0
 clear hr0 hc0
 have H:(if 0 < (l0.length:Int) then (spec_tiFirst.l0 k (rd l0 0) l0 (l0.length:Int) 0) else (none)) = some r:=h
 clear h
 replace H:=gd H
 obtain ⟨c2,H⟩:=H
 have c2b0:=decide_eq_true c2
 have c2b1:decide (0 < l0.length) = true:=decide_eq_true o_m
 clear c2
 have H':=am H
 clear H
 have p101:0 ≤ (0:Int):=o_m
 have q101:0 < (l0.length:Int):=of_decide_eq_true aq4
 obtain ⟨ad101,e101,hx101_0⟩:=Kd.at_int HR0.out 0 p101 q101
 cases e101
 have qi101:(0 < l0.length) = True:=eq_true o_m
 (try rw [show ((0:Int)).toNat = 0 from rfl] at hx101_0)
 (try rw [Addr.add_zero'] at hx101_0)
 replace p101:=eq_true p101
 replace q101:=eq_true q101
 go_enter Tryz.func161,Tryz.ntmps161
 go_wp2
 go_loopg [3,11] k (fun kq v3 v11 w'=>∃ (x3_1:Int) (x11_1:Int),v3 = .int .i64 x3_1 ∧ v11 = .int .i64 x11_1 ∧ Aside0 (spec_tiFirst.l0 kq x3_1 l0 (l0.length:Int) x11_1 = some r) ∧ Aside0 (kq ≤ k) ∧ Drawn0 w w')
 case atStart=>exact ⟨(rd l0 0),(0),aq6,aq6,H',⟨Nat.le_refl _⟩,aq13⟩
 case round =>
  clear H'
  try clear c1
  try clear p1
  try clear q1
  try clear hx1
  try clear qi1
  try clear c2
  try clear c2b0
  try clear c2b1
  try clear p2
  try clear hx101_0
  try clear p101
  try clear q101
  obtain ⟨x3_1,x11_1,rfl,rfl,HA,HK1,⟨m1,rfl⟩⟩:=hrel
  cases gk with
  | zero=>exact absurd HA.out (by simp [spec_tiFirst.l0])
  | succ k1 =>
   have H:=HA.out
   clear HA
   simp only [spec_tiFirst.l0] at H
   by_cases c3:x11_1 < (l0.length:Int)
   rotate_left
   ·rw [if_neg c3] at H
    have c3b0:=decide_eq_false c3
    clear c3
    obtain rfl:=Option.some.inj H
    go_wp2
    go_ret
    exact ⟨aq6,aq13⟩
   rw [if_pos c3] at H
   have c3b0:=decide_eq_true c3
   clear c3
   replace H:=gd H
   obtain ⟨c4,H⟩:=H
   have c4b0:=decide_eq_true c4
   clear c4
   replace H:=gd H
   obtain ⟨c5,H⟩:=H
   have c5b0:=decide_eq_true c5
   clear c5
   obtain ⟨t103,A6,H⟩:=bn H
   have H':=am H
   clear H
   have p102:0 ≤ (x11_1:Int):=of_decide_eq_true aq4
   have q102:x11_1 < (l0.length:Int):=of_decide_eq_true aq4
   obtain ⟨ad102,e102,hx102_0⟩:=Kd.at_int HR0.out x11_1 p102 q102
   obtain rfl:ad101 = ad102:=(by injection e102)
   replace p102:=eq_true p102
   replace q102:=eq_true q102
   go_wp2_with (first | ((with_reducible refine gate_callee (f:=193) rfl ?_);refine goesL_ (some 17) rfl rfl Tryz.func193 k_r rfl #[.int .i64 x3_1,.int .i64 (rd l0 x11_1)] rfl aq8 ?_;(with_reducible refine (spec_l1Least.calls x3_1 (rd l0 x11_1) t103 _ A6.out).mono ?_);rintro e w' ⟨rfl,⟨nd,rfl⟩⟩;refine ⟨_,rfl,?_⟩))
   go_roundg k1
   case measure=>have:=HK1.out;omega
   case rel=>exact ⟨(t103),(wrap64 (x11_1 + 1)),aq6,aq6,H',⟨aq56⟩,aq13⟩
mutual
def spec_tiStretches.l0:Nat → Int → List (List Int) → List Int → Int → Int → Int → Int → List Int → Option ((List (List Int)))
 | 0,_,_,_,_,_,_,_,_=>none
 | k + 1,x1,x5,x13,x14,x15,x102000,x102001,x102002=>if x15 < x14 then (if 0 ≤ x15 then (if x15 < (x13.length:Int) then (if (rd x13 x15) = 35 then (spec_tiStretches.j1 k x1 x5 x15 x13 x14 x15 true x102000 x102001 x102002) else ((spec_tiAhead.f x102000 x102001 x102002 x15 x1).bind fun t103=>(spec_tiStretches.j1 k x1 x5 x15 x13 x14 x15 (decide (t103 ≥ 0)) x102000 x102001 x102002))) else (none)) else (none)) else (some x5)
def spec_tiStretches.j1:Nat → Int → List (List Int) → Int → List Int → Int → Int → Bool → Int → Int → List Int → Option ((List (List Int)))
 | 0,_,_,_,_,_,_,_,_,_,_=>none
 | k + 1,x1,x5,x6,x13,x14,x15,x28,x102000,x102001,x102002=>if x28 = true then (spec_tiStretches.l0 k x1 x5 x13 x14 (wrap64 (x15 + 1)) x102000 x102001 x102002) else ((spec_tiAhead.f x102000 x102001 x102002 x6 (Int.tmod (wrap64 (x1 + 2)) 4)).bind fun t107=>(spec_tiStretches.l1 k x1 x5 (([x6]:List Int)) t107 x13 x14 x15 x102000 x102001 x102002))
def spec_tiStretches.l1:Nat → Int → List (List Int) → List Int → Int → List Int → Int → Int → Int → Int → List Int → Option ((List (List Int)))
 | 0,_,_,_,_,_,_,_,_,_,_=>none
 | k + 1,x1,x5,x8,x9,x13,x14,x15,x102000,x102001,x102002=>if x9 ≥ 0 then (if x8.length < 17592186044416 then ((spec_tiAhead.f x102000 x102001 x102002 x9 (Int.tmod (wrap64 (x1 + 2)) 4)).bind fun t111=>(spec_tiStretches.l1 k x1 x5 (x8 ++ [x9]) t111 x13 x14 x15 x102000 x102001 x102002)) else (none)) else (spec_tiStretches.l2 k x1 x5 x8 0 x13 x14 x15 x102000 x102001 x102002)
def spec_tiStretches.l2:Nat → Int → List (List Int) → List Int → Int → List Int → Int → Int → Int → Int → List Int → Option ((List (List Int)))
 | 0,_,_,_,_,_,_,_,_,_,_=>none
 | k + 1,x1,x5,x8,x10,x13,x14,x15,x102000,x102001,x102002=>if x10 < (x5.length:Int) then (if 0 ≤ x10 then ((spec_tiFirst.f k (rd_L3 x5 x10)).bind fun t113=>((spec_tiFirst.f k x8).bind fun t114=>(if t113 < t114 then (spec_tiStretches.l2 k x1 x5 x8 (wrap64 (x10 + 1)) x13 x14 x15 x102000 x102001 x102002) else ((some (([]:List (List Int)):List (List Int))).bind fun y115=>(if x10 ≤ (x5.length:Int) then ((some (x5.take (x10:Int).toNat:List (List Int))).bind fun y118=>(if y115.length + y118.length < 5864062014805 then ((some (y115 ++ y118:List (List Int))).bind fun y123=>(if y123.length < 5864062014805 then ((some (y123 ++ [x8]:List (List Int))).bind fun y126=>((some (x5.drop (x10:Int).toNat:List (List Int))).bind fun y129=>(if y126.length + y129.length < 5864062014805 then (spec_tiStretches.l0 k x1 (y126 ++ y129) x13 x14 (wrap64 (x15 + 1)) x102000 x102001 x102002) else (none)))) else (none))) else (none))) else (none)))))) else (none)) else ((some (([]:List (List Int)):List (List Int))).bind fun y137=>(if 0 ≤ x10 then (if x10 ≤ (x5.length:Int) then ((some (x5.take (x10:Int).toNat:List (List Int))).bind fun y140=>(if y137.length + y140.length < 5864062014805 then ((some (y137 ++ y140:List (List Int))).bind fun y145=>(if y145.length < 5864062014805 then ((some (y145 ++ [x8]:List (List Int))).bind fun y148=>((some (x5.drop (x10:Int).toNat:List (List Int))).bind fun y151=>(if y148.length + y151.length < 5864062014805 then (spec_tiStretches.l0 k x1 (y148 ++ y151) x13 x14 (wrap64 (x15 + 1)) x102000 x102001 x102002) else (none)))) else (none))) else (none))) else (none)) else (none)))
end
def spec_tiStretches.f (k:Nat) (a0_0:Int) (a0_1:Int) (l0_2:List Int) (a1:Int):Option ((List (List Int))):=spec_tiStretches.l0 k a1 ([]:List (List Int)) l0_2 (l0_2.length:Int) 0 a0_0 a0_1 l0_2
theorem spec_tiStretches.mono_l:∀ k,(∀ y0 y1 y2 y3 y4 y5 y6 y7,LeO (spec_tiStretches.l0 k y0 y1 y2 y3 y4 y5 y6 y7) (spec_tiStretches.l0 (k + 1) y0 y1 y2 y3 y4 y5 y6 y7)) ∧ (∀ y0 y1 y2 y3 y4 y5 y6 y7 y8 y9,LeO (spec_tiStretches.j1 k y0 y1 y2 y3 y4 y5 y6 y7 y8 y9) (spec_tiStretches.j1 (k + 1) y0 y1 y2 y3 y4 y5 y6 y7 y8 y9)) ∧ (∀ y0 y1 y2 y3 y4 y5 y6 y7 y8 y9,LeO (spec_tiStretches.l1 k y0 y1 y2 y3 y4 y5 y6 y7 y8 y9) (spec_tiStretches.l1 (k + 1) y0 y1 y2 y3 y4 y5 y6 y7 y8 y9)) ∧ (∀ y0 y1 y2 y3 y4 y5 y6 y7 y8 y9,LeO (spec_tiStretches.l2 k y0 y1 y2 y3 y4 y5 y6 y7 y8 y9) (spec_tiStretches.l2 (k + 1) y0 y1 y2 y3 y4 y5 y6 y7 y8 y9))
 | 0=>⟨fun _ _ _ _ _ _ _ _ r h=>by simp [spec_tiStretches.l0] at h,fun _ _ _ _ _ _ _ _ _ _ r h=>by simp [spec_tiStretches.j1] at h,fun _ _ _ _ _ _ _ _ _ _ r h=>by simp [spec_tiStretches.l1] at h,fun _ _ _ _ _ _ _ _ _ _ r h=>by simp [spec_tiStretches.l2] at h⟩
 | k + 1=>by
  obtain ⟨ih0,ih1,ih2,ih3⟩:=spec_tiStretches.mono_l k
  refine ⟨?_,?_,?_,?_⟩
  ·intro y0 y1 y2 y3 y4 y5 y6 y7
   unfold spec_tiStretches.l0
   have im0:=@spec_tiFirst.mono;exact mo
  ·intro y0 y1 y2 y3 y4 y5 y6 y7 y8 y9
   unfold spec_tiStretches.j1
   have im0:=@spec_tiFirst.mono;exact mo
  ·intro y0 y1 y2 y3 y4 y5 y6 y7 y8 y9
   unfold spec_tiStretches.l1
   have im0:=@spec_tiFirst.mono;exact mo
  ·intro y0 y1 y2 y3 y4 y5 y6 y7 y8 y9
   unfold spec_tiStretches.l2
   have im0:=@spec_tiFirst.mono;exact mo
theorem spec_tiStretches.calls (k:Nat) (a0_0:Int) (a0_1:Int) (A0_2:Option Addr) (c0_2:Nat) (l0_2:List Int) (a1:Int) (r:List (List Int)) (w:World) (hr0_2:Kd.C (Kd.int .u8) w A0_2 l0_2.length l0_2) (hc0_2:l0_2.length ≤ c0_2) (h:spec_tiStretches.f k a0_0 a0_1 l0_2 a1 = some r) :
  Calls Tryz.prog 120 #[.agg #[.int .i64 a0_0,.int .i64 a0_1,.slice A0_2 l0_2.length c0_2],.int .i64 a1] w fun e w'=>∃ v0_:Value,e = .returned (v0_) ∧ Kd.N (Kd.slice 3 (Kd.int .i64)) 40 w' w.heap.size (fun k_=>(w.heap.size ≤ k_)) v0_ r ∧ Below w.heap.size w w':=by
 have hu75:=Tryz.underlying75
 have HR0_2:=am hr0_2
 have HC0_2:=am hc0_2
 clear hr0_2 hc0_2
 have HB:=am (Below.refl w.heap.size w)
 have H:(spec_tiStretches.l0 k a1 ([]:List (List Int)) l0_2 (l0_2.length:Int) 0 a0_0 a0_1 l0_2) = some r:=h
 clear h
 have H':=am H
 clear H
 go_enter Tryz.func120,Tryz.ntmps120
 go_wp2_with (first | (refine bx 2 #[.int .i64 a0_0,.int .i64 a0_1,.slice A0_2 l0_2.length c0_2] 75 ?_;intro gb101 hg w3 hbox hb;have BK101:=am (hbox);have GW101:=am ((by rw [hg];exact (below_size aq1):w.heap.size ≤ gb101));have GE101:=GW101;replace HB:=am (below_step aq1 hb);clear hb hbox hg;obtain ⟨hcz4_0,hcz4_1,hcz4_2,hfz4_0,hfz4_1,hfz4_2⟩:=blk3_ BK101.out))
 go_loopg [5,15] k (fun kq v5 v15 w'=>∃ (x5_1:List (List Int)) (x15_1:Int),v15 = .int .i64 x15_1 ∧ Aside0 (spec_tiStretches.l0 kq a1 x5_1 l0_2 (l0_2.length:Int) x15_1 a0_0 a0_1 l0_2 = some r) ∧ Aside0 (kq ≤ k) ∧ Aside0 (Kd.N (Kd.slice 3 (Kd.int .i64)) 40 w' w.heap.size (fun k_=>(w.heap.size ≤ k_) ∧ k_ ≠ gb101) v5 x5_1) ∧ Aside0 (w'.heap[gb101]? = some (.cells #[.int .i64 a0_0,.int .i64 a0_1,(.slice A0_2 l0_2.length c0_2)] 75 (0,0))) ∧ Aside0 (Below w.heap.size w w'))
 case atStart=>exact ⟨(([]:List (List Int))),(0),aq6,H',⟨Nat.le_refl _⟩,⟨by first | exact Kd.S_nil _ _ _ _ _ | exact Kd.N_nil _ _ _ _ _ | exact Kd.V_nil _ _ _ _ _ | exact Kd.Q_nil _ _ _ _ _ | exact Kd.R_nil _ _ _ _ _⟩,⟨aq2⟩,⟨aq0⟩⟩
 case round =>
  clear H'
  try clear c1
  try clear p2
  try clear hcz4_0
  try clear hcz4_1
  try clear hcz4_2
  try clear hfz4_0
  try clear hfz4_1
  try clear hfz4_2
  obtain ⟨x5_1,x15_1,rfl,HA,HK1,HO_5,BK101,HB⟩:=hrel
  cases gk with
  | zero=>exact absurd HA.out (by simp [spec_tiStretches.l0])
  | succ k1 =>
   have H:=HA.out
   clear HA
   simp only [spec_tiStretches.l0] at H
   by_cases c5:x15_1 < (l0_2.length:Int)
   rotate_left
   ·rw [if_neg c5] at H
    have c5b0:=decide_eq_false c5
    clear c5
    obtain rfl:=Option.some.inj H
    go_wp2
    go_ret
    exact ⟨_,aq9,by (with_reducible repeat (first | apply Kd.N_alloc | apply Kd.N_drewN | apply Kd.N_drew));exact Kd.N_mono HO_5.out (fun _ hk=>hk.1),aq0⟩
   rw [if_pos c5] at H
   have c5b0:=decide_eq_true c5
   clear c5
   replace H:=gd H
   obtain ⟨c6,H⟩:=H
   have c6b0:=decide_eq_true c6
   clear c6
   replace H:=gd H
   obtain ⟨c7,H⟩:=H
   have c7b0:=decide_eq_true c7
   clear c7
   have HC8:=am H
   clear H
   have p102:0 ≤ (x15_1:Int):=of_decide_eq_true aq4
   have q102:x15_1 < (l0_2.length:Int):=of_decide_eq_true aq4
   obtain ⟨ad102,e102,hx102_0⟩:=Kd.at_int HR0_2.out x15_1 p102 q102
   cases e102
   try replace hx102_0:=(HB.out.cell (World.block_lt_of_cell? w _ hx102_0)).trans hx102_0
   replace p102:=eq_true p102
   replace q102:=eq_true q102
   go_upto_region 5 with (fail)
   go_cut [28] (fun v28 wc=>∃ (kq:Nat) (x28_7:Bool),v28 = .bool x28_7 ∧ Aside0 (spec_tiStretches.j1 kq a1 x5_1 x15_1 l0_2 (l0_2.length:Int) x15_1 x28_7 a0_0 a0_1 l0_2 = some r) ∧ Aside0 (kq ≤ k1) ∧ Aside0 (Kd.N (Kd.slice 3 (Kd.int .i64)) 40 wc w.heap.size (fun k_=>(w.heap.size ≤ k_) ∧ k_ ≠ gb101) u5 x5_1) ∧ Aside0 (wc.heap[gb101]? = some (.cells #[.int .i64 a0_0,.int .i64 a0_1,(.slice (some ad102) l0_2.length c0_2)] 75 (0,0))) ∧ Aside0 (Below w.heap.size w wc))
   case first =>
    have H:=HC8.out
    clear HC8
    by_cases c9:(rd l0_2 x15_1) = 35
    ·rw [if_pos c9] at H
     have c9b0:=beq_iff_eq.mpr c9
     have c9b1:=bne_eq_false_iff_eq.mpr c9
     clear c9
     (first | rw [c9b0] | (simp only [i64_w,i32_w];rw [c9b0]) | skip)
     have H':=am H
     clear H
     go_wp2
     go_meet
     case rel=>exact ⟨_,(true),aq6,H',⟨aq48⟩,⟨aq14⟩,⟨aq2⟩,⟨aq0⟩⟩
    rw [if_neg c9] at H
    have c9b0:=beq_eq_false_iff_ne.mpr c9
    have c9b1:=bne_iff_ne.mpr c9
    (first | rw [c9b0] | (simp only [i64_w,i32_w];rw [c9b0]) | skip)
    obtain ⟨t103,A10,H⟩:=bn H
    have H':=am H
    clear H
    obtain ⟨hcz11_0,hcz11_1,hcz11_2,hfz11_0,hfz11_1,hfz11_2⟩:=blk3_ BK101.out
    go_wp2_with (first | (go_at_call 160;(with_reducible refine (spec_tiAhead.calls a0_0 a0_1 _ _ l0_2 x15_1 a1 t103 _ ?side1 ?side2 A10.out).mono ?_);(case side1=>exact aq7);(case side2=>exact HC0_2.out);rintro e w12 ⟨rfl,hb⟩;replace HO_5:=am (Kd.N_below aq14 hb);replace BK101:=am (bb BK101 hb);replace HB:=am (below_step aq0 hb);(try clear hb)))
    go_meet
    case rel=>exact ⟨_,(decide (t103 ≥ 0)),aq6,H',⟨aq48⟩,⟨aq14⟩,⟨aq2⟩,⟨aq0⟩⟩
   case rest =>
    clear HC8
    try clear c1
    try clear p1
    try clear q1
    try clear hx1
    try clear p2
    try clear c5
    try clear c5b0
    try clear c6
    try clear c6b0
    try clear c7
    try clear c7b0
    try clear c9
    try clear c9b0
    try clear c9b1
    try clear p10
    try clear q10
    try clear hx10
    try clear c12
    try clear hcz11_0
    try clear hcz11_1
    try clear hcz11_2
    try clear hcz4_0
    try clear hcz4_1
    try clear hcz4_2
    try clear hfz11_0
    try clear hfz11_1
    try clear hfz11_2
    try clear hfz4_0
    try clear hfz4_1
    try clear hfz4_2
    try clear hx102_0
    try clear p102
    try clear p2
    try clear q102
    obtain ⟨kq,x28_7,rfl,HA,HJ7,HO_5,BK101,HB⟩:=hcut
    cases kq with
    | zero=>exact absurd HA.out (by simp [spec_tiStretches.j1])
    | succ kj7 =>
     have H:=HA.out
     clear HA
     simp only [spec_tiStretches.j1] at H
     by_cases c13:x28_7 = true
     ·subst c13
      rw [if_pos rfl] at H
      have H':=am H
      clear H
      go_wp2
      go_roundg kj7
      case measure=>have:=HK1.out;have:=HJ7.out;omega
      case rel=>exact ⟨(x5_1),(wrap64 (x15_1 + 1)),aq6,H',⟨by have:=HK1.out;have:=HJ7.out;omega⟩,⟨aq14⟩,⟨aq2⟩,⟨aq0⟩⟩
     replace c13:=Bool.eq_false_iff.mpr c13
     subst c13
     rw [if_neg Bool.false_ne_true] at H
     obtain ⟨y104,hy_⟩:∃ y_:List Int,y_ = (([x15_1]:List Int)):=⟨_,rfl⟩
     replace H:((spec_tiAhead.f a0_0 a0_1 l0_2 x15_1 (Int.tmod (wrap64 (a1 + 2)) 4)).bind fun t107=>(spec_tiStretches.l1 kj7 a1 x5_1 y104 t107 l0_2 (l0_2.length:Int) x15_1 a0_0 a0_1 l0_2)) = some r:=aq3
     have Ny104:=am hy_
     clear hy_
     obtain ⟨t107,A14,H⟩:=bn H
     have H':=am H
     clear H
     go_wp2_with (first | ((with_reducible refine gate_dst (N:=30) rfl ?_);refine Kd.R_lit (Kd.int .i64) _ 3 ?hg (N:=30) ?hd (xs:=([x15_1]:List Int)) (inner:=[.int .i64 x15_1]) (ok:=fun _=>True) (okp:=fun _=>True) ?hr ?hp (fun _ hk=>hk) trivial (Below.refl _ _) (Nat.le_refl _) (by simp) ?_;(case hd=>rfl);(case hg=>rfl);(case hr=>exact aq12);(case hp=>exact (Reps.one (show Kd.M (Kd.int .i64) _ _ _ x15_1 [.int .i64 x15_1] from rfl) (Reps.none _ _)));intro v105 w15 ho16 hb hg_ hnew_;clear hg_ hnew_;(first | rw [← Ny104.out] at ho16 | (simp only [Int.reduceToNat] at ho16;rw [← Ny104.out] at ho16));replace HO_5:=am (Kd.N_elder' aq14 (Kd.R_base ho16) hb);have HO106:=am (Kd.R_lower (Kd.R_newM (M:=fun k_=>(w.heap.size ≤ k_)) ho16 (below_size aq0) (fun k_ h_=>h_)) (below_size aq0));replace BK101:=am (bb BK101 hb);replace HB:=am (below_step aq0 hb);clear hb ho16;obtain ⟨hcz17_0,hcz17_1,hcz17_2,hfz17_0,hfz17_1,hfz17_2⟩:=blk3_ BK101.out) | ((with_reducible refine gate_callee (f:=160) rfl ?_);refine goesL_ (some 36) rfl rfl Tryz.func160 k_r rfl #[.agg #[.int .i64 a0_0,.int .i64 a0_1,.slice (some ad102) l0_2.length c0_2],.int .i64 x15_1,.int .i64 (Int.tmod (wrap64 (a1 + 2)) 4)] rfl aq8 ?_;(with_reducible refine (spec_tiAhead.calls a0_0 a0_1 _ _ l0_2 x15_1 (Int.tmod (wrap64 (a1 + 2)) 4) t107 _ ?side1 ?side2 A14.out).mono ?_);(case side1=>exact aq7);(case side2=>exact HC0_2.out);rintro e w18 ⟨rfl,hb⟩;refine ⟨_,rfl,?_⟩;replace HO_5:=am (Kd.N_below aq14 hb);replace HO106:=am (Kd.R_below (by (with_reducible repeat (first | apply Kd.R_alloc | apply Kd.R_drewN | apply Kd.R_drew));exact HO106.out) hb);replace BK101:=am (bb BK101 hb);replace HB:=am (below_step aq0 hb);(try clear hb)))
     go_loopg [8,9] kj7 (fun kq v8 v9 w'=>∃ (x8_3:List Int) (x9_3:Int),v9 = .int .i64 x9_3 ∧ Aside0 (spec_tiStretches.l1 kq a1 x5_1 x8_3 x9_3 l0_2 (l0_2.length:Int) x15_1 a0_0 a0_1 l0_2 = some r) ∧ Aside0 (kq ≤ kj7) ∧ Aside0 (Kd.N (Kd.slice 3 (Kd.int .i64)) 40 w' w.heap.size (fun k_=>(w.heap.size ≤ k_) ∧ some k_ ≠ (v8:Value).ownBlock ∧ k_ ≠ gb101) u5 x5_1) ∧ Aside0 (Kd.R (Kd.int .i64) 3 w' w.heap.size (fun k_=>(w.heap.size ≤ k_)) v8 x8_3) ∧ Aside0 (w'.heap[gb101]? = some (.cells #[.int .i64 a0_0,.int .i64 a0_1,(.slice (some ad102) l0_2.length c0_2)] 75 (0,0))) ∧ Aside0 (Below w.heap.size w w'))
     case atStart=>exact ⟨(y104),(t107),aq6,H',⟨Nat.le_refl _⟩,⟨aq76⟩,⟨by (with_reducible repeat (first | apply Kd.R_alloc | apply Kd.R_drewN | apply Kd.R_drew));exact Kd.R_mono HO106.out (fun _ hk=>hk.1)⟩,⟨aq2⟩,⟨aq0⟩⟩
     case round =>
      clear H'
      try clear c1
      try clear p1
      try clear q1
      try clear hx1
      try clear p2
      try clear c5
      try clear c5b0
      try clear c6
      try clear c6b0
      try clear p6
      try clear c7
      try clear c7b0
      try clear c9
      try clear c9b0
      try clear c9b1
      try clear p10
      try clear q10
      try clear hx10
      try clear c12
      try clear c13
      try clear c16
      try clear hcz11_0
      try clear hcz11_1
      try clear hcz11_2
      try clear hcz17_0
      try clear hcz17_1
      try clear hcz17_2
      try clear hcz4_0
      try clear hcz4_1
      try clear hcz4_2
      try clear hfz11_0
      try clear hfz11_1
      try clear hfz11_2
      try clear hfz17_0
      try clear hfz17_1
      try clear hfz17_2
      try clear hfz4_0
      try clear hfz4_1
      try clear hfz4_2
      try clear hx102_0
      try clear p1
      try clear p10
      try clear p102
      try clear p2
      try clear q1
      try clear q10
      try clear q102
      obtain ⟨x8_3,x9_3,rfl,HA,HK3,HO_5,HO_8,BK101,HB⟩:=hrel
      cases gk with
      | zero=>exact absurd HA.out (by simp [spec_tiStretches.l1])
      | succ k3 =>
       have H:=HA.out
       clear HA
       simp only [spec_tiStretches.l1] at H
       by_cases c19:x9_3 ≥ 0
       ·rw [if_pos c19] at H
        have c19b0:=decide_eq_true c19
        clear c19
        replace H:=gd H
        obtain ⟨c20,H⟩:=H
        have LMc20:=am c20
        clear c20
        obtain ⟨y108,hy_⟩:∃ y_:List Int,y_ = (x8_3 ++ [x9_3]):=⟨_,rfl⟩
        replace H:((spec_tiAhead.f a0_0 a0_1 l0_2 x9_3 (Int.tmod (wrap64 (a1 + 2)) 4)).bind fun t111=>(spec_tiStretches.l1 k3 a1 x5_1 y108 t111 l0_2 (l0_2.length:Int) x15_1 a0_0 a0_1 l0_2)) = some r:=aq3
        have Ny108:=am hy_
        clear hy_
        obtain ⟨t111,A21,H⟩:=bn H
        have H':=am H
        clear H
        go_wp2_with (first | ((with_reducible refine gate_builtin (b:=.append) (xs:=#[.tmp 45,.tmp 47]) rfl ?_);at_builtin;refine Kd.R_append (Kd.int .i64) (w0:=w) w.heap.size rfl (.tmp 45) (.tmp 47) 40 3 (.int .i64 0) 8 rfl Tryz.underlying40 info3 rfl d_c o_m u8 x8_3 x9_3 [.int .i64 x9_3] (fun k_=>(w.heap.size ≤ k_)) (fun _=>False) rfl rfl ?aP (fun _ hk=>hk.elim) ?aF ?aO ?aB ?aS ?aL ?_;(case aP=>exact rfl);(case aB=>exact aq0);(case aF=>exact (fun k_ hk=>(Nat.le_trans (below_size aq0) hk)));(case aO=>exact aq20);(case aS=>exact aq51);(case aL=>have:=LMc20.out;omega);intro v109 w22 ho hb hg hat;rw [← Ny108.out] at ho;replace HO_5:=am (Kd.N_afterv (ok:=(fun k_=>(w.heap.size ≤ k_) ∧ k_ ≠ gb101)) (by (with_reducible repeat (first | apply Kd.N_alloc | apply Kd.N_drewN | apply Kd.N_drew));exact Kd.N_mono HO_5.out (fun _ hk=>⟨⟨hk.1,hk.2.2⟩,hk.2.1⟩)) hg hat);replace BK101:=am (bg BK101 hg (Kd.R_ne HO_8.out BK101.out d_c));replace HB:=am (hb);have HO110:=am (ho);clear HO_8 ho hb hg hat;obtain ⟨hcz23_0,hcz23_1,hcz23_2,hfz23_0,hfz23_1,hfz23_2⟩:=blk3_ BK101.out) | ((with_reducible refine gate_callee (f:=160) rfl ?_);refine goesL_ (some 44) rfl rfl Tryz.func160 k_r rfl #[.agg #[.int .i64 a0_0,.int .i64 a0_1,.slice (some ad102) l0_2.length c0_2],.int .i64 x9_3,.int .i64 (Int.tmod (wrap64 (a1 + 2)) 4)] rfl aq8 ?_;(with_reducible refine (spec_tiAhead.calls a0_0 a0_1 _ _ l0_2 x9_3 (Int.tmod (wrap64 (a1 + 2)) 4) t111 _ ?side1 ?side2 A21.out).mono ?_);(case side1=>exact aq7);(case side2=>exact HC0_2.out);rintro e w24 ⟨rfl,hb⟩;refine ⟨_,rfl,?_⟩;replace HO_5:=am (Kd.N_below aq14 hb);replace HO110:=am (Kd.R_below aq29 hb);replace BK101:=am (bb BK101 hb);replace HB:=am (below_step aq0 hb);(try clear hb)))
        go_roundg k3
        case measure=>have:=HK1.out;have:=HJ7.out;have:=HK3.out;omega
        case rel=>exact ⟨(y108),(t111),aq6,H',⟨by have:=HK1.out;have:=HJ7.out;have:=HK3.out;omega⟩,⟨aq76⟩,⟨aq29⟩,⟨aq2⟩,⟨aq0⟩⟩
       rw [if_neg c19] at H
       have c19b0:=decide_eq_false c19
       clear c19
       have H':=am H
       clear H
       go_wp2
       go_loopg [10] k3 (fun kq v10 w'=>∃ (x10_4:Int),v10 = .int .i64 x10_4 ∧ Aside0 (spec_tiStretches.l2 kq a1 x5_1 x8_3 x10_4 l0_2 (l0_2.length:Int) x15_1 a0_0 a0_1 l0_2 = some r) ∧ Aside0 (kq ≤ k3) ∧ Aside0 (Kd.N (Kd.slice 3 (Kd.int .i64)) 40 w' w.heap.size (fun k_=>(w.heap.size ≤ k_) ∧ some k_ ≠ (u8:Value).ownBlock ∧ k_ ≠ gb101) u5 x5_1) ∧ Aside0 (Kd.R (Kd.int .i64) 3 w' w.heap.size (fun k_=>(w.heap.size ≤ k_)) u8 x8_3) ∧ Aside0 (w'.heap[gb101]? = some (.cells #[.int .i64 a0_0,.int .i64 a0_1,(.slice (some ad102) l0_2.length c0_2)] 75 (0,0))) ∧ Aside0 (Below w.heap.size w w'))
       case atStart=>exact ⟨(0),aq6,H',⟨Nat.le_refl _⟩,⟨aq14⟩,⟨aq20⟩,⟨aq2⟩,⟨aq0⟩⟩
       case round =>
        clear H'
        try clear c1
        try clear p1
        try clear q1
        try clear hx1
        try clear c2
        try clear p2
        try clear c5
        try clear c5b0
        try clear c6
        try clear c6b0
        try clear p6
        try clear c7
        try clear c7b0
        try clear c9
        try clear c9b0
        try clear c9b1
        try clear p10
        try clear q10
        try clear hx10
        try clear c12
        try clear c13
        try clear c16
        try clear c19
        try clear c19b0
        try clear c20
        try clear hcz11_0
        try clear hcz11_1
        try clear hcz11_2
        try clear hcz17_0
        try clear hcz17_1
        try clear hcz17_2
        try clear hcz23_0
        try clear hcz23_1
        try clear hcz23_2
        try clear hcz4_0
        try clear hcz4_1
        try clear hcz4_2
        try clear hfz11_0
        try clear hfz11_1
        try clear hfz11_2
        try clear hfz17_0
        try clear hfz17_1
        try clear hfz17_2
        try clear hfz23_0
        try clear hfz23_1
        try clear hfz23_2
        try clear hfz4_0
        try clear hfz4_1
        try clear hfz4_2
        try clear hx102_0
        try clear p1
        try clear p10
        try clear p102
        try clear p2
        try clear p6
        try clear q1
        try clear q10
        try clear q102
        obtain ⟨x10_4,rfl,HA,HK4,HO_5,HO_8,BK101,HB⟩:=hrel
        cases gk with
        | zero=>exact absurd HA.out (by simp [spec_tiStretches.l2])
        | succ k4 =>
         have H:=HA.out
         clear HA
         simp only [spec_tiStretches.l2] at H
         by_cases c25:x10_4 < (x5_1.length:Int)
         rotate_left
         ·rw [if_neg c25] at H
          have c25b0:=decide_eq_false c25
          clear c25
          obtain ⟨y137,hy_⟩:∃ y_:List (List Int),y_ = (([]:List (List Int))):=⟨_,rfl⟩
          replace H:(if 0 ≤ x10_4 then (if x10_4 ≤ (x5_1.length:Int) then ((some (x5_1.take (x10_4:Int).toNat:List (List Int))).bind fun y140=>(if y137.length + y140.length < 5864062014805 then ((some (y137 ++ y140:List (List Int))).bind fun y145=>(if y145.length < 5864062014805 then ((some (y145 ++ [x8_3]:List (List Int))).bind fun y148=>((some (x5_1.drop (x10_4:Int).toNat:List (List Int))).bind fun y151=>(if y148.length + y151.length < 5864062014805 then (spec_tiStretches.l0 k4 a1 (y148 ++ y151) l0_2 (l0_2.length:Int) (wrap64 (x15_1 + 1)) a0_0 a0_1 l0_2) else (none)))) else (none))) else (none))) else (none)) else (none)) = some r:=aq3
          have Ny137:=am hy_
          clear hy_
          replace H:=gd H
          obtain ⟨c48,H⟩:=H
          have c48b0:=eq_true c48
          have c48b1:=decide_eq_true c48
          clear c48
          replace H:=gd H
          obtain ⟨c49,H⟩:=H
          have c49b0:=eq_true c49
          have c49b1:=decide_eq_true c49
          clear c49
          obtain ⟨y140,hy_⟩:∃ y_:List (List Int),y_ = (x5_1.take (x10_4:Int).toNat):=⟨_,rfl⟩
          replace H:(if y137.length + y140.length < 5864062014805 then ((some (y137 ++ y140:List (List Int))).bind fun y145=>(if y145.length < 5864062014805 then ((some (y145 ++ [x8_3]:List (List Int))).bind fun y148=>((some (x5_1.drop (x10_4:Int).toNat:List (List Int))).bind fun y151=>(if y148.length + y151.length < 5864062014805 then (spec_tiStretches.l0 k4 a1 (y148 ++ y151) l0_2 (l0_2.length:Int) (wrap64 (x15_1 + 1)) a0_0 a0_1 l0_2) else (none)))) else (none))) else (none)) = some r:=aq3
          have Ny140:=am hy_
          clear hy_
          replace H:=gd H
          obtain ⟨c50,H⟩:=H
          have LMc50:=am c50
          clear c50
          obtain ⟨y145,hy_⟩:∃ y_:List (List Int),y_ = (y137 ++ y140):=⟨_,rfl⟩
          replace H:(if y145.length < 5864062014805 then ((some (y145 ++ [x8_3]:List (List Int))).bind fun y148=>((some (x5_1.drop (x10_4:Int).toNat:List (List Int))).bind fun y151=>(if y148.length + y151.length < 5864062014805 then (spec_tiStretches.l0 k4 a1 (y148 ++ y151) l0_2 (l0_2.length:Int) (wrap64 (x15_1 + 1)) a0_0 a0_1 l0_2) else (none)))) else (none)) = some r:=aq3
          have Ny145:=am hy_
          clear hy_
          replace H:=gd H
          obtain ⟨c51,H⟩:=H
          have LMc51:=am c51
          clear c51
          obtain ⟨y148,hy_⟩:∃ y_:List (List Int),y_ = (y145 ++ [x8_3]):=⟨_,rfl⟩
          replace H:((some (x5_1.drop (x10_4:Int).toNat:List (List Int))).bind fun y151=>(if y148.length + y151.length < 5864062014805 then (spec_tiStretches.l0 k4 a1 (y148 ++ y151) l0_2 (l0_2.length:Int) (wrap64 (x15_1 + 1)) a0_0 a0_1 l0_2) else (none))) = some r:=aq3
          have Ny148:=am hy_
          clear hy_
          have c52b0:=eq_true (of_decide_eq_true aq4:0 ≤ x10_4)
          have c53b0:=eq_true (of_decide_eq_true aq4:x10_4 ≤ (x5_1.length:Int))
          obtain ⟨y151,hy_⟩:∃ y_:List (List Int),y_ = (x5_1.drop (x10_4:Int).toNat):=⟨_,rfl⟩
          replace H:(if y148.length + y151.length < 5864062014805 then (spec_tiStretches.l0 k4 a1 (y148 ++ y151) l0_2 (l0_2.length:Int) (wrap64 (x15_1 + 1)) a0_0 a0_1 l0_2) else (none)) = some r:=aq3
          have Ny151:=am hy_
          clear hy_
          replace H:=gd H
          obtain ⟨c54,H⟩:=H
          have LMc54:=am c54
          clear c54
          obtain ⟨y156,hy_⟩:∃ y_:List (List Int),y_ = (y148 ++ y151):=⟨_,rfl⟩
          replace H:(spec_tiStretches.l0 k4 a1 y156 l0_2 (l0_2.length:Int) (wrap64 (x15_1 + 1)) a0_0 a0_1 l0_2) = some r:=aq3
          have Ny156:=am hy_
          clear hy_
          have H':=am H
          clear H
          obtain ⟨Ao55,co55,eo55⟩:=Kd.N_slice HO_5.out
          subst eo55
          go_wp2_with (first | ((with_reducible refine gate_dst (N:=65) rfl ?_);refine Kd.N_lit (Kd.slice 3 (Kd.int .i64)) _ 40 ?hg (N':=65) ?hd (xs:=([]:List (List Int))) (inner:=[]) (ok:=(fun k_=>(w.heap.size ≤ k_) ∧ some k_ ≠ (.slice Ao55 x5_1.length co55:Value).ownBlock ∧ some k_ ≠ (u8:Value).ownBlock ∧ k_ ≠ gb101)) (okp:=(fun k_=>(w.heap.size ≤ k_) ∧ some k_ ≠ (.slice Ao55 x5_1.length co55:Value).ownBlock ∧ some k_ ≠ (u8:Value).ownBlock ∧ k_ ≠ gb101)) ?hr ?hp (fun _ hk=>hk) ((show ∀ k_,wr.heap.size ≤ k_ → (fun k_=>(w.heap.size ≤ k_) ∧ some k_ ≠ (.slice Ao55 x5_1.length co55:Value).ownBlock ∧ some k_ ≠ (u8:Value).ownBlock ∧ k_ ≠ gb101) k_ from fun k_ hk=>⟨(Nat.le_trans (below_size aq0) hk),Kd.fresh' (Kd.N_lt aq14) k_ hk,Kd.fresh' (Kd.R_lt aq20) k_ hk,Kd.freshB (g:=gb101) (o:=.cells #[.int .i64 a0_0,.int .i64 a0_1,.slice (some ad102) l0_2.length c0_2] 75 (0,0)) aq2 k_ hk⟩) _ (Nat.le_refl _)) (Below.refl _ _) (Nat.le_refl _) (by simp) ?_;(case hd=>rfl);(case hg=>rfl);(case hr=>exact aq12);(case hp=>exact aq79);intro v138 w56 ho57 hb hg_ hnew_;clear hg_ hnew_;(first | rw [← Ny137.out] at ho57 | (simp only [Int.reduceToNat] at ho57;rw [← Ny137.out] at ho57));replace HO_5:=am (Kd.N_elder' aq14 (Kd.N_base ho57) hb);replace HO_8:=am (Kd.R_below aq20 hb);have HO139:=am (Kd.N_lower ho57 (below_size aq0));replace BK101:=am (bb BK101 hb);replace HB:=am (below_step aq0 hb);clear hb ho57;have q58:(x10_4:Int) ≤ ((x5_1.length:Int):Int):=of_decide_eq_true aq4;obtain ⟨i058,hi058,_,hsz58,_⟩:=info_parts info40;have hroom58:x5_1.length ≤ co55:=(Kd.N_reads' HO_5.out).2.1;have hC58:Kd.F (Kd.slice 3 (Kd.int .i64)) _ _ Ao55 x5_1.length x5_1:=(Kd.V_at (base:=w.heap.size) (Kd.N_V HO_5.out)).2.2;have hcut58:=cut_to (P:=Tryz.prog) 57 40 .i64 Tryz.underlying57 hi058 Ao55 x5_1.length co55 x10_4 (of_decide_eq_true aq4) q58 hroom58;have hr58:=Kd.F_take (m:=(x10_4:Int).toNat) hC58 o_m;have hy58:y140.length = (x10_4:Int).toNat:=(by rw [Ny140.out,List.length_take];omega);rw [← Ny140.out] at hr58;rw [← hy58] at hcut58;have HO144:=am (show Kd.V (Kd.slice 3 (Kd.int .i64)) 40 _ w.heap.size _ (.slice Ao55 y140.length co55) y140 from Kd.V_mk o_m hr58);have HC144:=am (show y140.length ≤ co55 from by omega);clear hr58 hC58 hroom58 hi058 hsz58;have KY58:=am hy58;clear hy58;replace q58:=eq_true q58) | ((with_reducible refine gate_builtin (b:=.append) (xs:=#[.tmp 65,.tmp 68]) rfl ?_);at_builtin;refine Kd.N_append_rows (Kd.slice 3 (Kd.int .i64)) (w0:=w) w.heap.size rfl (.tmp 65) (.tmp 68) 57 40 (.slice none 0 0) 24 rfl Tryz.underlying57 info40 rfl d_c o_m v138 y137 y140 _ _ _ (fun k_=>(w.heap.size ≤ k_) ∧ some k_ ≠ (u8:Value).ownBlock ∧ k_ ≠ gb101) (fun k_=>((fun k_=>(w.heap.size ≤ k_) ∧ some k_ ≠ (u8:Value).ownBlock ∧ k_ ≠ gb101)) k_ ∧ some k_ ≠ (v138:Value).ownBlock) rfl rfl ?aO ?aR (fun _ hk=>hk) ?aF ?aB ?aS ?aL ?_;(case aR=>exact (by skip;exact Kd.V_F (Kd.V_mono (ok':=(fun k_=>((fun k_=>(w.heap.size ≤ k_) ∧ some k_ ≠ (u8:Value).ownBlock ∧ k_ ≠ gb101)) k_ ∧ some k_ ≠ (v138:Value).ownBlock)) (HO144.out) (fun k_ hk=>⟨⟨hk.1.1,⟨hk.1.2.1,hk.1.2.2⟩⟩,hk.2⟩))));(case aB=>exact aq0);(case aF=>exact aq59);(case aO=>exact (by (with_reducible repeat (first | apply Kd.N_alloc | apply Kd.N_drewN | apply Kd.N_drew));exact Kd.N_mono HO139.out (fun _ hk=>⟨hk.1,⟨hk.2.2.1,hk.2.2.2⟩⟩)));(case aS=>exact aq51);(case aL=>have:=LMc50.out;omega);intro v146 w59 ho hb hg hat;rw [← Ny145.out] at ho;replace HO_5:=am (Kd.N_afterv (ok:=(fun k_=>(w.heap.size ≤ k_) ∧ some k_ ≠ (u8:Value).ownBlock ∧ k_ ≠ gb101)) aq14 hg hat);replace HO_8:=am (Kd.R_over' aq20 (Kd.N_typed (by (with_reducible repeat (first | apply Kd.N_alloc | apply Kd.N_drewN | apply Kd.N_drew));exact HO139.out)) d_c hg);replace BK101:=am (bg BK101 hg (Kd.N_ne HO139.out BK101.out d_c));replace HO144:=am (Kd.V_afterv (ok:=(fun k_=>(w.heap.size ≤ k_) ∧ some k_ ≠ (u8:Value).ownBlock ∧ k_ ≠ gb101)) (by (with_reducible repeat (first | apply Kd.V_alloc | apply Kd.V_drewN | apply Kd.V_drew));exact HO144.out) hg hat);replace HB:=am (hb);have HO147:=am (ho);clear HO139 ho hb hg hat;obtain ⟨Ao61,co61,eo61⟩:=Kd.R_slice HO_8.out;subst eo61) | ((with_reducible refine gate_builtin (b:=.append) (xs:=#[.tmp 69,.tmp 71]) rfl ?_);at_builtin;refine Kd.N_append (Kd.slice 3 (Kd.int .i64)) (w0:=w) w.heap.size rfl (.tmp 69) (.tmp 71) 57 40 (.slice none 0 0) 24 rfl Tryz.underlying57 info40 rfl d_c o_m v146 y145 x8_3 [.slice Ao61 x8_3.length co61] (fun k_=>(w.heap.size ≤ k_) ∧ k_ ≠ gb101) (fun k_=>((fun k_=>(w.heap.size ≤ k_) ∧ k_ ≠ gb101)) k_ ∧ some k_ ≠ (v146:Value).ownBlock) rfl rfl ?aP (fun _ hk=>hk) ?aF ?aO ?aB ?aS ?aL ?_;(case aP=>exact (Kd.FK_slice_mk (Kd.R_reads' (Kd.R_mono (ok':=(fun k_=>((fun k_=>(w.heap.size ≤ k_) ∧ k_ ≠ gb101)) k_ ∧ some k_ ≠ (v146:Value).ownBlock)) (Kd.R_types (Kd.R_apart' (HO_8.out) (Kd.N_typed HO147.out) d_c) BK101.out d_c) (fun k_ hk=>⟨⟨hk.1.1,hk.2⟩,hk.1.2⟩))).2.1 (Kd.R_F (Kd.R_mono (ok':=(fun k_=>((fun k_=>(w.heap.size ≤ k_) ∧ k_ ≠ gb101)) k_ ∧ some k_ ≠ (v146:Value).ownBlock)) (Kd.R_types (Kd.R_apart' (HO_8.out) (Kd.N_typed HO147.out) d_c) BK101.out d_c) (fun k_ hk=>⟨⟨hk.1.1,hk.2⟩,hk.1.2⟩)))));(case aB=>exact aq0);(case aF=>exact aq32);(case aO=>exact (by (with_reducible repeat (first | apply Kd.N_alloc | apply Kd.N_drewN | apply Kd.N_drew));exact Kd.N_mono HO147.out (fun _ hk=>⟨hk.1,hk.2.2⟩)));(case aS=>exact aq51);(case aL=>have:=LMc51.out;omega);intro v149 w60 ho hb hg hat;rw [← Ny148.out] at ho;replace HO_5:=am (Kd.N_afterv (ok:=(fun k_=>(w.heap.size ≤ k_) ∧ some k_ ≠ (.slice Ao61 x8_3.length co61:Value).ownBlock ∧ k_ ≠ gb101)) aq14 hg hat);replace BK101:=am (bg BK101 hg (Kd.N_ne HO147.out BK101.out d_c));replace HO144:=am (Kd.V_afterv (ok:=(fun k_=>(w.heap.size ≤ k_) ∧ some k_ ≠ (.slice Ao61 x8_3.length co61:Value).ownBlock ∧ k_ ≠ gb101)) (by (with_reducible repeat (first | apply Kd.V_alloc | apply Kd.V_drewN | apply Kd.V_drew));exact HO144.out) hg hat);replace HB:=am (hb);have HO150:=am (ho);clear HO147 HO_8 ho hb hg hat;have q62:(x10_4:Int) ≤ ((x5_1.length:Int):Int):=of_decide_eq_true aq4;obtain ⟨i062,hi062,_,hsz62,_⟩:=info_parts info40;have hroom62:x5_1.length ≤ co55:=(Kd.N_reads' HO_5.out).2.1;have hC62:Kd.F (Kd.slice 3 (Kd.int .i64)) _ _ Ao55 x5_1.length x5_1:=(Kd.V_at (base:=w.heap.size) (Kd.N_V HO_5.out)).2.2;have q062:(0:Int) ≤ (x10_4:Int):=of_decide_eq_true aq4;have hcut62:=cut_from (P:=Tryz.prog) 57 40 .i64 Tryz.underlying57 hi062 1 hsz62 Ao55 x5_1.length co55 x10_4 q062 q62;have hr62:=Kd.F_cut (m:=(x10_4:Int).toNat) (c:=co55) hC62 o_m hroom62;obtain ⟨A62,hA62⟩:∃ A1,A1 = (if co55 = (x10_4:Int).toNat then Ao55 else (Ao55:Option Addr).map (·.add ((x10_4:Int).toNat * 1))):=⟨_,rfl⟩;obtain ⟨c62,hc62⟩:∃ c1,c1 = co55 - (x10_4:Int).toNat:=⟨_,rfl⟩;have hy62:y151.length = x5_1.length - (x10_4:Int).toNat:=(by rw [Ny151.out,List.length_drop] <;> omega);rw [show (x5_1).drop (x10_4:Int).toNat = y151 from Ny151.out.symm] at hr62;replace hr62:Kd.F (Kd.slice 3 (Kd.int .i64)) _ _ A62 y151.length y151:=(by rw [hA62];exact hr62);rw [← hy62,← hA62,← hc62] at hcut62;have HO155:=am (show Kd.V (Kd.slice 3 (Kd.int .i64)) 40 _ w.heap.size _ (.slice A62 y151.length c62) y151 from Kd.V_mk (by rw [hy62,hc62];exact Nat.sub_le_sub_right hroom62 _) hr62);have HC155:=am (show y151.length ≤ c62 from by rw [hy62,hc62];exact Nat.sub_le_sub_right hroom62 _);clear hr62 hC62 hroom62 hi062 hsz62 hc62;have KY62:=am hy62;have KA62:=am hA62;clear hy62 hA62;replace q62:=eq_true q62) | ((with_reducible refine gate_builtin (b:=.append) (xs:=#[.tmp 73,.tmp 76]) rfl ?_);at_builtin;refine Kd.N_append_rows (Kd.slice 3 (Kd.int .i64)) (w0:=w) w.heap.size rfl (.tmp 73) (.tmp 76) 57 40 (.slice none 0 0) 24 rfl Tryz.underlying57 info40 rfl d_c o_m v149 y148 y151 _ _ _ (fun k_=>(w.heap.size ≤ k_) ∧ k_ ≠ gb101) (fun k_=>((fun k_=>(w.heap.size ≤ k_) ∧ k_ ≠ gb101)) k_ ∧ some k_ ≠ (v149:Value).ownBlock) rfl rfl ?aO ?aR (fun _ hk=>hk) ?aF ?aB ?aS ?aL ?_;(case aR=>exact (by skip;exact Kd.V_F (Kd.V_mono (ok':=(fun k_=>((fun k_=>(w.heap.size ≤ k_) ∧ k_ ≠ gb101)) k_ ∧ some k_ ≠ (v149:Value).ownBlock)) (HO155.out) (fun k_ hk=>⟨⟨hk.1.1,hk.1.2.2⟩,hk.2⟩))));(case aB=>exact aq0);(case aF=>exact aq32);(case aO=>exact (by (with_reducible repeat (first | apply Kd.N_alloc | apply Kd.N_drewN | apply Kd.N_drew));exact HO150.out));(case aS=>exact aq51);(case aL=>have:=LMc54.out;omega);intro v157 w63 ho hb hg hat;rw [← Ny156.out] at ho;replace HO_5:=am (Kd.N_afterv (ok:=(fun k_=>(w.heap.size ≤ k_) ∧ k_ ≠ gb101)) aq73 hg hat);replace BK101:=am (bg BK101 hg (Kd.N_ne HO150.out BK101.out d_c));replace HO144:=am (Kd.V_afterv (ok:=(fun k_=>(w.heap.size ≤ k_) ∧ k_ ≠ gb101)) (by (with_reducible repeat (first | apply Kd.V_alloc | apply Kd.V_drewN | apply Kd.V_drew));exact Kd.V_mono HO144.out (fun _ hk=>⟨⟨hk.1.1,hk.1.2.2⟩,hk.2⟩)) hg hat);replace HO155:=am (Kd.V_afterv (ok:=(fun k_=>(w.heap.size ≤ k_) ∧ k_ ≠ gb101)) (by (with_reducible repeat (first | apply Kd.V_alloc | apply Kd.V_drewN | apply Kd.V_drew));exact Kd.V_mono HO155.out (fun _ hk=>⟨⟨hk.1.1,hk.1.2.2⟩,hk.2⟩)) hg hat);replace HB:=am (hb);have HO158:=am (ho);clear HO150 ho hb hg hat))
          go_roundg k4
          case measure=>have:=HK1.out;have:=HJ7.out;have:=HK3.out;have:=HK4.out;omega
          case rel=>exact ⟨(y156),(wrap64 (x15_1 + 1)),aq6,H',⟨aq74⟩,⟨by (with_reducible repeat (first | apply Kd.N_alloc | apply Kd.N_drewN | apply Kd.N_drew));exact HO158.out⟩,⟨aq2⟩,⟨aq0⟩⟩
         rw [if_pos c25] at H
         have c25b0:=decide_eq_true c25
         clear c25
         replace H:=gd H
         obtain ⟨c26,H⟩:=H
         have c26b0:=decide_eq_true c26
         clear c26
         obtain ⟨t113,A27,H⟩:=bn H
         obtain ⟨t114,A28,H⟩:=bn H
         by_cases c29:t113 < t114
         ·rw [if_pos c29] at H
          have c29b0:=decide_eq_true c29
          clear c29
          have H':=am H
          clear H
          obtain ⟨Ao30,co30,eo30⟩:=Kd.N_slice HO_5.out
          subst eo30
          have p112:0 ≤ (x10_4:Int):=of_decide_eq_true aq4
          have q112:x10_4 < (x5_1.length:Int):=of_decide_eq_true aq4
          obtain ⟨ad112,A112_0,c112_0,e112,hx112_0,hl112_0,hi112_0⟩:=at_L3 (Kd.N_reads' HO_5.out).2.2 x10_4 p112 q112
          cases e112
          obtain ⟨ce112,hce112,hMe112,hcc112⟩:=Kd.N_get HO_5.out [] x10_4 p112 (by first | exact q112 | exact of_decide_eq_true aq4 | (have e_:=(Kd.N_reads' HO_5.out).1;omega))
          obtain ⟨ua112_0,uc112_0,rfl,ul112_0,ge112_0⟩:=Kd.FK_slice_open hMe112
          have hv112_0:=hcc112 0 _ rfl
          rw [Nat.add_zero,show ((Kd.slice 3 (Kd.int .i64))).sz = 1 from rfl,Nat.mul_one] at hv112_0
          replace hv112_0:=Option.some.inj (hv112_0.symm.trans hx112_0)
          injection hv112_0 with hva_ hvn_ hvc_
          rw [hva_] at ge112_0
          rw [hvc_] at ul112_0
          have HL112_0:=am (show Kd.V (Kd.int .i64) 3 _ w.heap.size _ _ (rd_L3 x5_1 x10_4) from Kd.V_mk ul112_0 ge112_0)
          clear hva_ hvn_ hvc_ ge112_0 ul112_0 hcc112 hce112
          have HR112_0:=am hi112_0
          have HC112_0:=am hl112_0
          clear hi112_0 hl112_0
          replace p112:=eq_true p112
          replace q112:=eq_true q112
          go_wp2_with (first | (go_at_call 161;(with_reducible refine (spec_tiFirst.calls k4 _ _ (rd_L3 x5_1 x10_4) t113 _ ?side1 ?side2 A27.out).mono ?_);(case side1=>exact aq80);(case side2=>exact HC112_0.out);rintro e w' ⟨rfl,⟨nd,rfl⟩⟩;obtain ⟨Ao31,co31,eo31⟩:=Kd.R_slice HO_8.out;subst eo31) | (go_at_call 161;(with_reducible refine (spec_tiFirst.calls k4 _ _ x8_3 t114 _ ?side1 ?side2 A28.out).mono ?_);(case side1=>exact aq69);(case side2=>exact (Kd.R_reads' HO_8.out).2.1);rintro e w' ⟨rfl,⟨nd,rfl⟩⟩))
          go_roundg k4
          case measure=>have:=HK1.out;have:=HJ7.out;have:=HK3.out;have:=HK4.out;omega
          case rel=>exact ⟨(wrap64 (x10_4 + 1)),aq6,H',⟨aq74⟩,⟨aq14⟩,⟨aq20⟩,⟨aq2⟩,⟨aq0⟩⟩
         rw [if_neg c29] at H
         have c29b0:=decide_eq_false c29
         clear c29
         obtain ⟨y115,hy_⟩:∃ y_:List (List Int),y_ = (([]:List (List Int))):=⟨_,rfl⟩
         replace H:(if x10_4 ≤ (x5_1.length:Int) then ((some (x5_1.take (x10_4:Int).toNat:List (List Int))).bind fun y118=>(if y115.length + y118.length < 5864062014805 then ((some (y115 ++ y118:List (List Int))).bind fun y123=>(if y123.length < 5864062014805 then ((some (y123 ++ [x8_3]:List (List Int))).bind fun y126=>((some (x5_1.drop (x10_4:Int).toNat:List (List Int))).bind fun y129=>(if y126.length + y129.length < 5864062014805 then (spec_tiStretches.l0 k4 a1 (y126 ++ y129) l0_2 (l0_2.length:Int) (wrap64 (x15_1 + 1)) a0_0 a0_1 l0_2) else (none)))) else (none))) else (none))) else (none)) = some r:=aq3
         have Ny115:=am hy_
         clear hy_
         have c32b0:=eq_true (of_decide_eq_true aq4:0 ≤ x10_4)
         replace H:=gd H
         obtain ⟨c33,H⟩:=H
         have c33b0:=eq_true c33
         have c33b1:=decide_eq_true c33
         clear c33
         obtain ⟨y118,hy_⟩:∃ y_:List (List Int),y_ = (x5_1.take (x10_4:Int).toNat):=⟨_,rfl⟩
         replace H:(if y115.length + y118.length < 5864062014805 then ((some (y115 ++ y118:List (List Int))).bind fun y123=>(if y123.length < 5864062014805 then ((some (y123 ++ [x8_3]:List (List Int))).bind fun y126=>((some (x5_1.drop (x10_4:Int).toNat:List (List Int))).bind fun y129=>(if y126.length + y129.length < 5864062014805 then (spec_tiStretches.l0 k4 a1 (y126 ++ y129) l0_2 (l0_2.length:Int) (wrap64 (x15_1 + 1)) a0_0 a0_1 l0_2) else (none)))) else (none))) else (none)) = some r:=aq3
         have Ny118:=am hy_
         clear hy_
         replace H:=gd H
         obtain ⟨c34,H⟩:=H
         have LMc34:=am c34
         clear c34
         obtain ⟨y123,hy_⟩:∃ y_:List (List Int),y_ = (y115 ++ y118):=⟨_,rfl⟩
         replace H:(if y123.length < 5864062014805 then ((some (y123 ++ [x8_3]:List (List Int))).bind fun y126=>((some (x5_1.drop (x10_4:Int).toNat:List (List Int))).bind fun y129=>(if y126.length + y129.length < 5864062014805 then (spec_tiStretches.l0 k4 a1 (y126 ++ y129) l0_2 (l0_2.length:Int) (wrap64 (x15_1 + 1)) a0_0 a0_1 l0_2) else (none)))) else (none)) = some r:=aq3
         have Ny123:=am hy_
         clear hy_
         replace H:=gd H
         obtain ⟨c35,H⟩:=H
         have LMc35:=am c35
         clear c35
         obtain ⟨y126,hy_⟩:∃ y_:List (List Int),y_ = (y123 ++ [x8_3]):=⟨_,rfl⟩
         replace H:((some (x5_1.drop (x10_4:Int).toNat:List (List Int))).bind fun y129=>(if y126.length + y129.length < 5864062014805 then (spec_tiStretches.l0 k4 a1 (y126 ++ y129) l0_2 (l0_2.length:Int) (wrap64 (x15_1 + 1)) a0_0 a0_1 l0_2) else (none))) = some r:=aq3
         have Ny126:=am hy_
         clear hy_
         have c36b0:=eq_true (of_decide_eq_true aq4:0 ≤ x10_4)
         have c37b0:=eq_true (of_decide_eq_true aq4:x10_4 ≤ (x5_1.length:Int))
         obtain ⟨y129,hy_⟩:∃ y_:List (List Int),y_ = (x5_1.drop (x10_4:Int).toNat):=⟨_,rfl⟩
         replace H:(if y126.length + y129.length < 5864062014805 then (spec_tiStretches.l0 k4 a1 (y126 ++ y129) l0_2 (l0_2.length:Int) (wrap64 (x15_1 + 1)) a0_0 a0_1 l0_2) else (none)) = some r:=aq3
         have Ny129:=am hy_
         clear hy_
         replace H:=gd H
         obtain ⟨c38,H⟩:=H
         have LMc38:=am c38
         clear c38
         obtain ⟨y134,hy_⟩:∃ y_:List (List Int),y_ = (y126 ++ y129):=⟨_,rfl⟩
         replace H:(spec_tiStretches.l0 k4 a1 y134 l0_2 (l0_2.length:Int) (wrap64 (x15_1 + 1)) a0_0 a0_1 l0_2) = some r:=aq3
         have Ny134:=am hy_
         clear hy_
         have H':=am H
         clear H
         obtain ⟨Ao39,co39,eo39⟩:=Kd.N_slice HO_5.out
         subst eo39
         have p112:0 ≤ (x10_4:Int):=of_decide_eq_true aq4
         have q112:x10_4 < (x5_1.length:Int):=of_decide_eq_true aq4
         obtain ⟨ad112,A112_0,c112_0,e112,hx112_0,hl112_0,hi112_0⟩:=at_L3 (Kd.N_reads' HO_5.out).2.2 x10_4 p112 q112
         cases e112
         obtain ⟨ce112,hce112,hMe112,hcc112⟩:=Kd.N_get HO_5.out [] x10_4 p112 (by first | exact q112 | exact of_decide_eq_true aq4 | (have e_:=(Kd.N_reads' HO_5.out).1;omega))
         obtain ⟨ua112_0,uc112_0,rfl,ul112_0,ge112_0⟩:=Kd.FK_slice_open hMe112
         have hv112_0:=hcc112 0 _ rfl
         rw [Nat.add_zero,show ((Kd.slice 3 (Kd.int .i64))).sz = 1 from rfl,Nat.mul_one] at hv112_0
         replace hv112_0:=Option.some.inj (hv112_0.symm.trans hx112_0)
         injection hv112_0 with hva_ hvn_ hvc_
         rw [hva_] at ge112_0
         rw [hvc_] at ul112_0
         have HL112_0:=am (show Kd.V (Kd.int .i64) 3 _ w.heap.size _ _ (rd_L3 x5_1 x10_4) from Kd.V_mk ul112_0 ge112_0)
         clear hva_ hvn_ hvc_ ge112_0 ul112_0 hcc112 hce112
         have HR112_0:=am hi112_0
         have HC112_0:=am hl112_0
         clear hi112_0 hl112_0
         replace p112:=eq_true p112
         replace q112:=eq_true q112
         go_wp2_with (first | (go_at_call 161;(with_reducible refine (spec_tiFirst.calls k4 _ _ (rd_L3 x5_1 x10_4) t113 _ ?side1 ?side2 A27.out).mono ?_);(case side1=>exact aq80);(case side2=>exact HC112_0.out);rintro e w' ⟨rfl,⟨nd,rfl⟩⟩;obtain ⟨Ao40,co40,eo40⟩:=Kd.R_slice HO_8.out;subst eo40) | (go_at_call 161;(with_reducible refine (spec_tiFirst.calls k4 _ _ x8_3 t114 _ ?side1 ?side2 A28.out).mono ?_);(case side1=>exact aq69);(case side2=>exact (Kd.R_reads' HO_8.out).2.1);rintro e w' ⟨rfl,⟨nd,rfl⟩⟩) | ((with_reducible refine gate_dst (N:=65) rfl ?_);refine Kd.N_lit (Kd.slice 3 (Kd.int .i64)) _ 40 ?hg (N':=65) ?hd (xs:=([]:List (List Int))) (inner:=[]) (ok:=(fun k_=>(w.heap.size ≤ k_) ∧ some k_ ≠ (.slice (some ad112) x5_1.length co39:Value).ownBlock ∧ some k_ ≠ (.slice Ao40 x8_3.length co40:Value).ownBlock ∧ k_ ≠ gb101)) (okp:=(fun k_=>(w.heap.size ≤ k_) ∧ some k_ ≠ (.slice (some ad112) x5_1.length co39:Value).ownBlock ∧ some k_ ≠ (.slice Ao40 x8_3.length co40:Value).ownBlock ∧ k_ ≠ gb101)) ?hr ?hp (fun _ hk=>hk) ((show ∀ k_,wr.heap.size ≤ k_ → (fun k_=>(w.heap.size ≤ k_) ∧ some k_ ≠ (.slice (some ad112) x5_1.length co39:Value).ownBlock ∧ some k_ ≠ (.slice Ao40 x8_3.length co40:Value).ownBlock ∧ k_ ≠ gb101) k_ from fun k_ hk=>⟨(Nat.le_trans (below_size aq0) hk),Kd.fresh' (Kd.N_lt aq14) k_ hk,Kd.fresh' (Kd.R_lt aq20) k_ hk,Kd.freshB (g:=gb101) (o:=.cells #[.int .i64 a0_0,.int .i64 a0_1,.slice (some ad102) l0_2.length c0_2] 75 (0,0)) aq2 k_ hk⟩) _ (Nat.le_refl _)) (Below.refl _ _) (Nat.le_refl _) (by simp) ?_;(case hd=>rfl);(case hg=>rfl);(case hr=>exact aq12);(case hp=>exact aq79);intro v116 w41 ho42 hb hg_ hnew_;clear hg_ hnew_;(first | rw [← Ny115.out] at ho42 | (simp only [Int.reduceToNat] at ho42;rw [← Ny115.out] at ho42));replace HO_5:=am (Kd.N_elder' aq14 (Kd.N_base ho42) hb);replace HO_8:=am (Kd.R_below aq20 hb);replace HL112_0:=am (Kd.V_elder' (by (with_reducible repeat (first | apply Kd.V_alloc | apply Kd.V_drewN | apply Kd.V_drew));exact HL112_0.out) (Kd.N_base ho42) hb);have HO117:=am (Kd.N_lower ho42 (below_size aq0));replace BK101:=am (bb BK101 hb);replace HR112_0:=am (Kd.C_below aq41 hb);replace HB:=am (below_step aq0 hb);clear hb ho42;have q43:(x10_4:Int) ≤ ((x5_1.length:Int):Int):=of_decide_eq_true aq4;obtain ⟨i043,hi043,_,hsz43,_⟩:=info_parts info40;have hroom43:x5_1.length ≤ co39:=(Kd.N_reads' HO_5.out).2.1;have hC43:Kd.F (Kd.slice 3 (Kd.int .i64)) _ _ (some ad112) x5_1.length x5_1:=(Kd.V_at (base:=w.heap.size) (Kd.N_V HO_5.out)).2.2;have hcut43:=cut_to (P:=Tryz.prog) 57 40 .i64 Tryz.underlying57 hi043 (some ad112) x5_1.length co39 x10_4 (of_decide_eq_true aq4) q43 hroom43;have hr43:=Kd.F_take (m:=(x10_4:Int).toNat) hC43 o_m;have hy43:y118.length = (x10_4:Int).toNat:=(by rw [Ny118.out,List.length_take];omega);rw [← Ny118.out] at hr43;rw [← hy43] at hcut43;have HO122:=am (show Kd.V (Kd.slice 3 (Kd.int .i64)) 40 _ w.heap.size _ (.slice (some ad112) y118.length co39) y118 from Kd.V_mk o_m hr43);have HC122:=am (show y118.length ≤ co39 from by omega);clear hr43 hC43 hroom43 hi043 hsz43;have KY43:=am hy43;clear hy43;replace q43:=eq_true q43) | ((with_reducible refine gate_builtin (b:=.append) (xs:=#[.tmp 65,.tmp 68]) rfl ?_);at_builtin;refine Kd.N_append_rows (Kd.slice 3 (Kd.int .i64)) (w0:=w) w.heap.size rfl (.tmp 65) (.tmp 68) 57 40 (.slice none 0 0) 24 rfl Tryz.underlying57 info40 rfl d_c o_m v116 y115 y118 _ _ _ (fun k_=>(w.heap.size ≤ k_) ∧ some k_ ≠ (.slice Ao40 x8_3.length co40:Value).ownBlock ∧ k_ ≠ gb101) (fun k_=>((fun k_=>(w.heap.size ≤ k_) ∧ some k_ ≠ (.slice Ao40 x8_3.length co40:Value).ownBlock ∧ k_ ≠ gb101)) k_ ∧ some k_ ≠ (v116:Value).ownBlock) rfl rfl ?aO ?aR (fun _ hk=>hk) ?aF ?aB ?aS ?aL ?_;(case aR=>exact (by skip;exact Kd.V_F (Kd.V_mono (ok':=(fun k_=>((fun k_=>(w.heap.size ≤ k_) ∧ some k_ ≠ (.slice Ao40 x8_3.length co40:Value).ownBlock ∧ k_ ≠ gb101)) k_ ∧ some k_ ≠ (v116:Value).ownBlock)) (HO122.out) (fun k_ hk=>⟨⟨hk.1.1,⟨hk.1.2.1,hk.1.2.2⟩⟩,hk.2⟩))));(case aB=>exact aq0);(case aF=>exact aq59);(case aO=>exact (by (with_reducible repeat (first | apply Kd.N_alloc | apply Kd.N_drewN | apply Kd.N_drew));exact Kd.N_mono HO117.out (fun _ hk=>⟨hk.1,⟨hk.2.2.1,hk.2.2.2⟩⟩)));(case aS=>exact aq51);(case aL=>have:=LMc34.out;omega);intro v124 w44 ho hb hg hat;rw [← Ny123.out] at ho;replace HO_5:=am (Kd.N_afterv (ok:=(fun k_=>(w.heap.size ≤ k_) ∧ some k_ ≠ (.slice Ao40 x8_3.length co40:Value).ownBlock ∧ k_ ≠ gb101)) aq14 hg hat);replace HO_8:=am (Kd.R_over' aq20 (Kd.N_typed (by (with_reducible repeat (first | apply Kd.N_alloc | apply Kd.N_drewN | apply Kd.N_drew));exact HO117.out)) d_c hg);replace BK101:=am (bg BK101 hg (Kd.N_ne HO117.out BK101.out d_c));replace HL112_0:=am (Kd.V_afterv (ok:=(fun k_=>(w.heap.size ≤ k_) ∧ some k_ ≠ (.slice (some ad112) x5_1.length co39:Value).ownBlock ∧ some k_ ≠ (.slice Ao40 x8_3.length co40:Value).ownBlock ∧ k_ ≠ gb101)) (by (with_reducible repeat (first | apply Kd.V_alloc | apply Kd.V_drewN | apply Kd.V_drew));exact Kd.V_mono HL112_0.out (fun _ hk=>⟨⟨hk.1.1.1,⟨hk.1.2,⟨hk.1.1.2.1,hk.1.1.2.2⟩⟩⟩,hk.2⟩)) hg hat);replace HO122:=am (Kd.V_afterv (ok:=(fun k_=>(w.heap.size ≤ k_) ∧ some k_ ≠ (.slice Ao40 x8_3.length co40:Value).ownBlock ∧ k_ ≠ gb101)) (by (with_reducible repeat (first | apply Kd.V_alloc | apply Kd.V_drewN | apply Kd.V_drew));exact HO122.out) hg hat);replace HB:=am (hb);have HO125:=am (ho);clear HO117 ho hb hg hat) | ((with_reducible refine gate_builtin (b:=.append) (xs:=#[.tmp 69,.tmp 71]) rfl ?_);at_builtin;refine Kd.N_append (Kd.slice 3 (Kd.int .i64)) (w0:=w) w.heap.size rfl (.tmp 69) (.tmp 71) 57 40 (.slice none 0 0) 24 rfl Tryz.underlying57 info40 rfl d_c o_m v124 y123 x8_3 [.slice Ao40 x8_3.length co40] (fun k_=>(w.heap.size ≤ k_) ∧ k_ ≠ gb101) (fun k_=>((fun k_=>(w.heap.size ≤ k_) ∧ k_ ≠ gb101)) k_ ∧ some k_ ≠ (v124:Value).ownBlock) rfl rfl ?aP (fun _ hk=>hk) ?aF ?aO ?aB ?aS ?aL ?_;(case aP=>exact (Kd.FK_slice_mk (Kd.R_reads' (Kd.R_mono (ok':=(fun k_=>((fun k_=>(w.heap.size ≤ k_) ∧ k_ ≠ gb101)) k_ ∧ some k_ ≠ (v124:Value).ownBlock)) (Kd.R_types (Kd.R_apart' (HO_8.out) (Kd.N_typed HO125.out) d_c) BK101.out d_c) (fun k_ hk=>⟨⟨hk.1.1,hk.2⟩,hk.1.2⟩))).2.1 (Kd.R_F (Kd.R_mono (ok':=(fun k_=>((fun k_=>(w.heap.size ≤ k_) ∧ k_ ≠ gb101)) k_ ∧ some k_ ≠ (v124:Value).ownBlock)) (Kd.R_types (Kd.R_apart' (HO_8.out) (Kd.N_typed HO125.out) d_c) BK101.out d_c) (fun k_ hk=>⟨⟨hk.1.1,hk.2⟩,hk.1.2⟩)))));(case aB=>exact aq0);(case aF=>exact aq32);(case aO=>exact (by (with_reducible repeat (first | apply Kd.N_alloc | apply Kd.N_drewN | apply Kd.N_drew));exact Kd.N_mono HO125.out (fun _ hk=>⟨hk.1,hk.2.2⟩)));(case aS=>exact aq51);(case aL=>have:=LMc35.out;omega);intro v127 w45 ho hb hg hat;rw [← Ny126.out] at ho;replace HO_5:=am (Kd.N_afterv (ok:=(fun k_=>(w.heap.size ≤ k_) ∧ some k_ ≠ (.slice Ao40 x8_3.length co40:Value).ownBlock ∧ k_ ≠ gb101)) aq14 hg hat);replace BK101:=am (bg BK101 hg (Kd.N_ne HO125.out BK101.out d_c));replace HL112_0:=am (Kd.V_afterv (ok:=(fun k_=>(w.heap.size ≤ k_) ∧ some k_ ≠ (.slice (some ad112) x5_1.length co39:Value).ownBlock ∧ some k_ ≠ (.slice Ao40 x8_3.length co40:Value).ownBlock ∧ k_ ≠ gb101)) (by (with_reducible repeat (first | apply Kd.V_alloc | apply Kd.V_drewN | apply Kd.V_drew));exact HL112_0.out) hg hat);replace HO122:=am (Kd.V_afterv (ok:=(fun k_=>(w.heap.size ≤ k_) ∧ some k_ ≠ (.slice Ao40 x8_3.length co40:Value).ownBlock ∧ k_ ≠ gb101)) (by (with_reducible repeat (first | apply Kd.V_alloc | apply Kd.V_drewN | apply Kd.V_drew));exact HO122.out) hg hat);replace HB:=am (hb);have HO128:=am (ho);clear HO125 HO_8 ho hb hg hat;have q46:(x10_4:Int) ≤ ((x5_1.length:Int):Int):=of_decide_eq_true aq4;obtain ⟨i046,hi046,_,hsz46,_⟩:=info_parts info40;have hroom46:x5_1.length ≤ co39:=(Kd.N_reads' HO_5.out).2.1;have hC46:Kd.F (Kd.slice 3 (Kd.int .i64)) _ _ (some ad112) x5_1.length x5_1:=(Kd.V_at (base:=w.heap.size) (Kd.N_V HO_5.out)).2.2;have q046:(0:Int) ≤ (x10_4:Int):=of_decide_eq_true aq4;have hcut46:=cut_from (P:=Tryz.prog) 57 40 .i64 Tryz.underlying57 hi046 1 hsz46 (some ad112) x5_1.length co39 x10_4 q046 q46;have hr46:=Kd.F_cut (m:=(x10_4:Int).toNat) (c:=co39) hC46 o_m hroom46;obtain ⟨A46,hA46⟩:∃ A1,A1 = (if co39 = (x10_4:Int).toNat then (some ad112) else ((some ad112):Option Addr).map (·.add ((x10_4:Int).toNat * 1))):=⟨_,rfl⟩;obtain ⟨c46,hc46⟩:∃ c1,c1 = co39 - (x10_4:Int).toNat:=⟨_,rfl⟩;have hy46:y129.length = x5_1.length - (x10_4:Int).toNat:=(by rw [Ny129.out,List.length_drop] <;> omega);rw [show (x5_1).drop (x10_4:Int).toNat = y129 from Ny129.out.symm] at hr46;replace hr46:Kd.F (Kd.slice 3 (Kd.int .i64)) _ _ A46 y129.length y129:=(by rw [hA46];exact hr46);rw [← hy46,← hA46,← hc46] at hcut46;have HO133:=am (show Kd.V (Kd.slice 3 (Kd.int .i64)) 40 _ w.heap.size _ (.slice A46 y129.length c46) y129 from Kd.V_mk (by rw [hy46,hc46];exact Nat.sub_le_sub_right hroom46 _) hr46);have HC133:=am (show y129.length ≤ c46 from by rw [hy46,hc46];exact Nat.sub_le_sub_right hroom46 _);clear hr46 hC46 hroom46 hi046 hsz46 hc46;have KY46:=am hy46;have KA46:=am hA46;clear hy46 hA46;replace q46:=eq_true q46) | ((with_reducible refine gate_builtin (b:=.append) (xs:=#[.tmp 73,.tmp 76]) rfl ?_);at_builtin;refine Kd.N_append_rows (Kd.slice 3 (Kd.int .i64)) (w0:=w) w.heap.size rfl (.tmp 73) (.tmp 76) 57 40 (.slice none 0 0) 24 rfl Tryz.underlying57 info40 rfl d_c o_m v127 y126 y129 _ _ _ (fun k_=>(w.heap.size ≤ k_) ∧ k_ ≠ gb101) (fun k_=>((fun k_=>(w.heap.size ≤ k_) ∧ k_ ≠ gb101)) k_ ∧ some k_ ≠ (v127:Value).ownBlock) rfl rfl ?aO ?aR (fun _ hk=>hk) ?aF ?aB ?aS ?aL ?_;(case aR=>exact (by skip;exact Kd.V_F (Kd.V_mono (ok':=(fun k_=>((fun k_=>(w.heap.size ≤ k_) ∧ k_ ≠ gb101)) k_ ∧ some k_ ≠ (v127:Value).ownBlock)) (HO133.out) (fun k_ hk=>⟨⟨hk.1.1,hk.1.2.2⟩,hk.2⟩))));(case aB=>exact aq0);(case aF=>exact aq32);(case aO=>exact (by (with_reducible repeat (first | apply Kd.N_alloc | apply Kd.N_drewN | apply Kd.N_drew));exact HO128.out));(case aS=>exact aq51);(case aL=>have:=LMc38.out;omega);intro v135 w47 ho hb hg hat;rw [← Ny134.out] at ho;replace HO_5:=am (Kd.N_afterv (ok:=(fun k_=>(w.heap.size ≤ k_) ∧ k_ ≠ gb101)) aq73 hg hat);replace BK101:=am (bg BK101 hg (Kd.N_ne HO128.out BK101.out d_c));replace HL112_0:=am (Kd.V_afterv (ok:=(fun k_=>(w.heap.size ≤ k_) ∧ some k_ ≠ (.slice (some ad112) x5_1.length co39:Value).ownBlock ∧ k_ ≠ gb101)) (by (with_reducible repeat (first | apply Kd.V_alloc | apply Kd.V_drewN | apply Kd.V_drew));exact Kd.V_mono HL112_0.out (fun _ hk=>⟨⟨hk.1.1,⟨hk.1.2.1,hk.1.2.2.2⟩⟩,hk.2⟩)) hg hat);replace HO122:=am (Kd.V_afterv (ok:=(fun k_=>(w.heap.size ≤ k_) ∧ k_ ≠ gb101)) (by (with_reducible repeat (first | apply Kd.V_alloc | apply Kd.V_drewN | apply Kd.V_drew));exact Kd.V_mono HO122.out (fun _ hk=>⟨⟨hk.1.1,hk.1.2.2⟩,hk.2⟩)) hg hat);replace HO133:=am (Kd.V_afterv (ok:=(fun k_=>(w.heap.size ≤ k_) ∧ k_ ≠ gb101)) (by (with_reducible repeat (first | apply Kd.V_alloc | apply Kd.V_drewN | apply Kd.V_drew));exact Kd.V_mono HO133.out (fun _ hk=>⟨⟨hk.1.1,hk.1.2.2⟩,hk.2⟩)) hg hat);replace HB:=am (hb);have HO136:=am (ho);clear HO128 ho hb hg hat))
         go_roundg k4
         case measure=>have:=HK1.out;have:=HJ7.out;have:=HK3.out;have:=HK4.out;omega
         case rel=>exact ⟨(y134),(wrap64 (x15_1 + 1)),aq6,H',⟨aq74⟩,⟨by (with_reducible repeat (first | apply Kd.N_alloc | apply Kd.N_drewN | apply Kd.N_drew));exact HO136.out⟩,⟨aq2⟩,⟨aq0⟩⟩
end Go.Proofs.YtldhkbiomingbaaGreatDoor.F

namespace Go.Proofs.YtldhkbiomingbaaGreatDoor
open Go.RowKit Go.YW.PrintWords Go.YW.PrintMore Go.Proofs.YtldhkbiomingbaaGreatDoor.F
theorem rd_cast (l:List Nat) (i:Nat) (h:i < l.length):rd (castsI l) (i:Int) = ((l[i]'h:Nat):Int):=by
 unfold rd
 rw [Int.toNat_natCast,List.getD_eq_getElem?_getD,castsI_getD l i h];rfl
theorem casts_app (a b:List Nat):castsI (a ++ b) = castsI a ++ castsI b:=by simp [castsI]
theorem casts_one (i:Nat):castsI [i] = [((i:Nat):Int)]:=rfl
theorem least_ev (x y:Nat):spec_l1Least.f (x:Int) (y:Int) = some ((Nat.min x y:Nat):Int):=by
 unfold spec_l1Least.f
 by_cases h:x < y
 rotate_left
 ·rw [if_neg o_m,show Nat.min x y = y from Nat.min_eq_right o_m]
 rw [if_pos o_m,show Nat.min x y = x from Nat.min_eq_left o_m]
theorem tiFirst_l0 (L:List Nat) (hL:L.length < 1000000):∀ (n i m:Nat),i + n = L.length → Ev (fun k=>spec_tiFirst.l0 k (m:Int) (castsI L) (L.length:Int) (i:Int)) (((L.drop i).foldl Nat.min m:Nat):Int)
 | 0,i,m,h=>by
  refine Ev.step (f:=fun _=>some (m:Int)) (fun k=>by rw [spec_tiFirst.l0,if_neg o_m]) ?_
  rw [List.drop_eq_nil_of_le o_m]
  exact Ev.now _
 | n + 1,i,m,h=>by
  have hi:i < L.length:=by omega
  have hw:wrap64 ((i:Int) + 1) = ((i + 1:Nat):Int):=by rw [w64 o_m o_m];rfl
  refine Ev.step (f:=fun k=>spec_tiFirst.l0 k ((Nat.min m (L[i]'hi):Nat):Int) (castsI L) (L.length:Int) ((i + 1:Nat):Int)) (fun k=>by
   rw [spec_tiFirst.l0,if_pos o_m,if_pos o_m,castsI_length,if_pos o_m,rd_cast L i hi,least_ev,Option.bind_some,hw]) ?_
  rw [List.drop_eq_getElem_cons hi,List.foldl_cons]
  exact tiFirst_l0 L hL n (i + 1) _ o_m
theorem tiFirst_ev {L:List Nat} (hne:L ≠ []) (hL:L.length < 1000000):Ev (fun k=>spec_tiFirst.f k (castsI L)) ((leastL L:Nat):Int):=by
 obtain ⟨a,t,rfl⟩:∃ a t,L = a :: t:=by cases L with | nil=>exact absurd rfl hne | cons a t=>exact ⟨a,t,rfl⟩
 have h0:=tiFirst_l0 (a :: t) hL (a :: t).length 0 a o_m
 have e:((a :: t).drop 0).foldl Nat.min a = leastL (a :: t):=by
  rw [List.drop_zero,List.foldl_cons,show Nat.min a a = a from Nat.min_self a];rfl
 rw [e] at h0
 refine Ev.congr (fun k=>?_) h0
 unfold spec_tiFirst.f
 rw [castsI_length,if_pos (by simp only [List.length_cons];omega),show rd (castsI (a :: t)) 0 = (a:Int) from rfl];rfl
theorem tyCell_eq {w h:Nat} (hw:1 ≤ w ∧ w ≤ 7) (hh:1 ≤ h ∧ h ≤ 7) (cs:List Int) (X Y:Int):spec_tyCell.f w h cs X Y = some (decide ((0 ≤ X ∧ X < (w:Int)) ∧ 0 ≤ Y ∧ Y < (h:Int))):=by
 unfold spec_tyCell.f spec_l1In.f
 rw [w64 (show -9223372036854775808 ≤ (w:Int) - 1 by omega) o_m,w64 (show -9223372036854775808 ≤ (h:Int) - 1 by omega) o_m]
 by_cases h1:X ≥ 0
 rotate_left
 ·rw [if_neg h1,Option.bind_some,if_neg Bool.false_ne_true]
  congr 1
  exact (decide_eq_false o_m).symm
 rw [if_pos h1,Option.bind_some]
 by_cases h2:X ≤ (w:Int) - 1
 rotate_left
 ·rw [if_neg (by simp [h2])]
  congr 1
  exact (decide_eq_false o_m).symm
 rw [if_pos (decide_eq_true h2)]
 by_cases h3:Y ≥ 0
 rotate_left
 ·rw [if_neg h3,Option.bind_some]
  congr 1
  exact (decide_eq_false o_m).symm
 rw [if_pos h3,Option.bind_some]
 congr 1
 rw [Bool.eq_iff_iff,decide_eq_true_iff,decide_eq_true_iff]
 omega
def lookI (w h:Nat) (cs:List Int) (X Y:Int):Int:=if (0 ≤ X ∧ X < (w:Int)) ∧ 0 ≤ Y ∧ Y < (h:Int) then (if openAt cs (Y.toNat * w + X.toNat) = true then ((Y.toNat * w + X.toNat:Nat):Int) else -1) else -1
theorem look_eq {w h:Nat} (hw:1 ≤ w ∧ w ≤ 7) (hh:1 ≤ h ∧ h ≤ 7) {cs:List Int} (hl:cs.length = w * h) (X Y:Int) :
  ((spec_tyCell.f w h cs X Y).bind fun t=>if t = true then (if 0 ≤ wrap64 (wrap64 (Y * w) + X) then (if wrap64 (wrap64 (Y * w) + X) < (cs.length:Int) then (if rd cs (wrap64 (wrap64 (Y * w) + X)) = 35 then some (-1) else some (wrap64 (wrap64 (Y * w) + X))) else none) else none) else some (-1)) = some (lookI w h cs X Y):=by
 rw [tyCell_eq hw hh,Option.bind_some]
 unfold lookI
 by_cases hc:(0 ≤ X ∧ X < (w:Int)) ∧ 0 ≤ Y ∧ Y < (h:Int)
 rotate_left
 ·rw [if_neg (by simp only [decide_eq_true_eq];exact hc),if_neg hc]
 rw [if_pos (decide_eq_true hc),if_pos hc]
 obtain ⟨⟨x,rfl⟩,⟨y,rfl⟩⟩:(∃ x:Nat,X = x) ∧ (∃ y:Nat,Y = y):=⟨⟨X.toNat,by omega⟩,⟨Y.toNat,by omega⟩⟩
 have hx:x < w:=by omega
 have hy:y < h:=by omega
 have hlt:y * w + x < w * h:=(place_lt hx hy)
 have h49:w * h ≤ 7 * 7:=Nat.mul_le_mul hw.2 hh.2
 have e1:(y:Int) * (w:Int) = ((y * w:Nat):Int):=by rw [Int.natCast_mul]
 have e:wrap64 (wrap64 ((y:Int) * (w:Int)) + (x:Int)) = ((y * w + x:Nat):Int):=by
  have e0:wrap64 ((y * w:Nat):Int) = ((y * w:Nat):Int):=w64 o_m o_m
  rw [e1,e0,← Int.natCast_add];exact w64 o_m o_m
 rw [e,if_pos o_m,if_pos o_m,Int.toNat_natCast,Int.toNat_natCast]
 unfold rd openAt isOpenC
 rw [Int.toNat_natCast]
 by_cases h35:cs.getD (y * w + x) 0 = 35
 rotate_left
 ·rw [if_neg h35,if_pos (by simpa using h35)]
 rw [if_pos h35,h35,if_neg d_c]
theorem tiAhead_eq {w h:Nat} (hw:1 ≤ w ∧ w ≤ 7) (hh:1 ≤ h ∧ h ≤ 7) {cs:List Int} (hl:cs.length = w * h) {i d:Nat} (hi:i < w * h) (hd:d < 4):spec_tiAhead.f w h cs i d = some (aheadI w h cs i d):=by
 have h49:w * h ≤ 7 * 7:=Nat.mul_le_mul hw.2 hh.2
 have e1:Int.tdiv (i:Int) (w:Int) = ((i / w:Nat):Int):=rfl
 have e2:Int.tmod (i:Int) (w:Int) = ((i % w:Nat):Int):=rfl
 have b1:i / w ≤ i:=Nat.div_le_self _ _
 have b2:i % w ≤ i:=Nat.mod_le _ _
 unfold spec_tiAhead.f aheadI
 rw [if_neg o_m,e1,e2]
 generalize i / w = y at *
 generalize i % w = x at *
 rw [w64 (n:=(y:Int)) o_m o_m,w64 (n:=(y:Int) - 1) o_m o_m,w64 (n:=(y:Int) + 1) o_m o_m,w64 (n:=(x:Int) - 1) o_m o_m,w64 (n:=(x:Int) + 1) o_m o_m]
 rcases dir4 hd with rfl | rfl | rfl | rfl
 ·rw [if_pos (by rfl)]
  exact look_eq hw hh hl (x:Int) ((y:Int) - 1)
 ·rw [if_neg d_c,if_pos (by rfl)]
  exact look_eq hw hh hl ((x:Int) + 1) (y:Int)
 ·rw [if_neg d_c,if_neg d_c,if_pos (by rfl)]
  exact look_eq hw hh hl (x:Int) ((y:Int) + 1)
 ·rw [if_neg d_c,if_neg d_c,if_neg d_c]
  exact look_eq hw hh hl ((x:Int) - 1) (y:Int)
def nxtI (w h d:Nat) (cs:List Int) (a b:Nat):Int:=if (decide (b + 1 < lnK w h d) && openAt cs (pos w h d a (b + 1))) = true then (pos w h d a (b + 1):Int) else -1
def restD (w h d:Nat) (cs:List Int) (a b:Nat):List Nat:=((lineD w h d a).drop b).takeWhile (openAt cs)
theorem lineD_length (w h d a:Nat):(lineD w h d a).length = lnK w h d:=by simp [lineD]
theorem restD_end {w h d a b:Nat} {cs:List Int} (hb:lnK w h d ≤ b):restD w h d cs a b = []:=by
 unfold restD;rw [List.drop_eq_nil_of_le (by rw [lineD_length];exact hb)];rfl
theorem restD_cons {w h d a b:Nat} {cs:List Int} (hb:b < lnK w h d):restD w h d cs a b = if openAt cs (pos w h d a b) = true then pos w h d a b :: restD w h d cs a (b + 1) else []:=by
 unfold restD
 rw [List.drop_eq_getElem_cons (by rw [lineD_length];exact hb),List.takeWhile_cons]
 have e:(lineD w h d a)[b]'(by rw [lineD_length];exact hb) = pos w h d a b:=by simp [lineD]
 rw [e]
theorem restD_length (w h d a b:Nat) (cs:List Int):(restD w h d cs a b).length ≤ lnK w h d:=by
 unfold restD
 exact Nat.le_trans (List.takeWhile_sublist _).length_le (by rw [List.length_drop,lineD_length];omega)
theorem lnK_le {w h d:Nat} (hw:w ≤ 7) (hh:h ≤ 7):lnK w h d ≤ 7:=by unfold lnK;split <;> omega
theorem opp_eq {d:Nat} (hd:d < 4):Int.tmod (wrap64 ((d:Int) + 2)) 4 = (((d + 2) % 4:Nat):Int):=by
 rw [w64 o_m o_m];rfl
section
variable {w h d:Nat} {cs:List Int} (hw:1 ≤ w ∧ w ≤ 7) (hh:1 ≤ h ∧ h ≤ 7) (hl:cs.length = w * h) (hd:d < 4)
include hw hh hl hd
theorem follow_l1 (x5:List (List Int)) (x13:List Int) (x14 x15:Int) (r:List (List Int)) {a:Nat} (ha:a < lnM w h d):∀ (n b:Nat) (x8:List Nat),b + n + 1 = lnK w h d → x8.length ≤ b + 1 →
  Ev (fun k=>spec_tiStretches.l2 k d x5 (castsI (x8 ++ restD w h d cs a (b + 1))) 0 x13 x14 x15 w h cs) r →
  Ev (fun k=>spec_tiStretches.l1 k d x5 (castsI x8) (nxtI w h d cs a b) x13 x14 x15 w h cs) r
 | 0,b,x8,hb,hx,hr=>by
  have hneg:nxtI w h d cs a b = -1:=by unfold nxtI;rw [decide_eq_false o_m,Bool.false_and,if_neg Bool.false_ne_true]
  rw [restD_end o_m,List.append_nil] at hr
  rw [hneg]
  exact Ev.step (fun k=>by rw [spec_tiStretches.l1,if_neg o_m]) hr
 | n + 1,b,x8,hb,hx,hr=>by
  have hK:=lnK_le (d:=d) hw.2 hh.2
  rw [restD_cons o_m] at hr
  unfold nxtI
  by_cases ho:openAt cs (pos w h d a (b + 1)) = true
  rotate_left
  ·rw [if_neg ho,List.append_nil] at hr
   rw [show openAt cs (pos w h d a (b + 1)) = false by simpa using ho,Bool.and_false,if_neg Bool.false_ne_true]
   exact Ev.step (fun k=>by rw [spec_tiStretches.l1,if_neg o_m]) hr
  rw [if_pos ho] at hr
  rw [decide_eq_true (show b + 1 < lnK w h d by omega),ho,Bool.true_and,if_pos rfl]
  have hp:=(pos_lt hd ha (show b + 1 < lnK w h d by omega)).2.2
  have hA:=tiAhead_eq hw hh hl hp (d:=(d + 2) % 4) o_m
  rw [back_pos hd ha (show b + 1 < lnK w h d by omega)] at hA
  refine Ev.step (fun k=>?_) (follow_l1 x5 x13 x14 x15 r ha n (b + 1) (x8 ++ [pos w h d a (b + 1)]) o_m (by rw [List.length_append];simp;omega) (by rw [List.append_assoc];exact hr))
  rw [spec_tiStretches.l1,if_pos o_m,if_pos (by rw [castsI_length];omega),opp_eq hd,hA,Option.bind_some,casts_app,casts_one];rfl
end
theorem rows_at (L:List (List Nat)) (i:Nat) (h:i < L.length):rd_L3 (L.map castsI) (i:Int) = castsI (L[i]'h):=by
 unfold rd_L3
 rw [Int.toNat_natCast,List.getD_eq_getElem?_getD,List.getElem?_map,List.getElem?_eq_getElem h];rfl
theorem place_l2 {w h d:Nat} {cs:List Int} (x13:List Int) (x14 x15:Int) (r:List (List Int)) (st:List Nat) (hne:st ≠ []) (hst:st.length < 1000000):∀ (rest pre:List (List Nat)),pre.length + rest.length < 1000000 → (∀ y ∈ rest,y ≠ [] ∧ y.length < 1000000) →
  Ev (fun k=>spec_tiStretches.l0 k d ((pre ++ insK st rest).map castsI) x13 x14 (wrap64 (x15 + 1)) w h cs) r →
  Ev (fun k=>spec_tiStretches.l2 k d ((pre ++ rest).map castsI) (castsI st) (pre.length:Int) x13 x14 x15 w h cs) r
 | [],pre,hlen,_,hr=>by
  refine Ev.step (fun k=>?_) hr
  have e1:((pre ++ []).map castsI).take ((pre.length:Int)).toNat = pre.map castsI:=by rw [List.append_nil,Int.toNat_natCast,List.take_of_length_le (by simp)]
  have e2:((pre ++ []).map castsI).drop ((pre.length:Int)).toNat = []:=by rw [List.append_nil,Int.toNat_natCast,List.drop_eq_nil_of_le (by simp)]
  simp only [List.length_nil,Nat.add_zero] at hlen
  rw [spec_tiStretches.l2,if_neg (by simp),Option.bind_some,if_pos o_m,if_pos (by simp),e1,e2,Option.bind_some,if_pos (by simp;omega),Option.bind_some,if_pos (by simp;omega),Option.bind_some,Option.bind_some,if_pos (by simp;omega)]
  simp [insK]
 | y :: ys,pre,hlen,hall,hr=>by
  have hL:((pre ++ y :: ys).map castsI).length = pre.length + ys.length + 1:=by simp;omega
  simp only [List.length_cons] at hlen
  have hy:=hall y List.mem_cons_self
  have hrow:rd_L3 ((pre ++ y :: ys).map castsI) (pre.length:Int) = castsI y:=by
   rw [rows_at _ _ (by simp)]
   congr 1
   simp
  have hstep:∀ k,spec_tiStretches.l2 (k + 1) d ((pre ++ y :: ys).map castsI) (castsI st) (pre.length:Int) x13 x14 x15 w h cs =
    (spec_tiFirst.f k (castsI y)).bind fun t113=>(spec_tiFirst.f k (castsI st)).bind fun t114=>if t113 < t114 then spec_tiStretches.l2 k d ((pre ++ y :: ys).map castsI) (castsI st) ((pre.length + 1:Nat):Int) x13 x14 x15 w h cs else spec_tiStretches.l0 k d ((pre ++ (st :: y :: ys)).map castsI) x13 x14 (wrap64 (x15 + 1)) w h cs:=by
   intro k
   have e1:((pre ++ y :: ys).map castsI).take ((pre.length:Int)).toNat = pre.map castsI:=by rw [Int.toNat_natCast,List.map_append,List.take_left' (by simp)]
   have e2:((pre ++ y :: ys).map castsI).drop ((pre.length:Int)).toNat = (y :: ys).map castsI:=by rw [Int.toNat_natCast,List.map_append,List.drop_left' (by simp)]
   rw [spec_tiStretches.l2,if_pos o_m,if_pos o_m,hrow]
   congr 1
   funext t113
   congr 1
   funext t114
   by_cases ht:t113 < t114
   ·rw [if_pos ht,if_pos ht,w64 o_m o_m];rfl
   rw [if_neg ht,if_neg ht,Option.bind_some,if_pos o_m,e1,e2,Option.bind_some,if_pos (by simp;omega),Option.bind_some,if_pos (by simp;omega),Option.bind_some,Option.bind_some,if_pos (by simp;omega)]
   simp
  refine Ev.step hstep (Ev.bind (tiFirst_ev hy.1 hy.2) (Ev.bind (tiFirst_ev hne hst) ?_))
  unfold insK at hr
  by_cases hlt:leastL y < leastL st
  rotate_left
  ·rw [if_neg hlt] at hr
   exact Ev.congr (fun k=>if_neg o_m) hr
  rw [if_pos hlt] at hr
  refine Ev.congr (fun k=>if_pos o_m) ?_
  have:=place_l2 x13 x14 x15 r st hne hst ys (pre ++ [y]) (by simp;omega) (fun z hz=>hall z (List.mem_cons_of_mem _ hz)) (by rw [List.append_assoc];exact hr)
  rw [List.append_assoc,List.length_append] at this
  exact this
theorem tail_head {w h d i:Nat} {cs:List Int} (hd:d < 4) (hi:i < w * h) (ho:openAt cs i = true):tailD w h d cs i = i :: restD w h d cs (lnA w d i) (lnB w h d i + 1):=by
 obtain ⟨h1,h2,h3⟩:=inv_pos hd hi
 show restD w h d cs (lnA w d i) (lnB w h d i) = _
 rw [restD_cons h2,h3,if_pos ho]
section
variable {w h d:Nat} {cs:List Int} (hw:1 ≤ w ∧ w ≤ 7) (hh:1 ≤ h ∧ h ≤ 7) (hl:cs.length = w * h) (hd:d < 4)
include hw hh hl hd
theorem cells_l0:∀ (n i:Nat) (out:List (List Nat)),i + n = w * h → out.length ≤ i → (∀ y ∈ out,y ≠ [] ∧ y.length < 1000000) →
  Ev (fun k=>spec_tiStretches.l0 k d (out.map castsI) cs (cs.length:Int) i w h cs) (((((List.range' i n).filter (endD w h d cs)).map (tailD w h d cs)).foldl (fun o x=>insK x o) out).map castsI)
 | 0,i,out,hi,ho,hall=>Ev.step (fun k=>by rw [spec_tiStretches.l0,if_neg o_m];rfl) (Ev.now _)
 | n + 1,i,out,hi,ho,hall=>by
  have h49:w * h ≤ 7 * 7:=Nat.mul_le_mul hw.2 hh.2
  have hil:i < w * h:=by omega
  have hK:=lnK_le (d:=d) hw.2 hh.2
  obtain ⟨q1,q2,q3⟩:=inv_pos hd hil
  have HWR:Aside0 (wrap64 ((i:Int) + 1) = ((i + 1:Nat):Int)):=⟨by rw [w64 o_m o_m];rfl⟩
  have hrd:rd cs (i:Int) = cs.getD i 0:=by unfold rd;rw [Int.toNat_natCast]
  have hend:=end_ahead hd hil cs
  have hA:=tiAhead_eq hw hh hl hil hd
  have hB:=tiAhead_eq hw hh hl hil (d:=(d + 2) % 4) o_m
  have hback:=back_pos hd q1 q2 cs
  rw [q3] at hback
  rw [hback] at hB
  have hskip:endD w h d cs i = false → Ev (fun k=>spec_tiStretches.l0 k d (out.map castsI) cs (cs.length:Int) ((i + 1:Nat):Int) w h cs) (((((List.range' i (n + 1)).filter (endD w h d cs)).map (tailD w h d cs)).foldl (fun o x=>insK x o) out).map castsI):=fun he=>by
   rw [List.range'_succ,List.filter_cons,he,if_neg Bool.false_ne_true]
   exact cells_l0 n (i + 1) out o_m o_m hall
  by_cases h35:cs.getD i 0 = 35
  ·have hop:openAt cs i = false:=by unfold openAt isOpenC;rw [h35];rfl
   have he:endD w h d cs i = false:=by rw [hend,hop,Bool.false_and]
   refine Ev.step (f:=fun k=>spec_tiStretches.j1 k d (out.map castsI) i cs (cs.length:Int) i true w h cs) (fun k=>by rw [spec_tiStretches.l0,if_pos o_m,if_pos o_m,if_pos o_m,hrd,if_pos h35]) ?_
   exact Ev.step (fun k=>by rw [spec_tiStretches.j1,if_pos rfl,HWR.out]) (hskip he)
  have hop:openAt cs i = true:=by unfold openAt isOpenC;simpa using h35
  rw [hop,Bool.true_and] at hend
  refine Ev.step (f:=fun k=>spec_tiStretches.j1 k d (out.map castsI) i cs (cs.length:Int) i (decide (aheadI w h cs i d ≥ 0)) w h cs) (fun k=>by rw [spec_tiStretches.l0,if_pos o_m,if_pos o_m,if_pos o_m,hrd,if_neg h35,hA,Option.bind_some]) ?_
  by_cases hah:aheadI w h cs i d ≥ 0
  ·have he:endD w h d cs i = false:=by rw [hend];exact decide_eq_false o_m
   rw [decide_eq_true hah]
   exact Ev.step (fun k=>by rw [spec_tiStretches.j1,if_pos rfl,HWR.out]) (hskip he)
  have he:endD w h d cs i = true:=by rw [hend];exact decide_eq_true o_m
  rw [decide_eq_false hah]
  refine Ev.step (f:=fun k=>spec_tiStretches.l1 k d (out.map castsI) (castsI [i]) (nxtI w h d cs (lnA w d i) (lnB w h d i)) cs (cs.length:Int) i w h cs) (fun k=>by
   rw [spec_tiStretches.j1,if_neg Bool.false_ne_true,opp_eq hd,hB,Option.bind_some];rfl) ?_
  refine follow_l1 hw hh hl hd (out.map castsI) cs (cs.length:Int) i _ q1 (lnK w h d - 1 - lnB w h d i) (lnB w h d i) [i] o_m (by simp) ?_
  have ht:=tail_head hd hil hop
  rw [show [i] ++ restD w h d cs (lnA w d i) (lnB w h d i + 1) = tailD w h d cs i from ht.symm]
  have htl:(tailD w h d cs i).length < 1000000:=by
   have:=restD_length w h d (lnA w d i) (lnB w h d i + 1) cs
   rw [ht,List.length_cons];omega
  have htn:tailD w h d cs i ≠ []:=by rw [ht];exact List.cons_ne_nil _ _
  refine place_l2 (d:=d) cs (cs.length:Int) i _ (tailD w h d cs i) htn htl out [] (by simp;omega) hall ?_
  rw [List.nil_append,HWR.out,List.range'_succ,List.filter_cons,he,if_pos rfl,List.map_cons,List.foldl_cons]
  have hp:=insK_perm (tailD w h d cs i) out
  refine cells_l0 n (i + 1) (insK (tailD w h d cs i) out) o_m (by rw [hp.length_eq,List.length_cons];omega) (fun y hy=>?_)
  rcases List.mem_cons.1 (hp.mem_iff.1 hy) with rfl | hy
  ·exact ⟨htn,htl⟩
  ·exact hall y hy
theorem tiStretches_ev:Ev (fun k=>spec_tiStretches.f k w h cs d) ((strD w h d cs).map castsI):=by
 have h0:=cells_l0 hw hh hl hd (w * h) 0 [] o_m (by simp) (fun y hy=>by cases hy)
 rw [← List.range_eq_range'] at h0
 exact h0
end
end Go.Proofs.YtldhkbiomingbaaGreatDoor

namespace Go.Proofs.YtldhkbiomingbaaGreatDoor
open Go.RowKit Go.YW.PrintWords Go.YW.PrintLast Go.YW.PrintMore Go.Lib Go.Proofs.YtldhkbiomingbaaGreatDoor.F
def gridI (a0 a1:Int) (l:List Int):Prop:=(1 ≤ a0 ∧ a0 ≤ 7) ∧ (1 ≤ a1 ∧ a1 ≤ 7) ∧ l.length = a0.toNat * a1.toNat
instance (a0 a1:Int) (l:List Int):Decidable (gridI a0 a1 l):=by unfold gridI;exact inferInstance
theorem gridI_nat {w h:Nat} {cs:List Int} (hw:1 ≤ w ∧ w ≤ 7) (hh:1 ≤ h ∧ h ≤ 7) (hl:cs.length = w * h):gridI w h cs:=⟨by omega,by omega,by rw [Int.toNat_natCast,Int.toNat_natCast];exact hl⟩
theorem strD_facts {w h d:Nat} {cs:List Int} (hw:1 ≤ w ∧ w ≤ 7) (hh:1 ≤ h ∧ h ≤ 7) (hl:cs.length = w * h) (hd:d < 4) :
  (0 < cs.length ∧ cs.length < 65536) ∧ (∀ st ∈ strD w h d cs,∀ i ∈ st,i < cs.length) ∧ (strD w h d cs).flatten.length < 65536 ∧ (strD w h d cs).length < 65536 ∧ (∀ st ∈ strD w h d cs,st.length < 65536):=by
 have h49:w * h ≤ 7 * 7:=Nat.mul_le_mul hw.2 hh.2
 have h1:0 < w * h:=Nat.mul_pos o_m o_m
 have hf:(strD w h d cs).flatten.length ≤ w * h:=by
  rw [(strD_cells hd cs).length_eq]
  exact Nat.le_trans (List.length_filter_le _ _) (by rw [List.length_range];exact Nat.le_refl _)
 have hne:=strD_ne hd (w:=w) (h:=h) (cs:=cs)
 have len:∀ S:List (List Nat),(∀ st ∈ S,st ≠ []) → S.length ≤ S.flatten.length ∧ ∀ st ∈ S,st.length ≤ S.flatten.length:=fun S=>by
  induction S with
  | nil=>intro _;exact ⟨Nat.le_refl _,fun st h=>by cases h⟩
  | cons a S ih =>
   intro hs
   obtain ⟨i1,i2⟩:=ih (fun st h=>hs st (List.mem_cons_of_mem _ h))
   have ha:0 < a.length:=List.length_pos_iff.2 (hs a List.mem_cons_self)
   rw [List.flatten_cons,List.length_append,List.length_cons]
   refine ⟨by omega,fun st h=>?_⟩
   rcases List.mem_cons.1 h with rfl | h
   ·omega
   ·have:=i2 st h;omega
 obtain ⟨l1,l2⟩:=len _ hne
 refine ⟨⟨by rw [hl];exact h1,by rw [hl];omega⟩,fun st hs i hi=>by rw [hl];exact (strD_Str hd cs).lt st hs i hi,by omega,by omega,fun st hs=>?_⟩
 have:=l2 st hs
 omega
def spec_tiTilt.f (a0 a1:Int) (l:List Int) (d:Int):Option (Int × Int × List Int):=if gridI a0 a1 l ∧ 0 ≤ d ∧ d < 4 then some (a0,a1,tiltD a0.toNat a1.toNat d.toNat l) else none
theorem spec_tiTilt_eq {w h d:Nat} {cs:List Int} (hw:1 ≤ w ∧ w ≤ 7) (hh:1 ≤ h ∧ h ≤ 7) (hl:cs.length = w * h) (hd:d < 4):spec_tiTilt.f w h cs d = some ((w:Int),(h:Int),tiltD w h d cs):=if_pos ⟨gridI_nat hw hh hl,by omega,by omega⟩
theorem spec_tiTilt.calls (a0_0 a0_1:Int) (A0_2:Option Addr) (c0_2:Nat) (l0_2:List Int) (a1:Int) (r1 r2:Int) (r3:List Int) (w:World) (hr0_2:Kd.C (Kd.int .u8) w A0_2 l0_2.length l0_2) (hc0_2:l0_2.length ≤ c0_2) (h:spec_tiTilt.f a0_0 a0_1 l0_2 a1 = some (r1,r2,r3)) :
  Calls Tryz.prog 100 #[.agg #[.int .i64 a0_0,.int .i64 a0_1,.slice A0_2 l0_2.length c0_2],.int .i64 a1] w fun e w'=>∃ v2_:Value,e = .returned (.agg #[.int .i64 r1,.int .i64 r2,v2_]) ∧ Kd.R (Kd.int .u8) 5 w' w.heap.size (fun _=>True) v2_ r3 ∧ Below w.heap.size w w':=by
 unfold spec_tiTilt.f at h
 split at h
 case isFalse=>cases h
 rename_i hc
 obtain ⟨⟨hw,hh,hl⟩,hd0,hd4⟩:=hc
 injection h with h
 injection h with h1 h
 injection h with h2 h3
 subst h1 h2 h3
 obtain ⟨W,rfl⟩:∃ n:Nat,a0_0 = n:=⟨a0_0.toNat,by omega⟩
 obtain ⟨H,rfl⟩:∃ n:Nat,a0_1 = n:=⟨a0_1.toNat,by omega⟩
 obtain ⟨d,rfl⟩:∃ n:Nat,a1 = n:=⟨a1.toNat,by omega⟩
 simp only [Int.toNat_natCast] at hl ⊢
 have hw':1 ≤ W ∧ W ≤ 7:=by omega
 have hh':1 ≤ H ∧ H ≤ 7:=by omega
 have hd':d < 4:=by omega
 obtain ⟨f1,f2,f3,f4,f5⟩:=strD_facts hw' hh' hl hd'
 obtain ⟨k,hk⟩:=Ev.rounds (tiStretches_ev hw' hh' hl hd')
 refine tiTilt_calls W H d A0_2 c0_2 l0_2 (strD W H d l0_2) w hr0_2 hc0_2 f1 f2 f4 f5 (fun W' hW=>?_)
 exact spec_tiStretches.calls k W H A0_2 c0_2 l0_2 d _ W' (Kd.C_below hr0_2 hW) hc0_2 hk
theorem rev_ev (l:List Int) (hl:l.length ≤ 7):Ev (fun k=>slices_Reverse_int_int.f k l) l.reverse:=by
 refine Ev.of (fun k=>slices_Reverse_int_int.mono _ _) (k:=6) ?_
 match l,hl with
 | [],_=>simp [slices_Reverse_int_int.f,slices_Reverse_int_int.l0,wrap64,rd]
 | [a],_=>simp [slices_Reverse_int_int.f,slices_Reverse_int_int.l0,wrap64,rd]
 | [a,b],_=>simp [slices_Reverse_int_int.f,slices_Reverse_int_int.l0,wrap64,rd]
 | [a,b,c],_=>simp [slices_Reverse_int_int.f,slices_Reverse_int_int.l0,wrap64,rd]
 | [a,b,c,d],_=>simp [slices_Reverse_int_int.f,slices_Reverse_int_int.l0,wrap64,rd]
 | [a,b,c,d,e],_=>simp [slices_Reverse_int_int.f,slices_Reverse_int_int.l0,wrap64,rd]
 | [a,b,c,d,e,f],_=>simp [slices_Reverse_int_int.f,slices_Reverse_int_int.l0,wrap64,rd]
 | [a,b,c,d,e,f,g],_=>simp [slices_Reverse_int_int.f,slices_Reverse_int_int.l0,wrap64,rd]
 | _ :: _ :: _ :: _ :: _ :: _ :: _ :: _ :: _,h=>exact absurd h (by simp)
theorem casts_rev (l:List Nat):(castsI l).reverse = castsI l.reverse:=by unfold castsI;rw [List.map_reverse]
theorem range_rev {α:Type} (f:Nat → α) (n:Nat):(List.range n).map (fun b=>f (n - 1 - b)) = ((List.range n).map f).reverse:=by
 apply List.ext_getElem
 ·simp
 ·intro i h1 h2
  simp [List.getElem_reverse]
theorem w100 (n:Nat) (h:n < 100):wrap64 (n:Int) = n:=w64 o_m o_m
def rawP (w d a b:Nat):Nat:=if d = 0 ∨ d = 2 then b * w + a else a * w + b
def rawL (w d a n:Nat):List Nat:=(List.range n).map (rawP w d a)
theorem rawL_succ (w d a n:Nat):rawL w d a (n + 1) = rawL w d a n ++ [rawP w d a n]:=by unfold rawL;rw [List.range_succ,List.map_append];rfl
theorem rawL_length (w d a n:Nat):(rawL w d a n).length = n:=by simp [rawL]
theorem raw_line {w h d a:Nat} (hd:d < 4):lineD w h d a = if d = 1 ∨ d = 2 then (rawL w d a (lnK w h d)).reverse else rawL w d a (lnK w h d):=by
 rcases dir4 hd with rfl | rfl | rfl | rfl
 ·rfl
 ·rw [if_pos (Or.inl rfl)];exact range_rev (rawP w 1 a) w
 ·rw [if_pos (Or.inr rfl)];exact range_rev (rawP w 2 a) h
 ·rfl
section
variable {w h d:Nat} {cs:List Int} (hw:1 ≤ w ∧ w ≤ 7) (hh:1 ≤ h ∧ h ≤ 7) (hd:d < 4)
include hw hh hd
omit hd in
theorem number_raw {a b:Nat} (ha:a < lnM w h d) (hb:b < lnK w h d):(if decide (d = 0 ∨ d = 2) = true then impl_tray_number.f w h cs a b else impl_tray_number.f w h cs b a) = some ((rawP w d a b:Nat):Int):=by
 have key:∀ x y:Nat,x < 8 → y < 8 → impl_tray_number.f w h cs x y = some ((y * w + x:Nat):Int):=fun x y hx hy=>by
  have h49:y * w ≤ 7 * 7:=Nat.mul_le_mul o_m hw.2
  have e1:(y:Int) * (w:Int) = ((y * w:Nat):Int):=by rw [Int.natCast_mul]
  have hb:y * w + x < 100:=by omega
  unfold impl_tray_number.f
  rw [e1,w100 (y * w) o_m,← Int.natCast_add,w100 _ hb]
 have hK:=lnK_le (d:=d) hw.2 hh.2
 have hM:lnM w h d ≤ 7:=by unfold lnM;split <;> omega
 unfold rawP
 by_cases hv:d = 0 ∨ d = 2
 rotate_left
 ·rw [if_neg (by simp only [decide_eq_true_eq];exact hv),if_neg hv,key b a o_m o_m]
 rw [if_pos (decide_eq_true hv),if_pos hv,key a b o_m o_m]
theorem lines_l1 (x5:List (List Int)) (hx:x5.length < 1000) (r:List (List Int)) {a:Nat} (ha:a < lnM w h d):∀ (n j:Nat),j + n = lnK w h d →
  Ev (fun k=>impl_tray_lines.l0 k (dirB d) (x5 ++ [castsI (lineD w h d a)]) (lnK w h d:Int) (lnM w h d:Int) ((a + 1:Nat):Int) w h cs) r →
  Ev (fun k=>impl_tray_lines.l1 k (dirB d) x5 (lnK w h d:Int) (a:Int) (castsI (rawL w d a j)) (lnM w h d:Int) (a:Int) (lnK w h d:Int) (j:Int) w h cs) r
 | 0,j,hj,hr=>by
  have hK:=lnK_le (d:=d) hw.2 hh.2
  have hM:lnM w h d ≤ 7:=by unfold lnM;split <;> omega
  obtain rfl:j = lnK w h d:=by omega
  have hrl:=raw_line (w:=w) (h:=h) (a:=a) hd
  have hrev:Ev (fun k=>slices_Reverse_int_int.f k (castsI (rawL w d a (lnK w h d)))) (castsI (rawL w d a (lnK w h d)).reverse):=by
   have:=rev_ev (castsI (rawL w d a (lnK w h d))) (by rw [castsI_length,rawL_length];exact hK)
   rwa [casts_rev] at this
  have HW:Aside0 (wrap64 ((a:Int) + 1) = ((a + 1:Nat):Int)):=⟨by rw [w64 o_m o_m];rfl⟩
  have hlen:x5.length < 5864062014805:=by omega
  rcases dir4 hd with rfl | rfl | rfl | rfl
  ·rw [if_neg d_c] at hrl
   rw [hrl] at hr
   refine Ev.step (fun k=>?_) hr
   rw [impl_tray_lines.l1,if_neg o_m,if_neg d_c,if_neg d_c,if_pos hlen,HW.out]
  ·rw [if_pos d_c] at hrl
   rw [hrl] at hr
   refine Ev.step (fun k=>?_) (Ev.bind hrev (f:=fun k t=>impl_tray_lines.l0 k (dirB 1) (x5 ++ [t]) (lnK w h 1:Int) (lnM w h 1:Int) ((a + 1:Nat):Int) w h cs) hr)
   rw [impl_tray_lines.l1,if_neg o_m,if_pos (by rfl),HW.out]
   simp only [if_pos hlen]
  ·rw [if_pos d_c] at hrl
   rw [hrl] at hr
   refine Ev.step (fun k=>?_) (Ev.bind hrev (f:=fun k t=>impl_tray_lines.l0 k (dirB 2) (x5 ++ [t]) (lnK w h 2:Int) (lnM w h 2:Int) ((a + 1:Nat):Int) w h cs) hr)
   rw [impl_tray_lines.l1,if_neg o_m,if_neg d_c,if_pos (by rfl),HW.out]
   simp only [if_pos hlen]
  ·rw [if_neg d_c] at hrl
   rw [hrl] at hr
   refine Ev.step (fun k=>?_) hr
   rw [impl_tray_lines.l1,if_neg o_m,if_neg d_c,if_neg d_c,if_pos hlen,HW.out]
 | n + 1,j,hj,hr=>by
  have hK:=lnK_le (d:=d) hw.2 hh.2
  have hjK:j < lnK w h d:=by omega
  have ih:=lines_l1 x5 hx r ha n (j + 1) o_m hr
  have hnum:=number_raw (cs:=cs) hw hh ha hjK
  have HW:Aside0 (wrap64 ((j:Int) + 1) = ((j + 1:Nat):Int)):=⟨by rw [w64 o_m o_m];rfl⟩
  have hlen:(castsI (rawL w d a j)).length < 17592186044416:=by rw [castsI_length,rawL_length];omega
  have h1:∀ k,impl_tray_lines.l1 (k + 1) (dirB d) x5 (lnK w h d:Int) (a:Int) (castsI (rawL w d a j)) (lnM w h d:Int) (a:Int) (lnK w h d:Int) (j:Int) w h cs = impl_tray_lines.j4 k (dirB d) x5 (lnK w h d:Int) (a:Int) (castsI (rawL w d a j)) (j:Int) (lnM w h d:Int) (a:Int) (lnK w h d:Int) (j:Int) (decide (d = 0 ∨ d = 2)) w h cs:=fun k=>by
   rw [impl_tray_lines.l1,if_pos o_m]
   rcases dir4 hd with rfl | rfl | rfl | rfl
   ·rw [if_pos (by rfl)];rfl
   ·rw [if_neg d_c];rfl
   ·rw [if_neg d_c];rfl
   ·rw [if_neg d_c];rfl
  refine Ev.step h1 (Ev.step (fun k=>?_) ih)
  rw [rawL_succ,casts_app,casts_one,impl_tray_lines.j4]
  by_cases hv:decide (d = 0 ∨ d = 2) = true
  rotate_left
  ·rw [if_neg hv] at hnum ⊢
   rw [hnum,Option.bind_some,if_pos hlen,HW.out]
  rw [if_pos hv] at hnum ⊢
  rw [hnum,Option.bind_some,if_pos hlen,HW.out]
theorem lines_l0:∀ (n a:Nat),a + n = lnM w h d → Ev (fun k=>impl_tray_lines.l0 k (dirB d) (((List.range a).map (lineD w h d)).map castsI) (lnK w h d:Int) (lnM w h d:Int) (a:Int) w h cs) ((linesD w h d).map castsI)
 | 0,a,ha=>by
  obtain rfl:a = lnM w h d:=by omega
  exact Ev.step (fun k=>by rw [impl_tray_lines.l0,if_neg o_m];rfl) (Ev.now _)
 | n + 1,a,ha=>by
  have hM:lnM w h d ≤ 7:=by unfold lnM;split <;> omega
  have ih:=lines_l0 n (a + 1) o_m
  rw [List.range_succ,List.map_append,List.map_append] at ih
  have:=lines_l1 (cs:=cs) hw hh hd (((List.range a).map (lineD w h d)).map castsI) (by simp;omega) _ (show a < lnM w h d by omega) (lnK w h d) 0 o_m ih
  exact Ev.step (fun k=>by rw [impl_tray_lines.l0,if_pos o_m];rfl) this
theorem lines_ev:Ev (fun k=>impl_tray_lines.f k w h cs (dirB d)) ((linesD w h d).map castsI):=by
 have h0:=lines_l0 (cs:=cs) hw hh hd (lnM w h d) 0 o_m
 rcases dir4 hd with rfl | rfl | rfl | rfl
 ·exact Ev.congr (fun k=>rfl) (Ev.step (g:=fun k=>impl_tray_lines.j0 k 117 [] h w true w h cs) (f:=fun k=>impl_tray_lines.j1 k 117 [] w h w h cs) (fun k=>rfl) (Ev.step (fun k=>rfl) h0))
 ·exact Ev.congr (fun k=>rfl) (Ev.step (g:=fun k=>impl_tray_lines.j0 k 114 [] h w false w h cs) (f:=fun k=>impl_tray_lines.j1 k 114 [] h w w h cs) (fun k=>rfl) (Ev.step (fun k=>rfl) h0))
 ·exact Ev.congr (fun k=>rfl) (Ev.step (g:=fun k=>impl_tray_lines.j0 k 100 [] h w true w h cs) (f:=fun k=>impl_tray_lines.j1 k 100 [] w h w h cs) (fun k=>rfl) (Ev.step (fun k=>rfl) h0))
 ·exact Ev.congr (fun k=>rfl) (Ev.step (g:=fun k=>impl_tray_lines.j0 k 108 [] h w false w h cs) (f:=fun k=>impl_tray_lines.j1 k 108 [] h w w h cs) (fun k=>rfl) (Ev.step (fun k=>rfl) h0))
end
theorem open_rd {cs:List Int} {x:Nat}:openAt cs x = true ↔ ¬ rd cs (x:Int) = 35:=by
 unfold openAt isOpenC rd
 rw [Int.toNat_natCast];simp
theorem runs_l1 {w h:Nat} {cs:List Int} (LL:List (List Int)) (a:Nat) (ha:a < 1000) (r:List (List Int)) (L:List Nat) (hL:L.length < 1000) (hlt:∀ x ∈ L,x < cs.length):∀ (n j:Nat) (out:List (List Nat)) (own:List Nat),j + n = L.length → out.length + n < 100000 → own.length ≤ j →
  Ev (fun k=>impl_tray_strI.l0 k ((out ++ runsF (openAt cs) own (L.drop j)).map castsI) LL (LL.length:Int) ((a + 1:Nat):Int) w h cs) r →
  Ev (fun k=>impl_tray_strI.l1 k (out.map castsI) (castsI own) LL (LL.length:Int) (a:Int) (castsI L) (L.length:Int) (j:Int) w h cs) r
 | 0,j,out,own,hj,ho,hown,hr=>by
  have HW:Aside0 (wrap64 ((a:Int) + 1) = ((a + 1:Nat):Int)):=⟨by rw [w64 o_m o_m];rfl⟩
  rw [List.drop_eq_nil_of_le o_m] at hr
  unfold runsF at hr
  refine Ev.step (fun k=>?_) hr
  rw [impl_tray_strI.l1,if_neg o_m,castsI_length,HW.out]
  by_cases h0:own = []
  ·rw [if_pos h0,if_neg (by rw [h0];decide),List.append_nil]
  have:0 < own.length:=List.length_pos_iff.2 h0
  rw [if_neg h0,if_pos o_m,if_pos (by simp;omega),List.map_append];rfl
 | n + 1,j,out,own,hj,ho,hown,hr=>by
  have hjl:j < L.length:=by omega
  have HW:Aside0 (wrap64 ((j:Int) + 1) = ((j + 1:Nat):Int)):=⟨by rw [w64 o_m o_m];rfl⟩
  have hx:=hlt _ (List.getElem_mem hjl)
  rw [List.drop_eq_getElem_cons hjl] at hr
  have hrd:=rd_cast L j hjl
  have hop:=open_rd (cs:=cs) (x:=L[j]'hjl)
  generalize L[j]'hjl = x at *
  unfold runsF at hr
  have hs:∀ k,impl_tray_strI.l1 (k + 1) (out.map castsI) (castsI own) LL (LL.length:Int) (a:Int) (castsI L) (L.length:Int) (j:Int) w h cs =
    if rd cs (x:Int) = 35 then (if own = [] then impl_tray_strI.l1 k (out.map castsI) (castsI []) LL (LL.length:Int) (a:Int) (castsI L) (L.length:Int) ((j + 1:Nat):Int) w h cs else impl_tray_strI.l1 k ((out ++ [own]).map castsI) (castsI []) LL (LL.length:Int) (a:Int) (castsI L) (L.length:Int) ((j + 1:Nat):Int) w h cs)
    else impl_tray_strI.l1 k (out.map castsI) (castsI (own ++ [x])) LL (LL.length:Int) (a:Int) (castsI L) (L.length:Int) ((j + 1:Nat):Int) w h cs:=fun k=>by
   rw [impl_tray_strI.l1,if_pos o_m,if_pos o_m,castsI_length,if_pos o_m,hrd,if_pos o_m,if_pos o_m,HW.out,castsI_length]
   by_cases h35:rd cs (x:Int) = 35
   rotate_left
   ·rw [if_neg h35,if_neg h35,if_pos o_m,casts_app,casts_one]
   rw [if_pos h35,if_pos h35]
   by_cases h0:own = []
   ·rw [if_neg (by rw [h0];decide),if_pos h0,h0]
   have:0 < own.length:=List.length_pos_iff.2 h0
   rw [if_neg h0,if_pos o_m,if_pos (by simp;omega),List.map_append];rfl
  refine Ev.step hs ?_
  by_cases h35:rd cs (x:Int) = 35
  rotate_left
  ·rw [if_pos (hop.2 h35)] at hr
   exact Ev.congr (fun k=>if_neg h35) (runs_l1 LL a ha r L hL hlt n (j + 1) out (own ++ [x]) o_m o_m (by simp;omega) hr)
  have hop':¬ openAt cs x = true:=fun e=>hop.1 e h35
  rw [if_neg hop'] at hr
  refine Ev.congr (fun k=>if_pos h35) ?_
  by_cases h0:own = []
  ·rw [if_pos h0] at hr
   exact Ev.congr (fun k=>if_pos h0) (runs_l1 LL a ha r L hL hlt n (j + 1) out [] o_m o_m (by simp) hr)
  rw [if_neg h0] at hr
  refine Ev.congr (fun k=>if_neg h0) (runs_l1 LL a ha r L hL hlt n (j + 1) (out ++ [own]) [] o_m (by simp;omega) (by simp) ?_)
  rw [List.append_assoc];exact hr
theorem runsF_len (p:Nat → Bool):∀ (l own:List Nat),(runsF p own l).length ≤ l.length + 1
 | [],own=>by unfold runsF;split <;> simp
 | k :: l,own=>by
  have h1:=runsF_len p l (own ++ [k])
  have h2:=runsF_len p l []
  unfold runsF
  split
  ·simp;omega
  ·split
   ·simp;omega
   ·simp;omega
theorem runs_l0 {w h:Nat} {cs:List Int} (S:List (List Nat)) (hS:S.length < 1000) (hall:∀ L ∈ S,L.length < 10 ∧ ∀ x ∈ L,x < cs.length):∀ (n a:Nat) (out:List (List Nat)),a + n = S.length → out.length ≤ 20 * a →
  Ev (fun k=>impl_tray_strI.l0 k (out.map castsI) (S.map castsI) ((S.map castsI).length:Int) (a:Int) w h cs) ((out ++ (S.drop a).flatMap (runsF (openAt cs) [])).map castsI)
 | 0,a,out,ha,ho=>by
  rw [List.drop_eq_nil_of_le o_m]
  refine Ev.step (fun k=>by rw [impl_tray_strI.l0,if_neg (by simp;omega)]) (Ev.congr (fun k=>?_) (Ev.now _))
  rw [List.flatMap_nil,List.append_nil]
 | n + 1,a,out,ha,ho=>by
  have hal:a < S.length:=by omega
  obtain ⟨q1,q2⟩:=hall _ (List.getElem_mem hal)
  have hrow:=rows_at S a hal
  have hd:=List.drop_eq_getElem_cons hal
  rw [hd,List.flatMap_cons,← List.append_assoc]
  have hl:=runsF_len (openAt cs) (S[a]'hal) []
  have ih:=runs_l0 (w:=w) (h:=h) S hS hall n (a + 1) (out ++ runsF (openAt cs) [] (S[a]'hal)) o_m (by simp;omega)
  have:=runs_l1 (w:=w) (h:=h) (S.map castsI) a o_m _ (S[a]'hal) o_m q2 (S[a]'hal).length 0 out [] o_m o_m (by simp) (by rw [List.drop_zero];exact ih)
  refine Ev.step (fun k=>?_) this
  rw [impl_tray_strI.l0,if_pos (by simp;omega),if_pos o_m,if_pos (by simp;omega),hrow,castsI_length];rfl
section
variable {w h d:Nat} {cs:List Int} (hw:1 ≤ w ∧ w ≤ 7) (hh:1 ≤ h ∧ h ≤ 7) (hl:cs.length = w * h) (hd:d < 4)
include hw hh hl hd
theorem strI_ev:Ev (fun k=>impl_tray_strI.f k w h cs (dirB d)) ((strI w h d cs).map castsI):=by
 have hM:lnM w h d ≤ 7:=by unfold lnM;split <;> omega
 have hK:=lnK_le (d:=d) hw.2 hh.2
 refine Ev.bind (lines_ev (cs:=cs) hw hh hd) ?_
 have:=runs_l0 (w:=w) (h:=h) (cs:=cs) (linesD w h d) (by simp [linesD];omega) (fun L hL=>?_) (linesD w h d).length 0 [] o_m (by simp)
 ·exact this
 ·obtain ⟨a,ha,rfl⟩:=List.mem_map.1 hL
  exact ⟨by rw [lineD_length];omega,fun x hx=>by rw [hl];exact (mem_lines hd).1 (List.mem_flatten.2 ⟨_,hL,hx⟩)⟩
end
theorem foldl_cast:∀ (l:List Nat) (m:Nat),(castsI l).foldl min (m:Int) = ((l.foldl Nat.min m:Nat):Int)
 | [],m=>rfl
 | a :: l,m=>by
  show (castsI l).foldl min (min (m:Int) (a:Int)) = _
  have e:min (m:Int) (a:Int) = ((Nat.min m a:Nat):Int):=by
   rcases Nat.le_total m a with h | h
   ·rw [show Nat.min m a = m from Nat.min_eq_left h];omega
   ·rw [show Nat.min m a = a from Nat.min_eq_right h];omega
  rw [e,foldl_cast l];rfl
theorem minOf_casts {l:List Nat} (hne:l ≠ []):Lib.minOf (castsI l) = ((leastL l:Nat):Int):=by
 cases l with
 | nil=>exact absurd rfl hne
 | cons a l =>
  show (castsI (a :: l)).foldl min ((a:Nat):Int) = _
  rw [foldl_cast,List.foldl_cons,show Nat.min a a = a from Nat.min_self a];rfl
theorem nat_casts (l:List Nat):(castsI l).map Int.toNat = l:=by
 unfold castsI
 rw [List.map_map]
 exact (List.map_congr_left fun x _=>rfl).trans (List.map_id l)
theorem sorted_back {S:List (List Nat)} (hne:∀ st ∈ S,st ≠ []) {ys:List (List Int)} (hp:ys.Perm (S.map castsI)) (hs:ys.Pairwise fun a b=>Lib.minOf a ≤ Lib.minOf b) :
  ∃ T:List (List Nat),ys = T.map castsI ∧ T.Perm S ∧ T.Pairwise fun a b=>leastL a ≤ leastL b:=by
 have hT:(ys.map fun y=>y.map Int.toNat).Perm S:=by
  refine (hp.map _).trans (List.Perm.of_eq ?_)
  rw [List.map_map]
  exact (List.map_congr_left fun x _=>nat_casts x).trans (List.map_id S)
 have hY:ys = (ys.map fun y=>y.map Int.toNat).map castsI:=by
  rw [List.map_map]
  refine ((List.map_congr_left fun y hy=>?_).trans (List.map_id ys)).symm
  obtain ⟨l,hl,rfl⟩:=List.mem_map.1 (hp.mem_iff.1 hy)
  show castsI ((castsI l).map Int.toNat) = _
  rw [nat_casts];rfl
 refine ⟨_,hY,hT,?_⟩
 rw [hY,List.pairwise_map] at hs
 refine List.Pairwise.imp_of_mem (fun {a b} ha hb hab=>?_) hs
 rw [minOf_casts (hne a (hT.mem_iff.1 ha)),minOf_casts (hne b (hT.mem_iff.1 hb))] at hab
 omega
end Go.Proofs.YtldhkbiomingbaaGreatDoor

namespace Go.Proofs.YtldhkbiomingbaaGreatDoor
open Go.RowKit Go.YW.PrintWords Go.YW.PrintLast Go.YW.PrintMore Go.Lib Go.Shelf Go.Proofs.YtldhkbiomingbaaGreatDoor.F Go.Maps
attribute [local go_sem] max2_int min2_int
theorem set3_cell {w:World} {b b':Nat} (h:b ≠ b') (u0 u1 u2:Value) (j:Nat) {v:Value} (hc:w.cell? ⟨b,j,none⟩ = some v):(((w.setCell ⟨b',0,none⟩ u0).setCell ⟨b',1,none⟩ u1).setCell ⟨b',2,none⟩ u2).cell? ⟨b,j,none⟩ = some v:=by
 have ne:∀ k,(⟨b',k,none⟩:Addr) ≠ ⟨b,j,none⟩:=fun k e=>by injection e with e;exact h e.symm
 rw [World.cell?_setCell_other _ _ _ _ (by first | exact ne 2 | exact (ne 2).symm),World.cell?_setCell_other _ _ _ _ (by first | exact ne 1 | exact (ne 1).symm),World.cell?_setCell_other _ _ _ _ (by first | exact ne 0 | exact (ne 0).symm)]
 exact hc
theorem R_set3 {w:World} {base:Nat} {v:Value} {xs:List Int} {b:Nat} (h:Kd.R (Kd.int .u8) 5 w base (fun _=>True) v xs) (hb:b < base) (u0 u1 u2:Value):Kd.R (Kd.int .u8) 5 (((w.setCell ⟨b,0,none⟩ u0).setCell ⟨b,1,none⟩ u1).setCell ⟨b,2,none⟩ u2) base (fun _=>True) v xs:=by
 have h1:=Kd.R_mono (Kd.R_bound h) (ok':=fun k=>k ≠ b) (fun k hk=>by have:=hk.2.1;omega)
 exact Kd.R_mono (Kd.R_far (p:=⟨b,2,none⟩) (Kd.R_far (p:=⟨b,1,none⟩) (Kd.R_far (p:=⟨b,0,none⟩) h1 (fun _ hk=>hk) u0) (fun _ hk=>hk) u1) (fun _ hk=>hk) u2) (fun _ _=>trivial)
theorem tilted_calls (a0 a1 dir:Int) (A2:Option Addr) (c2:Nat) (l2:List Int) (m:List (Nat × Nat)) (w:World) (hr2:Kd.C (Kd.int .u8) w A2 l2.length l2) (hc2:l2.length ≤ c2)
  (hl:0 < l2.length ∧ l2.length < 65536) (hn:(m.map Prod.fst).Nodup) (hs:(m.map Prod.snd).Nodup) (hlt:∀ p ∈ m,p.1 < l2.length ∧ p.2 < l2.length)
  (hcall:∀ W,Below w.heap.size w W → Calls Tryz.prog 125 #[.agg #[.int .i64 a0,.int .i64 a1,.slice A2 l2.length c2],.int .u8 dir] W fun e w'=>∃ b,e = .returned (.map (some b)) ∧ W.heap.size ≤ b ∧ MapAt w' b m ∧ Below W.heap.size W w') :
  Calls Tryz.prog 103 #[.agg #[.int .i64 a0,.int .i64 a1,.slice A2 l2.length c2],.int .u8 dir] w fun e w'=>∃ v2_:Value,e = .returned (.agg #[.int .i64 a0,.int .i64 a1,v2_]) ∧ Kd.R (Kd.int .u8) 5 w' w.heap.size (fun _=>True) v2_ (putAll l2 (wallsL l2) m) ∧ Below w.heap.size w w':=by
 have HR:=am hr2
 have HC:=am hc2
 have HL:=am hl
 have HN:=am (And.intro hn (And.intro hs hlt))
 have HB:=am (Below.refl w.heap.size w)
 have HCALL:=am hcall
 clear hr2 hc2 hl hn hs hlt hcall
 go_enter Tryz.func103,Tryz.ntmps103
 go_wp2_with (first
  | (refine bx 2 #[.int .i64 a0,.int .i64 a1,.slice A2 l2.length c2] 65 ?_;intro b1 hg1 w3 hbox1 hb1;have L0:=am (blk_lt hbox1);have G1:=am hg1;have X1:=am hbox1;have B1:=am hb1;clear hg1 hbox1 hb1)
  | (refine bx 4 #[.int .i64 0,.int .i64 0,.slice none 0 0] 65 ?_;intro b2 hg2 w4 hbox2 hb2;have G2:=am hg2;have X2:=am hbox2;have B2:=am (below_step B1.out hb2);have n1:=am (blk_below X1.out hb2);clear X1;have X1:=n1;clear n1 hg2 hbox2 hb2))
 have z10:w4.cell? ⟨b1,0,none⟩ = some (.int .i64 a0):=(blk_cell X1.out 0).trans rfl
 have z11:w4.cell? ⟨b1,1,none⟩ = some (.int .i64 a1):=(blk_cell X1.out 1).trans rfl
 have z12:w4.cell? ⟨b1,2,none⟩ = some (.slice A2 l2.length c2):=(blk_cell X1.out 2).trans rfl
 have L1:=am (blk_lt X1.out)
 have hb12:b1 ≠ b2:=by have h1:=L0.out;have h2:=G2.out;omega
 have HSL:=fun W (h:Below w.heap.size w W)=>HCALL.out W h
 go_region_held3 (fun w'=>w'.cell? ⟨b1,0,none⟩ = some (.int .i64 a0) ∧ w'.cell? ⟨b1,1,none⟩ = some (.int .i64 a1) ∧ w'.cell? ⟨b1,2,none⟩ = some (.slice A2 l2.length c2)) (first | go_keep | exact ⟨y10,y11,y12⟩ | exact ⟨x10,x11,x12⟩ | exact ⟨set3_cell hb12 _ _ _ 0 x10,set3_cell hb12 _ _ _ 1 x11,set3_cell hb12 _ _ _ 2 x12⟩)
  ((first
   | (go_simp;go_at_call 125;refine (HSL _ (below_drew1 B2.out)).mono ?_;rintro e w5 ⟨b,rfl,hb0,hm,hb⟩;have Y5:=blk_below (w:=w4.drew) X1.out hb;have y10:w5.cell? ⟨b1,0,none⟩ = some (.int .i64 a0):=(blk_cell Y5 0).trans rfl;have y11:w5.cell? ⟨b1,1,none⟩ = some (.int .i64 a1):=(blk_cell Y5 1).trans rfl;have y12:w5.cell? ⟨b1,2,none⟩ = some (.slice A2 l2.length c2):=(blk_cell Y5 2).trans rfl;have B5:=am (below_step (below_drew1 B2.out) hb);have M5:=am hm;have X5:=am (blk_below (w:=w4.drew) X2.out hb);have Y6:=am Y5;clear hb0 hm hb Y5)
   | (go_simp;go_at_call 124;refine (impl_tray_carried.calls a0 a1 A2 c2 l2 b m _ (Kd.C_below HR.out B5.out) HC.out HL.out M5.out HN.out.1 HN.out.2.1 HN.out.2.2).mono ?_;rintro e w6 ⟨v,rfl,ho,hb⟩;obtain ⟨Ao,co,rfl⟩:=Kd.R_slice ho;have HO:=am ho;have B6:=am (below_step B5.out hb);have X6:=am (blk_below X5.out hb);have Z6:=blk_below Y6.out hb;have x10:w6.cell? ⟨b1,0,none⟩ = some (.int .i64 a0):=(blk_cell Z6 0).trans rfl;have x11:w6.cell? ⟨b1,1,none⟩ = some (.int .i64 a1):=(blk_cell Z6 1).trans rfl;have x12:w6.cell? ⟨b1,2,none⟩ = some (.slice A2 l2.length c2):=(blk_cell Z6 2).trans rfl;have d0:w6.cell? ⟨b2,0,none⟩ = some (.int .i64 0):=(blk_cell X6.out 0).trans rfl;have d1:w6.cell? ⟨b2,1,none⟩ = some (.int .i64 0):=(blk_cell X6.out 1).trans rfl;have d2:w6.cell? ⟨b2,2,none⟩ = some (.slice none 0 0):=(blk_cell X6.out 2).trans rfl;have f0:=blk_frozen X6.out 0;have f1:=blk_frozen X6.out 1;have f2:=blk_frozen X6.out 2;clear ho hb Z6)))
 obtain ⟨n,hn⟩:∃ n,(putAll l2 (wallsL l2) m).length = n:=⟨_,rfl⟩
 have h2w:w.heap.size ≤ b2:=by rw [G2.out];exact B1.out.size
 try simp only [hn]
 go_wp2
 have hb25:b2 < w5.heap.size:=blk_lt X5.out
 refine bodyPost_ret (results_cell_row rfl _ _ b2 65 #[.int .i64 a0,.int .i64 a1,.slice Ao n co] (0,0) _ rfl (by exact blk_put (blk_put (blk_put X6.out 0 (.int .i64 a0) rfl) 1 (.int .i64 a1) rfl) 2 (.slice Ao n co) rfl) Tryz.underlying65 rfl k_r) rfl ?_
 refine ⟨.slice Ao n co,rfl,?_,((B6.out.setCell (p:=⟨b2,0,none⟩) h2w _).setCell (p:=⟨b2,1,none⟩) h2w _).setCell (p:=⟨b2,2,none⟩) h2w _⟩
 have hO:=HO.out
 rw [hn] at hO
 exact Kd.R_lower (R_set3 hO hb25 _ _ _) B5.out.size
end Go.Proofs.YtldhkbiomingbaaGreatDoor

namespace Go.Proofs.YtldhkbiomingbaaGreatDoor
open Go.RowKit Go.YW.PrintWords Go.YW.PrintLast Go.YW.PrintMore Go.Lib Go.Proofs.YtldhkbiomingbaaGreatDoor.F
theorem stretches_calls {w h d:Nat} {cs:List Int} (hw:1 ≤ w ∧ w ≤ 7) (hh:1 ≤ h ∧ h ≤ 7) (hl:cs.length = w * h) (hd:d < 4) (A2:Option Addr) (c2:Nat) (W:World) (hr2:Kd.C (Kd.int .u8) W A2 cs.length cs) (hc2:cs.length ≤ c2) :
  Calls Tryz.prog 172 #[.agg #[.int .i64 w,.int .i64 h,.slice A2 cs.length c2],.int .u8 (dirB d)] W fun e w'=>∃ v,e = .returned v ∧ Kd.R (Kd.slice 3 (Kd.int .i64)) 40 w' W.heap.size (fun _=>True) v ((strD w h d cs).map castsI) ∧ Below W.heap.size W w':=by
 obtain ⟨k,hk⟩:=Ev.rounds (strI_ev hw hh hl hd)
 have hp:=strD_perm hd cs (w:=w) (h:=h)
 obtain ⟨f1,f2,f3,f4,f5⟩:=strD_facts hw hh hl hd
 have hne:=strI_ne (w:=w) (h:=h) (d:=d) (cs:=cs)
 have hml:∀ st ∈ strI w h d cs,Lib.minOf (castsI st) = ((leastL st:Nat):Int) ∧ leastL st < 65536:=fun st hs=>by
  have h1:=f2 st (hp.mem_iff.2 hs) _ (leastL_mem (hne st hs))
  have h2:=f1.2
  exact ⟨minOf_casts (hne st hs),by omega⟩
 refine (impl_tray_strI.calls k w h A2 c2 cs (dirB d) _ W hr2 hc2 (fun x hx=>?_) (by rw [List.length_map,← hp.length_eq];exact f4) (fun x hx=>?_) hk).mono ?_
 ·obtain ⟨st,hs,rfl⟩:=List.mem_map.1 hx
  intro e
  have:=hne st hs
  unfold castsI at e
  exact this (List.map_eq_nil_iff.1 e)
 ·obtain ⟨st,hs,rfl⟩:=List.mem_map.1 hx
  obtain ⟨h1,h2⟩:=hml st hs
  rw [h1];omega
 ·rintro e w' ⟨v,rfl,⟨ys,hp',hs',hR⟩,hb⟩
  obtain ⟨T,rfl,hT,hsT⟩:=sorted_back hne hp' hs'
  rw [strD_of hd hT hsT] at hR
  exact ⟨v,rfl,hR,hb⟩
def impl_tray_tilted.f (a0 a1:Int) (l:List Int) (c:Int):Option (Int × Int × List Int):=if gridI a0 a1 l ∧ isDirC c = true then some (a0,a1,tiltD a0.toNat a1.toNat (dirIx c).toNat l) else none
theorem impl_tilted_eq {w h:Nat} {cs:List Int} {c:Int} (hw:1 ≤ w ∧ w ≤ 7) (hh:1 ≤ h ∧ h ≤ 7) (hl:cs.length = w * h) (hc:isDirC c = true):impl_tray_tilted.f w h cs c = some ((w:Int),(h:Int),tiltD w h (dirIx c).toNat cs):=if_pos ⟨gridI_nat hw hh hl,hc⟩
theorem slide_calls {w h d:Nat} {cs:List Int} (hw:1 ≤ w ∧ w ≤ 7) (hh:1 ≤ h ∧ h ≤ 7) (hl:cs.length = w * h) (hd:d < 4) (A2:Option Addr) (c2:Nat) (W:World) (hr2:Kd.C (Kd.int .u8) W A2 cs.length cs) (hc2:cs.length ≤ c2) :
  Calls Tryz.prog 125 #[.agg #[.int .i64 w,.int .i64 h,.slice A2 cs.length c2],.int .u8 (dirB d)] W fun e w'=>∃ b,e = .returned (.map (some b)) ∧ W.heap.size ≤ b ∧ MapAt w' b (mvD w h d cs) ∧ Below W.heap.size W w':=by
 obtain ⟨f1,f2,f3,f4,f5⟩:=strD_facts hw hh hl hd
 exact impl_tray_slide.calls w h (dirB d) A2 c2 cs (strD w h d cs) W hr2 hc2 f1 f2 f3 f4 f5 fun W' hW=>stretches_calls hw hh hl hd A2 c2 W' (Kd.C_below hr2 hW) hc2
theorem impl_tray_tilted.calls (a0_0 a0_1:Int) (A0_2:Option Addr) (c0_2:Nat) (l0_2:List Int) (a1:Int) (r1 r2:Int) (r3:List Int) (w:World) (hr0_2:Kd.C (Kd.int .u8) w A0_2 l0_2.length l0_2) (hc0_2:l0_2.length ≤ c0_2) (h:impl_tray_tilted.f a0_0 a0_1 l0_2 a1 = some (r1,r2,r3)) :
  Calls Tryz.prog 103 #[.agg #[.int .i64 a0_0,.int .i64 a0_1,.slice A0_2 l0_2.length c0_2],.int .u8 a1] w fun e w'=>∃ v2_:Value,e = .returned (.agg #[.int .i64 r1,.int .i64 r2,v2_]) ∧ Kd.R (Kd.int .u8) 5 w' w.heap.size (fun _=>True) v2_ r3 ∧ Below w.heap.size w w':=by
 unfold impl_tray_tilted.f at h
 split at h
 case isFalse=>cases h
 rename_i hc
 obtain ⟨⟨hw,hh,hl⟩,hdir⟩:=hc
 injection h with h
 injection h with h1 h
 injection h with h2 h3
 subst h1 h2 h3
 obtain ⟨W,rfl⟩:∃ n:Nat,a0_0 = n:=⟨a0_0.toNat,by omega⟩
 obtain ⟨H,rfl⟩:∃ n:Nat,a0_1 = n:=⟨a0_1.toNat,by omega⟩
 obtain ⟨e1,hd',_⟩:=dirB_ix hdir
 generalize (dirIx a1).toNat = d at *
 subst e1
 simp only [Int.toNat_natCast] at hl ⊢
 have hw':1 ≤ W ∧ W ≤ 7:=by omega
 have hh':1 ≤ H ∧ H ≤ 7:=by omega
 obtain ⟨f1,_⟩:=strD_facts hw' hh' hl hd'
 exact tilted_calls W H (dirB d) A0_2 c0_2 l0_2 (mvD W H d l0_2) w hr0_2 hc0_2 f1 (mv_fst hd') (mv_snd hd') (fun p hp=>by
  have:=mv_mem hd' hp
  rw [hl];exact ⟨this.1,this.2.2.1⟩) (fun W' hW=>slide_calls hw' hh' hl hd' A0_2 c0_2 W' (Kd.C_below hr0_2 hW) hc0_2)
end Go.Proofs.YtldhkbiomingbaaGreatDoor

namespace Go.Proofs.YtldhkbiomingbaaGreatDoor
open Go.RowKit Go.YW.PrintWords Go.YW.PrintLast Go.YW.PrintMore Go.Lib
attribute [local go_sem] max2_int min2_int
def placeN (ns:List Node) (x:ByteArray):Nat:=ns.findIdx fun n=>decide (n.text = x)
theorem placeN_at {ns:List Node} {x:ByteArray} {i:Nat} (h:∀ j,j < i → ∀ hj:j < ns.length,(decide (ns[j].text = x)) = false) (hi:i < ns.length) (he:(decide (ns[i].text = x)) = true):placeN ns x = i:=by
 unfold placeN
 rw [List.findIdx_eq hi]
 exact ⟨he,fun j hj=>h j hj o_m⟩
theorem placeN_none {ns:List Node} {x:ByteArray} (h:∀ j,∀ hj:j < ns.length,(decide (ns[j].text = x)) = false):placeN ns x = ns.length:=by
 unfold placeN
 rw [List.findIdx_eq_length]
 intro n hn
 obtain ⟨j,hj,rfl⟩:=List.getElem_of_mem hn
 exact h j hj
def placeR (ns:List Node) (x:ByteArray):Int:=if placeN ns x < ns.length then (placeN ns x:Int) else -1
theorem text_beq (a b:ByteArray):(a.toList == b.toList) = decide (a = b):=by
 rw [Bool.eq_iff_iff,beq_iff_eq,decide_eq_true_iff]
 refine ⟨fun e=>?_,fun e=>congrArg _ e⟩
 rw [ByteArray.toList_eq,ByteArray.toList_eq] at e
 exact ByteArray.ext (Array.toList_inj.1 e)
theorem rePlace_calls (b o c:Nat) (ns:List Node) (x:ByteArray) (W:World) (hc:ns.length ≤ c) (hn:ns.length < 65536) (hat:∀ W',Below W.heap.size W W' → ∀ i (hi:i < ns.length),NodeC W' b o i (ns[i]'hi)) :
  Calls Tryz.prog 101 #[.slice (some ⟨b,o,none⟩) ns.length c,.string x] W fun e w'=>e = .returned (.int .i64 (placeR ns x)) ∧ Below W.heap.size W w':=by
 have HAT:=am hat
 have HC:=am hc
 have HN:=am hn
 clear hat hc hn
 go_enter Tryz.func101,Tryz.ntmps101
 go_wp2
 go_loopw [9] (fun v9 wr=>∃ i:Nat,i ≤ ns.length ∧ v9 = .int .i64 i ∧ Aside0 (∀ j,j < i → ∀ hj:j < ns.length,(decide (ns[j].text = x)) = false) ∧ Aside0 (Below W.heap.size W wr)) (fun v9 _=>ns.length - (intOf v9).toNat)
 case atStart=>exact ⟨0,Nat.zero_le _,rfl,⟨fun j hj=>absurd hj (Nat.not_lt_zero j)⟩,⟨Below.refl _ _⟩⟩
 case round =>
  obtain ⟨i,hi,rfl,HF,HB⟩:=hrel
  by_cases hlt:i < ns.length
  rotate_left
  ·have hge:¬ (i:Int) < (ns.length:Int):=by omega
   obtain rfl:i = ns.length:=by omega
   have hp:=placeN_none (fun j hj=>HF.out j hj hj)
   have HP:=am hp
   clear hp
   go_wp2
   go_ret
   exact ⟨by have e:=HP.out;simp [placeR,e],HB.out⟩
  obtain ⟨p,Ag,cg,Ax,cx,zp,z0,z1,z2,z3,_⟩:=HAT.out wr HB.out i hlt
  have hltI:(i:Int) < (ns.length:Int):=by omega
  have HL:=am hlt
  have HX:=am (text_beq ns[i].text x)
  have HP:=am (fun he:(decide (ns[i].text = x)) = true=>placeN_at HF.out hlt he)
  have HNO:=am (fun he:(decide (ns[i].text = x)) = false=>(fun j hj hj'=>by
   by_cases e:j = i
   ·subst e;exact he
   ·exact HF.out j o_m hj':∀ j,j < i + 1 → ∀ hj:j < ns.length,(decide (ns[j].text = x)) = false))
  have hw1:IntKind.i64.wrap ((i:Int) + 1) = ((i + 1:Nat):Int):=by rw [IntKind.wrap_i64];have:=HN.out;omega
  clear z0 z1 z2
  generalize ns[i].text = tx at *
  cases hb:decide (tx = x) with
  | true =>
   have hb2:(tx.toList == x.toList) = true:=by rw [HX.out,hb]
   go_wp2
   go_ret
   exact ⟨by have e:=HP.out hb;have l:=HL.out;simp [placeR,e,l],HB.out⟩
  | false =>
   have hb2:(tx.toList == x.toList) = false:=by rw [HX.out,hb]
   go_wp2
   go_roundw
   case rel=>exact ⟨i + 1,HL.out,by first | rfl | simp,⟨HNO.out hb⟩,HB⟩
   case measure=>have:=HL.out;simp [intOf];omega
end Go.Proofs.YtldhkbiomingbaaGreatDoor

namespace Go.Proofs.YtldhkbiomingbaaGreatDoor.F
open Go.Proofs.YtldhkbiomingbaaGreatDoor
open Go.RowKit Go.YW.PrintWords Go.YW.PrintLast Go.YW.PrintMore Go.Lib
def ptrS:Kd Nat:=Kd.scalar (fun p:Nat=>Value.pointer (some ⟨p,0,none⟩)) (fun _=>rfl)
def txG (w h:Nat) (c:List Int):ByteArray:=textB (w,h,c)
structure AllAt (w0 W:World) (w h:Nat) (cs0:List Int) (s:RS) (Q:List Int) (P:List Nat) (L:List NodeM) (v:Value):Prop where
 ok:RS.Ok w h cs0 s
 lQ:Q.length = s.T.length
 ns:L.map NodeM.n = nodesL (txG w h) w h s Q P
 nd:Nodes 77 W w0.heap.size L
 row:ptrS.R 73 W w0.heap.size (fun _=>True) v (L.map NodeM.p)
 bel:Below w0.heap.size w0 W
section
variable {w0 W w1:World} {w h:Nat} {cs0:List Int} {s:RS} {Q:List Int} {P:List Nat} {L:List NodeM} {v:Value}
theorem AllAt.len (a:AllAt w0 W w h cs0 s Q P L v):L.length = s.T.length:=by
 have:=congrArg List.length a.ns
 rwa [List.length_map,nodesL_len] at this
theorem AllAt.node (a:AllAt w0 W w h cs0 s Q P L v) {i:Nat} (hi:i < L.length):(L[i]'hi).n = nodeF (txG w h) w h s Q P i:=by
 have h1:(L.map NodeM.n)[i]? = some (L[i]'hi).n:=by rw [List.getElem?_map,List.getElem?_eq_getElem hi];rfl
 rw [a.ns,List.getElem?_eq_getElem (by rw [nodesL_len,← a.len];exact hi),nodesL_get] at h1
 exact (Option.some.inj h1).symm
theorem AllAt.blk (a:AllAt w0 W w h cs0 s Q P L v) {i:Nat} (hi:i < L.length):W.heap[(L[i]'hi).p]? = some (.cells (L[i]'hi).cells 77 (0,0)):=(a.nd.at_ _ (List.getElem_mem hi)).blk
theorem AllAt.apart (a:AllAt w0 W w h cs0 s Q P L v):∀ q ∈ L,some q.p ≠ v.ownBlock:=fun q hq=>Kd.R_ne a.row (a.nd.at_ q hq).blk d_c
theorem AllAt.below (a:AllAt w0 W w h cs0 s Q P L v) (hb:Below W.heap.size W w1):AllAt w0 w1 w h cs0 s Q P L v :=
 ⟨a.ok,a.lQ,a.ns,a.nd.below hb,Kd.R_below a.row hb,below_step a.bel hb⟩
theorem AllAt.reads (a:AllAt w0 W w h cs0 s Q P L v):Kd.R (ptrK 77 nodeK) 73 W w0.heap.size (fun _=>True) v (nodesL (txG w h) w h s Q P):=by
 have:=a.nd.reads a.row a.apart d_c d_c d_c d_c
 rwa [a.ns] at this
theorem AllAt.opens (a:AllAt w0 W w h cs0 s Q P L v):∃ b o c,v = .slice (some ⟨b,o,none⟩) s.T.length c ∧ s.T.length ≤ c ∧ (∀ i,(hi:i < L.length) → W.cell? ⟨b,o + i,none⟩ = some (.pointer (some ⟨(L[i]'hi).p,0,none⟩))) ∧
  ∀ W',Below W.heap.size W W' → ∀ i (hi:i < (nodesL (txG w h) w h s Q P).length),NodeC W' b o i ((nodesL (txG w h) w h s Q P)[i]'hi):=by
 have hpos:=a.ok.pos
 obtain ⟨b,o,c,e,hc,_,hat⟩:=nodes_open a.reads (fun e=>absurd (show s.T.length = 0 by rw [← nodesL_len (tx:=txG w h) (w:=w) (h:=h) (s:=s) (Q:=Q) (P:=P),e];rfl) o_m)
 rw [nodesL_len] at e hc
 subst e
 refine ⟨b,o,c,rfl,hc,fun i hi=>?_,hat⟩
 obtain ⟨A,c2,e2,_,hC⟩:=Kd.R_reads a.row
 injection e2 with e2 e3 _
 subst e2
 obtain ⟨bk,o',e4,_,hcs⟩:=C_place hC (by rw [List.length_map];omega)
 injection e4 with e4
 injection e4 with e4 e5
 subst e4 e5
 exact hcs i _ (by rw [List.getElem?_map,List.getElem?_eq_getElem hi];rfl)
theorem Nodes.add {tN:TypeId} {base:Nat} (h:Nodes tN W base L) (hB:Below W.heap.size W w1) {p:Nat} (hp:W.heap.size ≤ p) (hb:base ≤ p) {g:Value} {n:Node} (hn:n.next = [])
  (hblk:w1.heap[p]? = some (.cells (NodeM.cells ⟨p,g,.slice none 0 0,n⟩) tN (0,0))) (hg:Kd.R (Kd.int .u8) 5 w1 base (fun _=>True) g n.grid):Nodes tN w1 base (L ++ [⟨p,g,.slice none 0 0,n⟩]):=by
 refine ⟨fun q hq=>?_,?_,?_⟩
 ·rcases List.mem_append.1 hq with hq | hq
  ·exact (h.at_ q hq).below hB
  ·rw [List.mem_singleton.1 hq]
   exact ⟨hb,hblk,hg,by show Kd.R (Kd.int .i64) _ _ _ _ (.slice none 0 0) n.next;rw [hn];exact Kd.R_nil _ _ _ _ _⟩
 ·rw [List.map_append,List.nodup_append]
  refine ⟨h.dup,by simp,fun a ha b hb=>?_⟩
  obtain ⟨q,hq,rfl⟩:=List.mem_map.1 ha
  have:=blk_lt (h.at_ q hq).blk
  rw [List.mem_singleton.1 hb]
  show q.p ≠ p
  omega
 ·rw [List.pairwise_append]
  refine ⟨h.own,by simp,fun a ha b hb k hk=>?_⟩
  rw [List.mem_singleton.1 hb]
  exact fun e=>by cases e
theorem AllAt.push (a:AllAt w0 W w h cs0 s Q P L v) {W1:World} {k d p:Nat} {c:List Int} {u:List Nat} {f:Nat} {g v1:Value} (hk:s.N.length = k) (hkT:k < s.T.length)
  (ok:RS.Ok w h cs0 { s with T:=s.T ++ [c],F:=s.F ++ [f],W:=s.W ++ [u],B:=s.B ++ [(k,d)] })
  (hB:Below W.heap.size W W1) (hp:W.heap.size ≤ p) (hblk:W1.heap[p]? = some (.cells #[.int .i64 w,.int .i64 h,g,.string (txG w h c),.int .i64 f,.int .i64 0,.int .i64 k,.int .i64 d,.slice none 0 0] 77 (0,0)))
  (hg:Kd.R (Kd.int .u8) 5 W1 w0.heap.size (fun _=>True) g c)
  (hr:ptrS.R 73 w1 w0.heap.size (fun _=>True) v1 (L.map NodeM.p ++ [p]))
  (hb:Below w0.heap.size w0 w1)
  (hgr:W1.grownBy w1 v.ownBlock) :
  AllAt w0 w1 w h cs0 { s with T:=s.T ++ [c],F:=s.F ++ [f],W:=s.W ++ [u],B:=s.B ++ [(k,d)] } (Q ++ [0]) P (L ++ [⟨p,g,.slice none 0 0,{ w:=w,h:=h,grid:=c,text:=txG w h c,far:=f,words:=0,before:=k,dir:=d,next:=[] }⟩]) v1:=by
 have hpp:=Nodes.add a.nd hB hp (Nat.le_trans a.bel.size hp) (g:=g) (n:={ w:=w,h:=h,grid:=c,text:=txG w h c,far:=f,words:=0,before:=k,dir:=d,next:=[] }) rfl hblk hg
 refine ⟨ok,by simp [a.lQ],?_,?_,by rw [List.map_append];exact hr,hb⟩
 ·rw [List.map_append,a.ns,nodesL_push a.ok.lF a.ok.lB a.lQ o_m (by have:=a.ok.pos;omega)];rfl
 ·have hty':∀ j,v.ownBlock = some j → ∃ cells,W1.heap[j]? = some (.cells cells 73 (0,0)):=fun j hj=>by
   obtain ⟨cells,hc⟩:=Kd.R_typed a.row j hj
   exact ⟨cells,(hB.block j (blk_lt hc)).trans hc⟩
  refine ⟨fun q hq=>?_,hpp.dup,hpp.own⟩
  have hN:=hpp.at_ q hq
  refine ⟨hN.low,?_,Kd.R_over' hN.grid hty' d_c hgr,Kd.R_over' hN.next hty' d_c hgr⟩
  refine blk_grown hN.blk hgr (fun e=>?_)
  obtain ⟨cells,hc⟩:=hty' _ e.symm
  rw [hN.blk] at hc
  injection hc with hc
  injection hc with _ ht _
  exact absurd ht d_c
theorem AllAt.words (a:AllAt w0 W w h cs0 s Q P L v) {i:Nat} (hi:i < L.length) (x:Int) :
  AllAt w0 (W.setCell ⟨(L[i]'hi).p,5,none⟩ (.int .i64 x)) w h cs0 s (Q.set i x) P (L.set i ⟨(L[i]'hi).p,(L[i]'hi).g,(L[i]'hi).x,{ (L[i]'hi).n with words:=x }⟩) v:=by
 have hil:i < (nodesL (txG w h) w h s Q P).length:=by rw [nodesL_len,← a.len];exact hi
 refine ⟨a.ok,by rw [List.length_set];exact a.lQ,?_,a.nd.put d_c d_c hi rfl rfl ?_,?_,a.bel.setCell (p:=⟨(L[i]'hi).p,5,none⟩) (a.nd.at_ _ (List.getElem_mem hi)).low _⟩
 ·rw [List.map_set,a.ns,nodesL_words hil a.lQ,nodesL_get,a.node hi]
 ·simp [NodeM.cells]
 ·rw [List.map_set]
  have e:(L.map NodeM.p).set i (L[i]'hi).p = L.map NodeM.p:=by
   apply List.ext_getElem (by simp)
   intro j h1 h2
   rw [List.getElem_set]
   split
   ·subst_vars;simp
   ·rfl
  show ptrS.R _ _ _ _ v ((L.map NodeM.p).set i (L[i]'hi).p)
  rw [e]
  exact R_off rfl a.row (a.blk hi) d_c _
theorem AllAt.way (a:AllAt w0 W w h cs0 s Q P L v) {k x:Nat} (hk:s.N.length = k) (hi:k < L.length) {v':Value} (hr:Kd.R (Kd.int .i64) 3 w1 w0.heap.size (fun _=>True) v' ((L[k]'hi).n.next ++ [(x:Int)]))
  (hg:W.grownBy w1 (L[k]'hi).x.ownBlock) (hb:Below w0.heap.size w0 w1) (hat:v'.ownBlock = (L[k]'hi).x.ownBlock ∨ ∃ b,v'.ownBlock = some b ∧ W.heap.size ≤ b) :
  AllAt w0 (w1.setCell ⟨(L[k]'hi).p,8,none⟩ v') w h cs0 s Q (P ++ [x]) (L.set k ⟨(L[k]'hi).p,(L[k]'hi).g,v',{ (L[k]'hi).n with next:=(L[k]'hi).n.next ++ [(x:Int)] }⟩) v:=by
 have hkl:s.N.length < (nodesL (txG w h) w h s Q P).length:=by rw [nodesL_len,← a.len,hk];exact hi
 refine ⟨a.ok,a.lQ,?_,a.nd.way d_c d_c hi hr hg hat,?_,hb.setCell (p:=⟨(L[k]'hi).p,8,none⟩) (a.nd.at_ _ (List.getElem_mem hi)).low _⟩
 ·rw [List.map_set,a.ns,nodesL_way hkl,nodesL_get]
  simp only [hk]
  rw [a.node hi]
 ·rw [List.map_set]
  have e:(L.map NodeM.p).set k (L[k]'hi).p = L.map NodeM.p:=by
   apply List.ext_getElem (by simp)
   intro j h1 h2
   rw [List.getElem_set]
   split
   ·subst_vars;simp
   ·rfl
  show ptrS.R _ _ _ _ v ((L.map NodeM.p).set k (L[k]'hi).p)
  rw [e]
  have h1:=Kd.R_over' a.row (Kd.R_typed (a.nd.at_ _ (List.getElem_mem hi)).next) d_c hg
  have h2:w1.heap[(L[k]'hi).p]? = some (.cells (L[k]'hi).cells 77 (0,0)):=blk_grown (a.blk hi) hg (fun e=>by
   obtain ⟨cells,hc⟩:=Kd.R_typed (a.nd.at_ _ (List.getElem_mem hi)).next _ e.symm
   rw [a.blk hi] at hc
   injection hc with hc
   injection hc with _ ht _
   exact absurd ht d_c)
  exact R_off rfl h1 h2 d_c _
theorem AllAt.row' (a:AllAt w0 W w h cs0 s Q P L v) (ok:RS.Ok w h cs0 { s with N:=s.N ++ [P] }):AllAt w0 W w h cs0 { s with N:=s.N ++ [P] } Q [] L v :=
 ⟨ok,a.lQ,a.ns.trans nodesL_row.symm,a.nd,a.row,a.bel⟩
theorem place_nodes (ok:RS.Ok w h cs0 s) {c:List Int} (vc:Vg (w,h,c)):placeR (nodesL (txG w h) w h s Q P) (txG w h c) = if findT s.T c < s.T.length then (findT s.T c:Int) else -1:=by
 have hN:∀ j,(hj:j < (nodesL (txG w h) w h s Q P).length) → (nodesL (txG w h) w h s Q P)[j].text = txG w h (s.T.getD j []):=fun j hj=>by rw [nodesL_get];rfl
 have hne:∀ j,(hj:j < s.T.length) → s.T[j] ≠ c → txG w h (s.T.getD j []) ≠ txG w h c:=fun j hj hn e=>by
  rw [getD_lt hj] at e
  have:=textB_inj (ok.tray _ (List.getElem_mem hj)) vc e
  injection this with _ this
  injection this with _ this
  exact hn this
 unfold placeR
 by_cases hf:findT s.T c < s.T.length
 ·have e1:placeN (nodesL (txG w h) w h s Q P) (txG w h c) = findT s.T c:=by
   refine placeN_at (fun j hj hjl=>?_) (by rw [nodesL_len];exact hf) ?_
   ·rw [hN j hjl]
    refine decide_eq_false (hne j (by rw [nodesL_len] at hjl;exact hjl) ?_)
    have:=List.not_of_lt_findIdx (p:=(· == c)) (xs:=s.T) (i:=j) hj
    simpa using this
   ·rw [hN _ (by rw [nodesL_len];exact hf),getD_lt hf,findT_get hf];exact decide_eq_true rfl
  rw [e1,nodesL_len]
 have e1:placeN (nodesL (txG w h) w h s Q P) (txG w h c) = (nodesL (txG w h) w h s Q P).length:=by
  refine placeN_none (fun j hj=>?_)
  rw [hN j hj]
  have hj':j < s.T.length:=by rw [nodesL_len] at hj;exact hj
  refine decide_eq_false (hne j hj' (fun e=>hf ?_))
  unfold findT
  rw [List.findIdx_lt_length]
  exact ⟨_,List.getElem_mem hj',by rw [e];exact beq_self_eq_true _⟩
 rw [e1,if_neg (Nat.lt_irrefl _),if_neg hf]
end
end Go.Proofs.YtldhkbiomingbaaGreatDoor.F
