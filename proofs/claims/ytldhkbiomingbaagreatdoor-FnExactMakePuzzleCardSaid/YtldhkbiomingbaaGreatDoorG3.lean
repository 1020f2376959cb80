/- The proof that the law's row holds, part 3: the kit's words, the printed walks and the plain law. No conditions beyond the card's own. -/
import Derived.Test.YtldhkbiomingbaaGreatDoorG0
import Derived.Test.YtldhkbiomingbaaGreatDoorG1
import Derived.Test.YtldhkbiomingbaaGreatDoorG2
set_option linter.unusedVariables false
set_option linter.unusedSimpArgs false
set_option maxHeartbeats 8000000
set_option maxRecDepth 100000
namespace Go.Proofs.YtldhkbiomingbaaGreatDoor.F
open Go.Proofs.YtldhkbiomingbaaGreatDoor
open Go.RowKit Go.YW.PrintWords Go.YW.PrintLast Go.YW.PrintMore
attribute [local go_sem] max2_int min2_int max_two min_two max_three min_three max_four min_four
mutual
def spec_tiStretches.l0:Nat → Int → List (List Int) → List Int → Int → Int → Int → Int → List Int → Option ((List (List Int)))
 | 0,_,_,_,_,_,_,_,_=>none
 | k + 1,x1,x5,x13,x14,x15,x102000,x102001,x102002=>if x15 < x14 then (if 0 ≤ x15 then (if x15 < (x13.length:Int) then (if (rd x13 x15) = 35 then (spec_tiStretches.j1 k x1 x5 x15 x13 x14 x15 true x102000 x102001 x102002) else ((spec_tiAhead.f x102000 x102001 x102002 x15 x1).bind fun t103=>(spec_tiStretches.j1 k x1 x5 x15 x13 x14 x15 (decide (t103 ≥ 0)) x102000 x102001 x102002))) else (none)) else (none)) else (some x5)
def spec_tiStretches.j1:Nat → Int → List (List Int) → Int → List Int → Int → Int → Bool → Int → Int → List Int → Option ((List (List Int)))
 | 0,_,_,_,_,_,_,_,_,_,_=>none
 | k + 1,x1,x5,x6,x13,x14,x15,x28,x102000,x102001,x102002=>if x28 = true then (spec_tiStretches.l0 k x1 x5 x13 x14 (wrap64 (x15 + 1)) x102000 x102001 x102002) else ((spec_tiAhead.f x102000 x102001 x102002 x6 (Int.tmod (wrap64 (x1 + 2)) 4)).bind fun t107=>(spec_tiStretches.l1 k x1 x5 (([x6]:List Int)) t107 x13 x14 x15 x102000 x102001 x102002))
def spec_tiStretches.l1:Nat → Int → List (List Int) → List Int → Int → List Int → Int → Int → Int → Int → List Int → Option ((List (List Int)))
 | 0,_,_,_,_,_,_,_,_,_,_=>none
 | k + 1,x1,x5,x8,x9,x13,x14,x15,x102000,x102001,x102002=>if x9 ≥ 0 then (if x8.length < 17592186044416 then ((spec_tiAhead.f x102000 x102001 x102002 x9 (Int.tmod (wrap64 (x1 + 2)) 4)).bind fun t111=>(spec_tiStretches.l1 k x1 x5 (x8 ++ [x9]) t111 x13 x14 x15 x102000 x102001 x102002)) else (none)) else (spec_tiStretches.l2 k x1 x5 x8 0 x13 x14 x15 x102000 x102001 x102002)
def spec_tiStretches.l2:Nat → Int → List (List Int) → List Int → Int → List Int → Int → Int → Int → Int → List Int → Option ((List (List Int)))
 | 0,_,_,_,_,_,_,_,_,_,_=>none
 | k + 1,x1,x5,x8,x10,x13,x14,x15,x102000,x102001,x102002=>if x10 < (x5.length:Int) then (if 0 ≤ x10 then ((spec_tiFirst.f k (rd_L3 x5 x10)).bind fun t113=>((spec_tiFirst.f k x8).bind fun t114=>(if t113 < t114 then (spec_tiStretches.l2 k x1 x5 x8 (wrap64 (x10 + 1)) x13 x14 x15 x102000 x102001 x102002) else ((some (([]:List (List Int)):List (List Int))).bind fun y115=>(if x10 ≤ (x5.length:Int) then ((some (x5.take (x10:Int).toNat:List (List Int))).bind fun y118=>(if y115.length + y118.length < 5864062014805 then ((some (y115 ++ y118:List (List Int))).bind fun y123=>(if y123.length < 5864062014805 then ((some (y123 ++ [x8]:List (List Int))).bind fun y126=>((some (x5.drop (x10:Int).toNat:List (List Int))).bind fun y129=>(if y126.length + y129.length < 5864062014805 then (spec_tiStretches.l0 k x1 (y126 ++ y129) x13 x14 (wrap64 (x15 + 1)) x102000 x102001 x102002) else (none)))) else (none))) else (none))) else (none)))))) else (none)) else ((some (([]:List (List Int)):List (List Int))).bind fun y137=>(if 0 ≤ x10 then (if x10 ≤ (x5.length:Int) then ((some (x5.take (x10:Int).toNat:List (List Int))).bind fun y140=>(if y137.length + y140.length < 5864062014805 then ((some (y137 ++ y140:List (List Int))).bind fun y145=>(if y145.length < 5864062014805 then ((some (y145 ++ [x8]:List (List Int))).bind fun y148=>((some (x5.drop (x10:Int).toNat:List (List Int))).bind fun y151=>(if y148.length + y151.length < 5864062014805 then (spec_tiStretches.l0 k x1 (y148 ++ y151) x13 x14 (wrap64 (x15 + 1)) x102000 x102001 x102002) else (none)))) else (none))) else (none))) else (none)) else (none)))
end
def spec_tiStretches.f (k:Nat) (a0_0:Int) (a0_1:Int) (l0_2:List Int) (a1:Int):Option ((List (List Int))):=spec_tiStretches.l0 k a1 ([]:List (List Int)) l0_2 (l0_2.length:Int) 0 a0_0 a0_1 l0_2
theorem spec_tiStretches.mono_l:∀ k,(∀ y0 y1 y2 y3 y4 y5 y6 y7,LeO (spec_tiStretches.l0 k y0 y1 y2 y3 y4 y5 y6 y7) (spec_tiStretches.l0 (k + 1) y0 y1 y2 y3 y4 y5 y6 y7)) ∧ (∀ y0 y1 y2 y3 y4 y5 y6 y7 y8 y9,LeO (spec_tiStretches.j1 k y0 y1 y2 y3 y4 y5 y6 y7 y8 y9) (spec_tiStretches.j1 (k + 1) y0 y1 y2 y3 y4 y5 y6 y7 y8 y9)) ∧ (∀ y0 y1 y2 y3 y4 y5 y6 y7 y8 y9,LeO (spec_tiStretches.l1 k y0 y1 y2 y3 y4 y5 y6 y7 y8 y9) (spec_tiStretches.l1 (k + 1) y0 y1 y2 y3 y4 y5 y6 y7 y8 y9)) ∧ (∀ y0 y1 y2 y3 y4 y5 y6 y7 y8 y9,LeO (spec_tiStretches.l2 k y0 y1 y2 y3 y4 y5 y6 y7 y8 y9) (spec_tiStretches.l2 (k + 1) y0 y1 y2 y3 y4 y5 y6 y7 y8 y9))
 | 0=>⟨fun _ _ _ _ _ _ _ _ r h=>by simp [spec_tiStretches.l0] at h,fun _ _ _ _ _ _ _ _ _ _ r h=>by simp [spec_tiStretches.j1] at h,fun _ _ _ _ _ _ _ _ _ _ r h=>by simp [spec_tiStretches.l1] at h,fun _ _ _ _ _ _ _ _ _ _ r h=>by simp [spec_tiStretches.l2] at h⟩
 | k + 1=>by
  obtain ⟨ih0,ih1,ih2,ih3⟩:=spec_tiStretches.mono_l k
  refine ⟨?_,?_,?_,?_⟩
  ·intro y0 y1 y2 y3 y4 y5 y6 y7
   unfold spec_tiStretches.l0
   have im0:=@spec_tiFirst.mono;exact mo
  ·intro y0 y1 y2 y3 y4 y5 y6 y7 y8 y9
   unfold spec_tiStretches.j1
   have im0:=@spec_tiFirst.mono;exact mo
  ·intro y0 y1 y2 y3 y4 y5 y6 y7 y8 y9
   unfold spec_tiStretches.l1
   have im0:=@spec_tiFirst.mono;exact mo
  ·intro y0 y1 y2 y3 y4 y5 y6 y7 y8 y9
   unfold spec_tiStretches.l2
   have im0:=@spec_tiFirst.mono;exact mo
theorem spec_tiStretches.calls (k:Nat) (a0_0:Int) (a0_1:Int) (A0_2:Option Addr) (c0_2:Nat) (l0_2:List Int) (a1:Int) (r:List (List Int)) (w:World) (hr0_2:Kd.C (Kd.int .u8) w A0_2 l0_2.length l0_2) (hc0_2:l0_2.length ≤ c0_2) (h:spec_tiStretches.f k a0_0 a0_1 l0_2 a1 = some r) :
  Calls Tryz.prog 120 #[.agg #[.int .i64 a0_0,.int .i64 a0_1,.slice A0_2 l0_2.length c0_2],.int .i64 a1] w fun e w'=>∃ v0_:Value,e = .returned (v0_) ∧ Kd.N (Kd.slice 3 (Kd.int .i64)) 40 w' w.heap.size (fun k_=>(w.heap.size ≤ k_)) v0_ r ∧ Below w.heap.size w w':=by
 have hu75:=Tryz.underlying75
 have HR0_2:=am hr0_2
 have HC0_2:=am hc0_2
 clear hr0_2 hc0_2
 have HB:=am (Below.refl w.heap.size w)
 have H:(spec_tiStretches.l0 k a1 ([]:List (List Int)) l0_2 (l0_2.length:Int) 0 a0_0 a0_1 l0_2) = some r:=h
 clear h
 have H':=am H
 clear H
 go_enter Tryz.func120,Tryz.ntmps120
 go_wp2_with (first | (refine bx 2 #[.int .i64 a0_0,.int .i64 a0_1,.slice A0_2 l0_2.length c0_2] 75 ?_;intro gb101 hg w3 hbox hb;have BK101:=am (hbox);have GW101:=am ((by rw [hg];exact (below_size aq1):w.heap.size ≤ gb101));have GE101:=GW101;replace HB:=am (below_step aq1 hb);clear hb hbox hg;obtain ⟨hcz4_0,hcz4_1,hcz4_2,hfz4_0,hfz4_1,hfz4_2⟩:=blk3_ BK101.out))
 go_loopg [5,15] k (fun kq v5 v15 w'=>∃ (x5_1:List (List Int)) (x15_1:Int),v15 = .int .i64 x15_1 ∧ Aside0 (spec_tiStretches.l0 kq a1 x5_1 l0_2 (l0_2.length:Int) x15_1 a0_0 a0_1 l0_2 = some r) ∧ Aside0 (kq ≤ k) ∧ Aside0 (Kd.N (Kd.slice 3 (Kd.int .i64)) 40 w' w.heap.size (fun k_=>(w.heap.size ≤ k_) ∧ k_ ≠ gb101) v5 x5_1) ∧ Aside0 (w'.heap[gb101]? = some (.cells #[.int .i64 a0_0,.int .i64 a0_1,(.slice A0_2 l0_2.length c0_2)] 75 (0,0))) ∧ Aside0 (Below w.heap.size w w'))
 case atStart=>exact ⟨(([]:List (List Int))),(0),aq7,H',⟨Nat.le_refl _⟩,⟨aq102⟩,⟨aq2⟩,⟨aq0⟩⟩
 case round =>
  clear H'
  try clear c1
  try clear p2
  try clear hcz4_0
  try clear hcz4_1
  try clear hcz4_2
  try clear hfz4_0
  try clear hfz4_1
  try clear hfz4_2
  obtain ⟨x5_1,x15_1,rfl,HA,HK1,HO_5,BK101,HB⟩:=hrel
  cases gk with
  | zero=>exact absurd HA.out (by simp [spec_tiStretches.l0])
  | succ k1 =>
   have H:=HA.out
   clear HA
   simp only [spec_tiStretches.l0] at H
   by_cases c5:x15_1 < (l0_2.length:Int)
   rotate_left
   ·rw [if_neg c5] at H
    have c5b0:=decide_eq_false c5
    clear c5
    obtain rfl:=Option.some.inj H
    go_wp2
    go_ret
    exact ⟨_,aq8,by (with_reducible repeat (first | apply Kd.N_alloc | apply Kd.N_drewN | apply Kd.N_drew));exact Kd.N_mono HO_5.out (fun _ hk=>hk.1),aq0⟩
   rw [if_pos c5] at H
   have c5b0:=decide_eq_true c5
   clear c5
   replace H:=gd H
   obtain ⟨c6,H⟩:=H
   have c6b0:=decide_eq_true c6
   clear c6
   replace H:=gd H
   obtain ⟨c7,H⟩:=H
   have c7b0:=decide_eq_true c7
   clear c7
   have HC8:=am H
   clear H
   have p102:0 ≤ (x15_1:Int):=of_decide_eq_true aq5
   have q102:x15_1 < (l0_2.length:Int):=of_decide_eq_true aq5
   obtain ⟨ad102,e102,hx102_0⟩:=Kd.at_int HR0_2.out x15_1 p102 q102
   cases e102
   try replace hx102_0:=(HB.out.cell (World.block_lt_of_cell? w _ hx102_0)).trans hx102_0
   replace p102:=eq_true p102
   replace q102:=eq_true q102
   go_upto_region 5 with (fail)
   go_cut [28] (fun v28 wc=>∃ (kq:Nat) (x28_7:Bool),v28 = .bool x28_7 ∧ Aside0 (spec_tiStretches.j1 kq a1 x5_1 x15_1 l0_2 (l0_2.length:Int) x15_1 x28_7 a0_0 a0_1 l0_2 = some r) ∧ Aside0 (kq ≤ k1) ∧ Aside0 (Kd.N (Kd.slice 3 (Kd.int .i64)) 40 wc w.heap.size (fun k_=>(w.heap.size ≤ k_) ∧ k_ ≠ gb101) u5 x5_1) ∧ Aside0 (wc.heap[gb101]? = some (.cells #[.int .i64 a0_0,.int .i64 a0_1,(.slice (some ad102) l0_2.length c0_2)] 75 (0,0))) ∧ Aside0 (Below w.heap.size w wc))
   case first =>
    have H:=HC8.out
    clear HC8
    by_cases c9:(rd l0_2 x15_1) = 35
    ·rw [if_pos c9] at H
     have c9b0:=beq_iff_eq.mpr c9
     have c9b1:=bne_eq_false_iff_eq.mpr c9
     clear c9
     (first | rw [c9b0] | (simp only [i64_w,i32_w];rw [c9b0]) | skip)
     have H':=am H
     clear H
     go_wp2
     go_meet
     case rel=>exact ⟨_,(true),aq7,H',⟨aq66⟩,⟨aq22⟩,⟨aq2⟩,⟨aq0⟩⟩
    rw [if_neg c9] at H
    have c9b0:=beq_eq_false_iff_ne.mpr c9
    have c9b1:=bne_iff_ne.mpr c9
    (first | rw [c9b0] | (simp only [i64_w,i32_w];rw [c9b0]) | skip)
    obtain ⟨t103,A10,H⟩:=bn H
    have H':=am H
    clear H
    obtain ⟨hcz11_0,hcz11_1,hcz11_2,hfz11_0,hfz11_1,hfz11_2⟩:=blk3_ BK101.out
    go_wp2_with (first | (go_at_call 160;(with_reducible refine (spec_tiAhead.calls a0_0 a0_1 _ _ l0_2 x15_1 a1 t103 _ ?side1 ?side2 A10.out).mono ?_);(case side1=>exact aq10);(case side2=>exact HC0_2.out);rintro e w12 ⟨rfl,hb⟩;replace HO_5:=am (Kd.N_below aq22 hb);replace BK101:=am (bb BK101 hb);replace HB:=am (below_step aq0 hb);(try clear hb)))
    go_meet
    case rel=>exact ⟨_,(decide (t103 ≥ 0)),aq7,H',⟨aq66⟩,⟨aq22⟩,⟨aq2⟩,⟨aq0⟩⟩
   case rest =>
    clear HC8
    try clear c1
    try clear p1
    try clear q1
    try clear hx1
    try clear p2
    try clear c5
    try clear c5b0
    try clear c6
    try clear c6b0
    try clear c7
    try clear c7b0
    try clear c9
    try clear c9b0
    try clear c9b1
    try clear p10
    try clear q10
    try clear hx10
    try clear c12
    try clear hcz11_0
    try clear hcz11_1
    try clear hcz11_2
    try clear hcz4_0
    try clear hcz4_1
    try clear hcz4_2
    try clear hfz11_0
    try clear hfz11_1
    try clear hfz11_2
    try clear hfz4_0
    try clear hfz4_1
    try clear hfz4_2
    try clear hx102_0
    try clear p102
    try clear p2
    try clear q102
    obtain ⟨kq,x28_7,rfl,HA,HJ7,HO_5,BK101,HB⟩:=hcut
    cases kq with
    | zero=>exact absurd HA.out (by simp [spec_tiStretches.j1])
    | succ kj7 =>
     have H:=HA.out
     clear HA
     simp only [spec_tiStretches.j1] at H
     by_cases c13:x28_7 = true
     ·subst c13
      rw [if_pos rfl] at H
      have H':=am H
      clear H
      go_wp2
      go_roundg kj7
      case measure=>have:=HK1.out;have:=HJ7.out;omega
      case rel=>exact ⟨(x5_1),(wrap64 (x15_1 + 1)),aq7,H',⟨by have:=HK1.out;have:=HJ7.out;omega⟩,⟨aq22⟩,⟨aq2⟩,⟨aq0⟩⟩
     replace c13:=Bool.eq_false_iff.mpr c13
     subst c13
     rw [if_neg Bool.false_ne_true] at H
     obtain ⟨y104,hy_⟩:∃ y_:List Int,y_ = (([x15_1]:List Int)):=⟨_,rfl⟩
     replace H:((spec_tiAhead.f a0_0 a0_1 l0_2 x15_1 (Int.tmod (wrap64 (a1 + 2)) 4)).bind fun t107=>(spec_tiStretches.l1 kj7 a1 x5_1 y104 t107 l0_2 (l0_2.length:Int) x15_1 a0_0 a0_1 l0_2)) = some r:=aq3
     have Ny104:=am hy_
     clear hy_
     obtain ⟨t107,A14,H⟩:=bn H
     have H':=am H
     clear H
     go_wp2_with (first | ((with_reducible refine gate_dst (N:=30) rfl ?_);refine Kd.R_lit (Kd.int .i64) _ 3 ?hg (N:=30) ?hd (xs:=([x15_1]:List Int)) (inner:=[.int .i64 x15_1]) (ok:=fun _=>True) (okp:=fun _=>True) ?hr ?hp (fun _ hk=>hk) trivial (Below.refl _ _) (Nat.le_refl _) (by simp) ?_;(case hd=>rfl);(case hg=>rfl);(case hr=>exact aq15);(case hp=>exact (Reps.one (show Kd.M (Kd.int .i64) _ _ _ x15_1 [.int .i64 x15_1] from rfl) (Reps.none _ _)));intro v105 w15 ho16 hb hg_ hnew_;clear hg_ hnew_;(first | rw [← Ny104.out] at ho16 | (simp only [Int.reduceToNat] at ho16;rw [← Ny104.out] at ho16));replace HO_5:=am (Kd.N_elder' aq22 (Kd.R_base ho16) hb);have HO106:=am (Kd.R_lower (Kd.R_newM (M:=fun k_=>(w.heap.size ≤ k_)) ho16 (below_size aq0) (fun k_ h_=>h_)) (below_size aq0));replace BK101:=am (bb BK101 hb);replace HB:=am (below_step aq0 hb);clear hb ho16;obtain ⟨hcz17_0,hcz17_1,hcz17_2,hfz17_0,hfz17_1,hfz17_2⟩:=blk3_ BK101.out) | ((with_reducible refine gate_callee (f:=160) rfl ?_);refine goesL_ (some 36) rfl rfl Tryz.func160 k_r rfl #[.agg #[.int .i64 a0_0,.int .i64 a0_1,.slice (some ad102) l0_2.length c0_2],.int .i64 x15_1,.int .i64 (Int.tmod (wrap64 (a1 + 2)) 4)] rfl aq6 ?_;(with_reducible refine (spec_tiAhead.calls a0_0 a0_1 _ _ l0_2 x15_1 (Int.tmod (wrap64 (a1 + 2)) 4) t107 _ ?side1 ?side2 A14.out).mono ?_);(case side1=>exact aq10);(case side2=>exact HC0_2.out);rintro e w18 ⟨rfl,hb⟩;refine ⟨_,rfl,?_⟩;replace HO_5:=am (Kd.N_below aq22 hb);replace HO106:=am (Kd.R_below aq29 hb);replace BK101:=am (bb BK101 hb);replace HB:=am (below_step aq0 hb);(try clear hb)))
     go_loopg [8,9] kj7 (fun kq v8 v9 w'=>∃ (x8_3:List Int) (x9_3:Int),v9 = .int .i64 x9_3 ∧ Aside0 (spec_tiStretches.l1 kq a1 x5_1 x8_3 x9_3 l0_2 (l0_2.length:Int) x15_1 a0_0 a0_1 l0_2 = some r) ∧ Aside0 (kq ≤ kj7) ∧ Aside0 (Kd.N (Kd.slice 3 (Kd.int .i64)) 40 w' w.heap.size (fun k_=>(w.heap.size ≤ k_) ∧ some k_ ≠ (v8:Value).ownBlock ∧ k_ ≠ gb101) u5 x5_1) ∧ Aside0 (Kd.R (Kd.int .i64) 3 w' w.heap.size (fun k_=>(w.heap.size ≤ k_)) v8 x8_3) ∧ Aside0 (w'.heap[gb101]? = some (.cells #[.int .i64 a0_0,.int .i64 a0_1,(.slice (some ad102) l0_2.length c0_2)] 75 (0,0))) ∧ Aside0 (Below w.heap.size w w'))
     case atStart=>exact ⟨(y104),(t107),aq7,H',⟨Nat.le_refl _⟩,⟨aq100⟩,⟨by (with_reducible repeat (first | apply Kd.R_alloc | apply Kd.R_drewN | apply Kd.R_drew));exact Kd.R_mono HO106.out (fun _ hk=>hk.1)⟩,⟨aq2⟩,⟨aq0⟩⟩
     case round =>
      clear H'
      try clear c1
      try clear p1
      try clear q1
      try clear hx1
      try clear p2
      try clear c5
      try clear c5b0
      try clear c6
      try clear c6b0
      try clear p6
      try clear c7
      try clear c7b0
      try clear c9
      try clear c9b0
      try clear c9b1
      try clear p10
      try clear q10
      try clear hx10
      try clear c12
      try clear c13
      try clear c16
      try clear hcz11_0
      try clear hcz11_1
      try clear hcz11_2
      try clear hcz17_0
      try clear hcz17_1
      try clear hcz17_2
      try clear hcz4_0
      try clear hcz4_1
      try clear hcz4_2
      try clear hfz11_0
      try clear hfz11_1
      try clear hfz11_2
      try clear hfz17_0
      try clear hfz17_1
      try clear hfz17_2
      try clear hfz4_0
      try clear hfz4_1
      try clear hfz4_2
      try clear hx102_0
      try clear p1
      try clear p10
      try clear p102
      try clear p2
      try clear q1
      try clear q10
      try clear q102
      obtain ⟨x8_3,x9_3,rfl,HA,HK3,HO_5,HO_8,BK101,HB⟩:=hrel
      cases gk with
      | zero=>exact absurd HA.out (by simp [spec_tiStretches.l1])
      | succ k3 =>
       have H:=HA.out
       clear HA
       simp only [spec_tiStretches.l1] at H
       by_cases c19:x9_3 ≥ 0
       ·rw [if_pos c19] at H
        have c19b0:=decide_eq_true c19
        clear c19
        replace H:=gd H
        obtain ⟨c20,H⟩:=H
        have LMc20:=am c20
        clear c20
        obtain ⟨y108,hy_⟩:∃ y_:List Int,y_ = (x8_3 ++ [x9_3]):=⟨_,rfl⟩
        replace H:((spec_tiAhead.f a0_0 a0_1 l0_2 x9_3 (Int.tmod (wrap64 (a1 + 2)) 4)).bind fun t111=>(spec_tiStretches.l1 k3 a1 x5_1 y108 t111 l0_2 (l0_2.length:Int) x15_1 a0_0 a0_1 l0_2)) = some r:=aq3
        have Ny108:=am hy_
        clear hy_
        obtain ⟨t111,A21,H⟩:=bn H
        have H':=am H
        clear H
        go_wp2_with (first | ((with_reducible refine gate_builtin (b:=.append) (xs:=#[.tmp 45,.tmp 47]) rfl ?_);at_builtin;refine Kd.R_append (Kd.int .i64) (w0:=w) w.heap.size rfl (.tmp 45) (.tmp 47) 40 3 (.int .i64 0) 8 rfl Tryz.underlying40 info3 rfl d_c o_m u8 x8_3 x9_3 [.int .i64 x9_3] (fun k_=>(w.heap.size ≤ k_)) (fun _=>False) rfl rfl ?aP (fun _ hk=>hk.elim) ?aF ?aO ?aB ?aS ?aL ?_;(case aP=>exact rfl);(case aB=>exact aq0);(case aF=>exact (fun k_ hk=>(Nat.le_trans (below_size aq0) hk)));(case aO=>exact aq31);(case aS=>exact aq74);(case aL=>have:=LMc20.out;omega);intro v109 w22 ho hb hg hat;rw [← Ny108.out] at ho;replace HO_5:=am (Kd.N_afterv (ok:=(fun k_=>(w.heap.size ≤ k_) ∧ k_ ≠ gb101)) (by (with_reducible repeat (first | apply Kd.N_alloc | apply Kd.N_drewN | apply Kd.N_drew));exact Kd.N_mono HO_5.out (fun _ hk=>⟨⟨hk.1,hk.2.2⟩,hk.2.1⟩)) hg hat);replace BK101:=am (bg BK101 hg (Kd.R_ne HO_8.out BK101.out d_c));replace HB:=am (hb);have HO110:=am (ho);clear HO_8 ho hb hg hat;obtain ⟨hcz23_0,hcz23_1,hcz23_2,hfz23_0,hfz23_1,hfz23_2⟩:=blk3_ BK101.out) | ((with_reducible refine gate_callee (f:=160) rfl ?_);refine goesL_ (some 44) rfl rfl Tryz.func160 k_r rfl #[.agg #[.int .i64 a0_0,.int .i64 a0_1,.slice (some ad102) l0_2.length c0_2],.int .i64 x9_3,.int .i64 (Int.tmod (wrap64 (a1 + 2)) 4)] rfl aq6 ?_;(with_reducible refine (spec_tiAhead.calls a0_0 a0_1 _ _ l0_2 x9_3 (Int.tmod (wrap64 (a1 + 2)) 4) t111 _ ?side1 ?side2 A21.out).mono ?_);(case side1=>exact aq10);(case side2=>exact HC0_2.out);rintro e w24 ⟨rfl,hb⟩;refine ⟨_,rfl,?_⟩;replace HO_5:=am (Kd.N_below aq22 hb);replace HO110:=am (Kd.R_below (by (with_reducible repeat (first | apply Kd.R_alloc | apply Kd.R_drewN | apply Kd.R_drew));exact HO110.out) hb);replace BK101:=am (bb BK101 hb);replace HB:=am (below_step aq0 hb);(try clear hb)))
        go_roundg k3
        case measure=>have:=HK1.out;have:=HJ7.out;have:=HK3.out;omega
        case rel=>exact ⟨(y108),(t111),aq7,H',⟨by have:=HK1.out;have:=HJ7.out;have:=HK3.out;omega⟩,⟨aq100⟩,⟨by (with_reducible repeat (first | apply Kd.R_alloc | apply Kd.R_drewN | apply Kd.R_drew));exact HO110.out⟩,⟨aq2⟩,⟨aq0⟩⟩
       rw [if_neg c19] at H
       have c19b0:=decide_eq_false c19
       clear c19
       have H':=am H
       clear H
       go_wp2
       go_loopg [10] k3 (fun kq v10 w'=>∃ (x10_4:Int),v10 = .int .i64 x10_4 ∧ Aside0 (spec_tiStretches.l2 kq a1 x5_1 x8_3 x10_4 l0_2 (l0_2.length:Int) x15_1 a0_0 a0_1 l0_2 = some r) ∧ Aside0 (kq ≤ k3) ∧ Aside0 (Kd.N (Kd.slice 3 (Kd.int .i64)) 40 w' w.heap.size (fun k_=>(w.heap.size ≤ k_) ∧ some k_ ≠ (u8:Value).ownBlock ∧ k_ ≠ gb101) u5 x5_1) ∧ Aside0 (Kd.R (Kd.int .i64) 3 w' w.heap.size (fun k_=>(w.heap.size ≤ k_)) u8 x8_3) ∧ Aside0 (w'.heap[gb101]? = some (.cells #[.int .i64 a0_0,.int .i64 a0_1,(.slice (some ad102) l0_2.length c0_2)] 75 (0,0))) ∧ Aside0 (Below w.heap.size w w'))
       case atStart=>exact ⟨(0),aq7,H',⟨Nat.le_refl _⟩,⟨aq22⟩,⟨aq31⟩,⟨aq2⟩,⟨aq0⟩⟩
       case round =>
        clear H'
        try clear c1
        try clear p1
        try clear q1
        try clear hx1
        try clear c2
        try clear p2
        try clear c5
        try clear c5b0
        try clear c6
        try clear c6b0
        try clear p6
        try clear c7
        try clear c7b0
        try clear c9
        try clear c9b0
        try clear c9b1
        try clear p10
        try clear q10
        try clear hx10
        try clear c12
        try clear c13
        try clear c16
        try clear c19
        try clear c19b0
        try clear c20
        try clear hcz11_0
        try clear hcz11_1
        try clear hcz11_2
        try clear hcz17_0
        try clear hcz17_1
        try clear hcz17_2
        try clear hcz23_0
        try clear hcz23_1
        try clear hcz23_2
        try clear hcz4_0
        try clear hcz4_1
        try clear hcz4_2
        try clear hfz11_0
        try clear hfz11_1
        try clear hfz11_2
        try clear hfz17_0
        try clear hfz17_1
        try clear hfz17_2
        try clear hfz23_0
        try clear hfz23_1
        try clear hfz23_2
        try clear hfz4_0
        try clear hfz4_1
        try clear hfz4_2
        try clear hx102_0
        try clear p1
        try clear p10
        try clear p102
        try clear p2
        try clear p6
        try clear q1
        try clear q10
        try clear q102
        obtain ⟨x10_4,rfl,HA,HK4,HO_5,HO_8,BK101,HB⟩:=hrel
        cases gk with
        | zero=>exact absurd HA.out (by simp [spec_tiStretches.l2])
        | succ k4 =>
         have H:=HA.out
         clear HA
         simp only [spec_tiStretches.l2] at H
         by_cases c25:x10_4 < (x5_1.length:Int)
         rotate_left
         ·rw [if_neg c25] at H
          have c25b0:=decide_eq_false c25
          clear c25
          obtain ⟨y137,hy_⟩:∃ y_:List (List Int),y_ = (([]:List (List Int))):=⟨_,rfl⟩
          replace H:(if 0 ≤ x10_4 then (if x10_4 ≤ (x5_1.length:Int) then ((some (x5_1.take (x10_4:Int).toNat:List (List Int))).bind fun y140=>(if y137.length + y140.length < 5864062014805 then ((some (y137 ++ y140:List (List Int))).bind fun y145=>(if y145.length < 5864062014805 then ((some (y145 ++ [x8_3]:List (List Int))).bind fun y148=>((some (x5_1.drop (x10_4:Int).toNat:List (List Int))).bind fun y151=>(if y148.length + y151.length < 5864062014805 then (spec_tiStretches.l0 k4 a1 (y148 ++ y151) l0_2 (l0_2.length:Int) (wrap64 (x15_1 + 1)) a0_0 a0_1 l0_2) else (none)))) else (none))) else (none))) else (none)) else (none)) = some r:=aq3
          have Ny137:=am hy_
          clear hy_
          replace H:=gd H
          obtain ⟨c48,H⟩:=H
          have c48b0:=eq_true c48
          have c48b1:=decide_eq_true c48
          clear c48
          replace H:=gd H
          obtain ⟨c49,H⟩:=H
          have c49b0:=eq_true c49
          have c49b1:=decide_eq_true c49
          clear c49
          obtain ⟨y140,hy_⟩:∃ y_:List (List Int),y_ = (x5_1.take (x10_4:Int).toNat):=⟨_,rfl⟩
          replace H:(if y137.length + y140.length < 5864062014805 then ((some (y137 ++ y140:List (List Int))).bind fun y145=>(if y145.length < 5864062014805 then ((some (y145 ++ [x8_3]:List (List Int))).bind fun y148=>((some (x5_1.drop (x10_4:Int).toNat:List (List Int))).bind fun y151=>(if y148.length + y151.length < 5864062014805 then (spec_tiStretches.l0 k4 a1 (y148 ++ y151) l0_2 (l0_2.length:Int) (wrap64 (x15_1 + 1)) a0_0 a0_1 l0_2) else (none)))) else (none))) else (none)) = some r:=aq3
          have Ny140:=am hy_
          clear hy_
          replace H:=gd H
          obtain ⟨c50,H⟩:=H
          have LMc50:=am c50
          clear c50
          obtain ⟨y145,hy_⟩:∃ y_:List (List Int),y_ = (y137 ++ y140):=⟨_,rfl⟩
          replace H:(if y145.length < 5864062014805 then ((some (y145 ++ [x8_3]:List (List Int))).bind fun y148=>((some (x5_1.drop (x10_4:Int).toNat:List (List Int))).bind fun y151=>(if y148.length + y151.length < 5864062014805 then (spec_tiStretches.l0 k4 a1 (y148 ++ y151) l0_2 (l0_2.length:Int) (wrap64 (x15_1 + 1)) a0_0 a0_1 l0_2) else (none)))) else (none)) = some r:=aq3
          have Ny145:=am hy_
          clear hy_
          replace H:=gd H
          obtain ⟨c51,H⟩:=H
          have LMc51:=am c51
          clear c51
          obtain ⟨y148,hy_⟩:∃ y_:List (List Int),y_ = (y145 ++ [x8_3]):=⟨_,rfl⟩
          replace H:((some (x5_1.drop (x10_4:Int).toNat:List (List Int))).bind fun y151=>(if y148.length + y151.length < 5864062014805 then (spec_tiStretches.l0 k4 a1 (y148 ++ y151) l0_2 (l0_2.length:Int) (wrap64 (x15_1 + 1)) a0_0 a0_1 l0_2) else (none))) = some r:=aq3
          have Ny148:=am hy_
          clear hy_
          have c52b0:=eq_true (of_decide_eq_true aq5:0 ≤ x10_4)
          have c53b0:=eq_true (of_decide_eq_true aq5:x10_4 ≤ (x5_1.length:Int))
          obtain ⟨y151,hy_⟩:∃ y_:List (List Int),y_ = (x5_1.drop (x10_4:Int).toNat):=⟨_,rfl⟩
          replace H:(if y148.length + y151.length < 5864062014805 then (spec_tiStretches.l0 k4 a1 (y148 ++ y151) l0_2 (l0_2.length:Int) (wrap64 (x15_1 + 1)) a0_0 a0_1 l0_2) else (none)) = some r:=aq3
          have Ny151:=am hy_
          clear hy_
          replace H:=gd H
          obtain ⟨c54,H⟩:=H
          have LMc54:=am c54
          clear c54
          obtain ⟨y156,hy_⟩:∃ y_:List (List Int),y_ = (y148 ++ y151):=⟨_,rfl⟩
          replace H:(spec_tiStretches.l0 k4 a1 y156 l0_2 (l0_2.length:Int) (wrap64 (x15_1 + 1)) a0_0 a0_1 l0_2) = some r:=aq3
          have Ny156:=am hy_
          clear hy_
          have H':=am H
          clear H
          obtain ⟨Ao55,co55,eo55⟩:=Kd.N_slice HO_5.out
          subst eo55
          go_wp2_with (first | ((with_reducible refine gate_dst (N:=65) rfl ?_);refine Kd.N_lit (Kd.slice 3 (Kd.int .i64)) _ 40 ?hg (N':=65) ?hd (xs:=([]:List (List Int))) (inner:=[]) (ok:=(fun k_=>(w.heap.size ≤ k_) ∧ some k_ ≠ (.slice Ao55 x5_1.length co55:Value).ownBlock ∧ some k_ ≠ (u8:Value).ownBlock ∧ k_ ≠ gb101)) (okp:=(fun k_=>(w.heap.size ≤ k_) ∧ some k_ ≠ (.slice Ao55 x5_1.length co55:Value).ownBlock ∧ some k_ ≠ (u8:Value).ownBlock ∧ k_ ≠ gb101)) ?hr ?hp (fun _ hk=>hk) ((show ∀ k_,wr.heap.size ≤ k_ → (fun k_=>(w.heap.size ≤ k_) ∧ some k_ ≠ (.slice Ao55 x5_1.length co55:Value).ownBlock ∧ some k_ ≠ (u8:Value).ownBlock ∧ k_ ≠ gb101) k_ from fun k_ hk=>⟨(Nat.le_trans (below_size aq0) hk),Kd.fresh' (Kd.N_lt aq22) k_ hk,Kd.fresh' (Kd.R_lt aq31) k_ hk,Kd.freshB (g:=gb101) (o:=.cells #[.int .i64 a0_0,.int .i64 a0_1,.slice (some ad102) l0_2.length c0_2] 75 (0,0)) aq2 k_ hk⟩) _ (Nat.le_refl _)) (Below.refl _ _) (Nat.le_refl _) (by simp) ?_;(case hd=>rfl);(case hg=>rfl);(case hr=>exact aq15);(case hp=>exact (Reps.none _ _));intro v138 w56 ho57 hb hg_ hnew_;clear hg_ hnew_;(first | rw [← Ny137.out] at ho57 | (simp only [Int.reduceToNat] at ho57;rw [← Ny137.out] at ho57));replace HO_5:=am (Kd.N_elder' aq22 (Kd.N_base ho57) hb);replace HO_8:=am (Kd.R_below aq31 hb);have HO139:=am (Kd.N_lower ho57 (below_size aq0));replace BK101:=am (bb BK101 hb);replace HB:=am (below_step aq0 hb);clear hb ho57;have q58:(x10_4:Int) ≤ ((x5_1.length:Int):Int):=of_decide_eq_true aq5;obtain ⟨i058,hi058,_,hsz58,_⟩:=info_parts info40;have hroom58:x5_1.length ≤ co55:=(Kd.N_reads' HO_5.out).2.1;have hC58:Kd.F (Kd.slice 3 (Kd.int .i64)) _ _ Ao55 x5_1.length x5_1:=(Kd.V_at (base:=w.heap.size) (Kd.N_V HO_5.out)).2.2;have hcut58:=cut_to (P:=Tryz.prog) 57 40 .i64 Tryz.underlying57 hi058 Ao55 x5_1.length co55 x10_4 (of_decide_eq_true aq5) q58 hroom58;have hr58:=Kd.F_take (m:=(x10_4:Int).toNat) hC58 o_m;have hy58:y140.length = (x10_4:Int).toNat:=(by rw [Ny140.out,List.length_take];omega);rw [← Ny140.out] at hr58;rw [← hy58] at hcut58;have HO144:=am (show Kd.V (Kd.slice 3 (Kd.int .i64)) 40 _ w.heap.size _ (.slice Ao55 y140.length co55) y140 from Kd.V_mk o_m hr58);have HC144:=am (show y140.length ≤ co55 from by omega);clear hr58 hC58 hroom58 hi058 hsz58;have KY58:=am hy58;clear hy58;replace q58:=eq_true q58) | ((with_reducible refine gate_builtin (b:=.append) (xs:=#[.tmp 65,.tmp 68]) rfl ?_);at_builtin;refine Kd.N_append_rows (Kd.slice 3 (Kd.int .i64)) (w0:=w) w.heap.size rfl (.tmp 65) (.tmp 68) 57 40 (.slice none 0 0) 24 rfl Tryz.underlying57 info40 rfl d_c o_m v138 y137 y140 _ _ _ (fun k_=>(w.heap.size ≤ k_) ∧ some k_ ≠ (u8:Value).ownBlock ∧ k_ ≠ gb101) (fun k_=>((fun k_=>(w.heap.size ≤ k_) ∧ some k_ ≠ (u8:Value).ownBlock ∧ k_ ≠ gb101)) k_ ∧ some k_ ≠ (v138:Value).ownBlock) rfl rfl ?aO ?aR (fun _ hk=>hk) ?aF ?aB ?aS ?aL ?_;(case aR=>exact (by skip;exact Kd.V_F (Kd.V_mono (ok':=(fun k_=>((fun k_=>(w.heap.size ≤ k_) ∧ some k_ ≠ (u8:Value).ownBlock ∧ k_ ≠ gb101)) k_ ∧ some k_ ≠ (v138:Value).ownBlock)) (HO144.out) (fun k_ hk=>⟨⟨hk.1.1,⟨hk.1.2.1,hk.1.2.2⟩⟩,hk.2⟩))));(case aB=>exact aq0);(case aF=>exact aq87);(case aO=>exact (by (with_reducible repeat (first | apply Kd.N_alloc | apply Kd.N_drewN | apply Kd.N_drew));exact Kd.N_mono HO139.out (fun _ hk=>⟨hk.1,⟨hk.2.2.1,hk.2.2.2⟩⟩)));(case aS=>exact aq74);(case aL=>have:=LMc50.out;omega);intro v146 w59 ho hb hg hat;rw [← Ny145.out] at ho;replace HO_5:=am (Kd.N_afterv (ok:=(fun k_=>(w.heap.size ≤ k_) ∧ some k_ ≠ (u8:Value).ownBlock ∧ k_ ≠ gb101)) aq22 hg hat);replace HO_8:=am (Kd.R_over' aq31 (Kd.N_typed (by (with_reducible repeat (first | apply Kd.N_alloc | apply Kd.N_drewN | apply Kd.N_drew));exact HO139.out)) d_c hg);replace BK101:=am (bg BK101 hg (Kd.N_ne HO139.out BK101.out d_c));replace HO144:=am (Kd.V_afterv (ok:=(fun k_=>(w.heap.size ≤ k_) ∧ some k_ ≠ (u8:Value).ownBlock ∧ k_ ≠ gb101)) (by (with_reducible repeat (first | apply Kd.V_alloc | apply Kd.V_drewN | apply Kd.V_drew));exact HO144.out) hg hat);replace HB:=am (hb);have HO147:=am (ho);clear HO139 ho hb hg hat;obtain ⟨Ao61,co61,eo61⟩:=Kd.R_slice HO_8.out;subst eo61) | ((with_reducible refine gate_builtin (b:=.append) (xs:=#[.tmp 69,.tmp 71]) rfl ?_);at_builtin;refine Kd.N_append (Kd.slice 3 (Kd.int .i64)) (w0:=w) w.heap.size rfl (.tmp 69) (.tmp 71) 57 40 (.slice none 0 0) 24 rfl Tryz.underlying57 info40 rfl d_c o_m v146 y145 x8_3 [.slice Ao61 x8_3.length co61] (fun k_=>(w.heap.size ≤ k_) ∧ k_ ≠ gb101) (fun k_=>((fun k_=>(w.heap.size ≤ k_) ∧ k_ ≠ gb101)) k_ ∧ some k_ ≠ (v146:Value).ownBlock) rfl rfl ?aP (fun _ hk=>hk) ?aF ?aO ?aB ?aS ?aL ?_;(case aP=>exact (Kd.FK_slice_mk (Kd.R_reads' (Kd.R_mono (ok':=(fun k_=>((fun k_=>(w.heap.size ≤ k_) ∧ k_ ≠ gb101)) k_ ∧ some k_ ≠ (v146:Value).ownBlock)) (Kd.R_types (Kd.R_apart' (HO_8.out) (Kd.N_typed HO147.out) d_c) BK101.out d_c) (fun k_ hk=>⟨⟨hk.1.1,hk.2⟩,hk.1.2⟩))).2.1 (Kd.R_F (Kd.R_mono (ok':=(fun k_=>((fun k_=>(w.heap.size ≤ k_) ∧ k_ ≠ gb101)) k_ ∧ some k_ ≠ (v146:Value).ownBlock)) (Kd.R_types (Kd.R_apart' (HO_8.out) (Kd.N_typed HO147.out) d_c) BK101.out d_c) (fun k_ hk=>⟨⟨hk.1.1,hk.2⟩,hk.1.2⟩)))));(case aB=>exact aq0);(case aF=>exact aq49);(case aO=>exact (by (with_reducible repeat (first | apply Kd.N_alloc | apply Kd.N_drewN | apply Kd.N_drew));exact Kd.N_mono HO147.out (fun _ hk=>⟨hk.1,hk.2.2⟩)));(case aS=>exact aq74);(case aL=>have:=LMc51.out;omega);intro v149 w60 ho hb hg hat;rw [← Ny148.out] at ho;replace HO_5:=am (Kd.N_afterv (ok:=(fun k_=>(w.heap.size ≤ k_) ∧ some k_ ≠ (.slice Ao61 x8_3.length co61:Value).ownBlock ∧ k_ ≠ gb101)) aq22 hg hat);replace BK101:=am (bg BK101 hg (Kd.N_ne HO147.out BK101.out d_c));replace HO144:=am (Kd.V_afterv (ok:=(fun k_=>(w.heap.size ≤ k_) ∧ some k_ ≠ (.slice Ao61 x8_3.length co61:Value).ownBlock ∧ k_ ≠ gb101)) (by (with_reducible repeat (first | apply Kd.V_alloc | apply Kd.V_drewN | apply Kd.V_drew));exact HO144.out) hg hat);replace HB:=am (hb);have HO150:=am (ho);clear HO147 HO_8 ho hb hg hat;have q62:(x10_4:Int) ≤ ((x5_1.length:Int):Int):=of_decide_eq_true aq5;obtain ⟨i062,hi062,_,hsz62,_⟩:=info_parts info40;have hroom62:x5_1.length ≤ co55:=(Kd.N_reads' HO_5.out).2.1;have hC62:Kd.F (Kd.slice 3 (Kd.int .i64)) _ _ Ao55 x5_1.length x5_1:=(Kd.V_at (base:=w.heap.size) (Kd.N_V HO_5.out)).2.2;have q062:(0:Int) ≤ (x10_4:Int):=of_decide_eq_true aq5;have hcut62:=cut_from (P:=Tryz.prog) 57 40 .i64 Tryz.underlying57 hi062 1 hsz62 Ao55 x5_1.length co55 x10_4 q062 q62;have hr62:=Kd.F_cut (m:=(x10_4:Int).toNat) (c:=co55) hC62 o_m hroom62;obtain ⟨A62,hA62⟩:∃ A1,A1 = (if co55 = (x10_4:Int).toNat then Ao55 else (Ao55:Option Addr).map (·.add ((x10_4:Int).toNat * 1))):=⟨_,rfl⟩;obtain ⟨c62,hc62⟩:∃ c1,c1 = co55 - (x10_4:Int).toNat:=⟨_,rfl⟩;have hy62:y151.length = x5_1.length - (x10_4:Int).toNat:=(by rw [Ny151.out,List.length_drop] <;> omega);rw [show (x5_1).drop (x10_4:Int).toNat = y151 from Ny151.out.symm] at hr62;replace hr62:Kd.F (Kd.slice 3 (Kd.int .i64)) _ _ A62 y151.length y151:=(by rw [hA62];exact hr62);rw [← hy62,← hA62,← hc62] at hcut62;have HO155:=am (show Kd.V (Kd.slice 3 (Kd.int .i64)) 40 _ w.heap.size _ (.slice A62 y151.length c62) y151 from Kd.V_mk (by rw [hy62,hc62];exact Nat.sub_le_sub_right hroom62 _) hr62);have HC155:=am (show y151.length ≤ c62 from by rw [hy62,hc62];exact Nat.sub_le_sub_right hroom62 _);clear hr62 hC62 hroom62 hi062 hsz62 hc62;have KY62:=am hy62;have KA62:=am hA62;clear hy62 hA62;replace q62:=eq_true q62) | ((with_reducible refine gate_builtin (b:=.append) (xs:=#[.tmp 73,.tmp 76]) rfl ?_);at_builtin;refine Kd.N_append_rows (Kd.slice 3 (Kd.int .i64)) (w0:=w) w.heap.size rfl (.tmp 73) (.tmp 76) 57 40 (.slice none 0 0) 24 rfl Tryz.underlying57 info40 rfl d_c o_m v149 y148 y151 _ _ _ (fun k_=>(w.heap.size ≤ k_) ∧ k_ ≠ gb101) (fun k_=>((fun k_=>(w.heap.size ≤ k_) ∧ k_ ≠ gb101)) k_ ∧ some k_ ≠ (v149:Value).ownBlock) rfl rfl ?aO ?aR (fun _ hk=>hk) ?aF ?aB ?aS ?aL ?_;(case aR=>exact (by skip;exact Kd.V_F (Kd.V_mono (ok':=(fun k_=>((fun k_=>(w.heap.size ≤ k_) ∧ k_ ≠ gb101)) k_ ∧ some k_ ≠ (v149:Value).ownBlock)) (HO155.out) (fun k_ hk=>⟨⟨hk.1.1,hk.1.2.2⟩,hk.2⟩))));(case aB=>exact aq0);(case aF=>exact aq49);(case aO=>exact (by (with_reducible repeat (first | apply Kd.N_alloc | apply Kd.N_drewN | apply Kd.N_drew));exact HO150.out));(case aS=>exact aq74);(case aL=>have:=LMc54.out;omega);intro v157 w63 ho hb hg hat;rw [← Ny156.out] at ho;replace HO_5:=am (Kd.N_afterv (ok:=(fun k_=>(w.heap.size ≤ k_) ∧ k_ ≠ gb101)) aq97 hg hat);replace BK101:=am (bg BK101 hg (Kd.N_ne HO150.out BK101.out d_c));replace HO144:=am (Kd.V_afterv (ok:=(fun k_=>(w.heap.size ≤ k_) ∧ k_ ≠ gb101)) (by (with_reducible repeat (first | apply Kd.V_alloc | apply Kd.V_drewN | apply Kd.V_drew));exact Kd.V_mono HO144.out (fun _ hk=>⟨⟨hk.1.1,hk.1.2.2⟩,hk.2⟩)) hg hat);replace HO155:=am (Kd.V_afterv (ok:=(fun k_=>(w.heap.size ≤ k_) ∧ k_ ≠ gb101)) (by (with_reducible repeat (first | apply Kd.V_alloc | apply Kd.V_drewN | apply Kd.V_drew));exact Kd.V_mono HO155.out (fun _ hk=>⟨⟨hk.1.1,hk.1.2.2⟩,hk.2⟩)) hg hat);replace HB:=am (hb);have HO158:=am (ho);clear HO150 ho hb hg hat))
          go_roundg k4
          case measure=>have:=HK1.out;have:=HJ7.out;have:=HK3.out;have:=HK4.out;omega
          case rel=>exact ⟨(y156),(wrap64 (x15_1 + 1)),aq7,H',⟨aq98⟩,⟨by (with_reducible repeat (first | apply Kd.N_alloc | apply Kd.N_drewN | apply Kd.N_drew));exact HO158.out⟩,⟨aq2⟩,⟨aq0⟩⟩
         rw [if_pos c25] at H
         have c25b0:=decide_eq_true c25
         clear c25
         replace H:=gd H
         obtain ⟨c26,H⟩:=H
         have c26b0:=decide_eq_true c26
         clear c26
         obtain ⟨t113,A27,H⟩:=bn H
         obtain ⟨t114,A28,H⟩:=bn H
         by_cases c29:t113 < t114
         ·rw [if_pos c29] at H
          have c29b0:=decide_eq_true c29
          clear c29
          have H':=am H
          clear H
          obtain ⟨Ao30,co30,eo30⟩:=Kd.N_slice HO_5.out
          subst eo30
          have p112:0 ≤ (x10_4:Int):=of_decide_eq_true aq5
          have q112:x10_4 < (x5_1.length:Int):=of_decide_eq_true aq5
          obtain ⟨ad112,A112_0,c112_0,e112,hx112_0,hl112_0,hi112_0⟩:=at_L3 (Kd.N_reads' HO_5.out).2.2 x10_4 p112 q112
          cases e112
          obtain ⟨ce112,hce112,hMe112,hcc112⟩:=Kd.N_get HO_5.out [] x10_4 p112 (by first | exact q112 | exact of_decide_eq_true aq5 | (have e_:=(Kd.N_reads' HO_5.out).1;omega))
          obtain ⟨ua112_0,uc112_0,rfl,ul112_0,ge112_0⟩:=Kd.FK_slice_open hMe112
          have hv112_0:=hcc112 0 _ rfl
          rw [Nat.add_zero,show ((Kd.slice 3 (Kd.int .i64))).sz = 1 from rfl,Nat.mul_one] at hv112_0
          replace hv112_0:=Option.some.inj (hv112_0.symm.trans hx112_0)
          injection hv112_0 with hva_ hvn_ hvc_
          rw [hva_] at ge112_0
          rw [hvc_] at ul112_0
          have HL112_0:=am (show Kd.V (Kd.int .i64) 3 _ w.heap.size _ _ (rd_L3 x5_1 x10_4) from Kd.V_mk ul112_0 ge112_0)
          clear hva_ hvn_ hvc_ ge112_0 ul112_0 hcc112 hce112
          have HR112_0:=am hi112_0
          have HC112_0:=am hl112_0
          clear hi112_0 hl112_0
          replace p112:=eq_true p112
          replace q112:=eq_true q112
          go_wp2_with (first | (go_at_call 161;(with_reducible refine (spec_tiFirst.calls k4 _ _ (rd_L3 x5_1 x10_4) t113 _ ?side1 ?side2 A27.out).mono ?_);(case side1=>exact aq103);(case side2=>exact HC112_0.out);rintro e w' ⟨rfl,⟨nd,rfl⟩⟩;obtain ⟨Ao31,co31,eo31⟩:=Kd.R_slice HO_8.out;subst eo31) | (go_at_call 161;(with_reducible refine (spec_tiFirst.calls k4 _ _ x8_3 t114 _ ?side1 ?side2 A28.out).mono ?_);(case side1=>exact aq95);(case side2=>exact (Kd.R_reads' HO_8.out).2.1);rintro e w' ⟨rfl,⟨nd,rfl⟩⟩))
          go_roundg k4
          case measure=>have:=HK1.out;have:=HJ7.out;have:=HK3.out;have:=HK4.out;omega
          case rel=>exact ⟨(wrap64 (x10_4 + 1)),aq7,H',⟨aq98⟩,⟨aq22⟩,⟨aq31⟩,⟨aq2⟩,⟨aq0⟩⟩
         rw [if_neg c29] at H
         have c29b0:=decide_eq_false c29
         clear c29
         obtain ⟨y115,hy_⟩:∃ y_:List (List Int),y_ = (([]:List (List Int))):=⟨_,rfl⟩
         replace H:(if x10_4 ≤ (x5_1.length:Int) then ((some (x5_1.take (x10_4:Int).toNat:List (List Int))).bind fun y118=>(if y115.length + y118.length < 5864062014805 then ((some (y115 ++ y118:List (List Int))).bind fun y123=>(if y123.length < 5864062014805 then ((some (y123 ++ [x8_3]:List (List Int))).bind fun y126=>((some (x5_1.drop (x10_4:Int).toNat:List (List Int))).bind fun y129=>(if y126.length + y129.length < 5864062014805 then (spec_tiStretches.l0 k4 a1 (y126 ++ y129) l0_2 (l0_2.length:Int) (wrap64 (x15_1 + 1)) a0_0 a0_1 l0_2) else (none)))) else (none))) else (none))) else (none)) = some r:=aq3
         have Ny115:=am hy_
         clear hy_
         have c32b0:=eq_true (of_decide_eq_true aq5:0 ≤ x10_4)
         replace H:=gd H
         obtain ⟨c33,H⟩:=H
         have c33b0:=eq_true c33
         have c33b1:=decide_eq_true c33
         clear c33
         obtain ⟨y118,hy_⟩:∃ y_:List (List Int),y_ = (x5_1.take (x10_4:Int).toNat):=⟨_,rfl⟩
         replace H:(if y115.length + y118.length < 5864062014805 then ((some (y115 ++ y118:List (List Int))).bind fun y123=>(if y123.length < 5864062014805 then ((some (y123 ++ [x8_3]:List (List Int))).bind fun y126=>((some (x5_1.drop (x10_4:Int).toNat:List (List Int))).bind fun y129=>(if y126.length + y129.length < 5864062014805 then (spec_tiStretches.l0 k4 a1 (y126 ++ y129) l0_2 (l0_2.length:Int) (wrap64 (x15_1 + 1)) a0_0 a0_1 l0_2) else (none)))) else (none))) else (none)) = some r:=aq3
         have Ny118:=am hy_
         clear hy_
         replace H:=gd H
         obtain ⟨c34,H⟩:=H
         have LMc34:=am c34
         clear c34
         obtain ⟨y123,hy_⟩:∃ y_:List (List Int),y_ = (y115 ++ y118):=⟨_,rfl⟩
         replace H:(if y123.length < 5864062014805 then ((some (y123 ++ [x8_3]:List (List Int))).bind fun y126=>((some (x5_1.drop (x10_4:Int).toNat:List (List Int))).bind fun y129=>(if y126.length + y129.length < 5864062014805 then (spec_tiStretches.l0 k4 a1 (y126 ++ y129) l0_2 (l0_2.length:Int) (wrap64 (x15_1 + 1)) a0_0 a0_1 l0_2) else (none)))) else (none)) = some r:=aq3
         have Ny123:=am hy_
         clear hy_
         replace H:=gd H
         obtain ⟨c35,H⟩:=H
         have LMc35:=am c35
         clear c35
         obtain ⟨y126,hy_⟩:∃ y_:List (List Int),y_ = (y123 ++ [x8_3]):=⟨_,rfl⟩
         replace H:((some (x5_1.drop (x10_4:Int).toNat:List (List Int))).bind fun y129=>(if y126.length + y129.length < 5864062014805 then (spec_tiStretches.l0 k4 a1 (y126 ++ y129) l0_2 (l0_2.length:Int) (wrap64 (x15_1 + 1)) a0_0 a0_1 l0_2) else (none))) = some r:=aq3
         have Ny126:=am hy_
         clear hy_
         have c36b0:=eq_true (of_decide_eq_true aq5:0 ≤ x10_4)
         have c37b0:=eq_true (of_decide_eq_true aq5:x10_4 ≤ (x5_1.length:Int))
         obtain ⟨y129,hy_⟩:∃ y_:List (List Int),y_ = (x5_1.drop (x10_4:Int).toNat):=⟨_,rfl⟩
         replace H:(if y126.length + y129.length < 5864062014805 then (spec_tiStretches.l0 k4 a1 (y126 ++ y129) l0_2 (l0_2.length:Int) (wrap64 (x15_1 + 1)) a0_0 a0_1 l0_2) else (none)) = some r:=aq3
         have Ny129:=am hy_
         clear hy_
         replace H:=gd H
         obtain ⟨c38,H⟩:=H
         have LMc38:=am c38
         clear c38
         obtain ⟨y134,hy_⟩:∃ y_:List (List Int),y_ = (y126 ++ y129):=⟨_,rfl⟩
         replace H:(spec_tiStretches.l0 k4 a1 y134 l0_2 (l0_2.length:Int) (wrap64 (x15_1 + 1)) a0_0 a0_1 l0_2) = some r:=aq3
         have Ny134:=am hy_
         clear hy_
         have H':=am H
         clear H
         obtain ⟨Ao39,co39,eo39⟩:=Kd.N_slice HO_5.out
         subst eo39
         have p112:0 ≤ (x10_4:Int):=of_decide_eq_true aq5
         have q112:x10_4 < (x5_1.length:Int):=of_decide_eq_true aq5
         obtain ⟨ad112,A112_0,c112_0,e112,hx112_0,hl112_0,hi112_0⟩:=at_L3 (Kd.N_reads' HO_5.out).2.2 x10_4 p112 q112
         cases e112
         obtain ⟨ce112,hce112,hMe112,hcc112⟩:=Kd.N_get HO_5.out [] x10_4 p112 (by first | exact q112 | exact of_decide_eq_true aq5 | (have e_:=(Kd.N_reads' HO_5.out).1;omega))
         obtain ⟨ua112_0,uc112_0,rfl,ul112_0,ge112_0⟩:=Kd.FK_slice_open hMe112
         have hv112_0:=hcc112 0 _ rfl
         rw [Nat.add_zero,show ((Kd.slice 3 (Kd.int .i64))).sz = 1 from rfl,Nat.mul_one] at hv112_0
         replace hv112_0:=Option.some.inj (hv112_0.symm.trans hx112_0)
         injection hv112_0 with hva_ hvn_ hvc_
         rw [hva_] at ge112_0
         rw [hvc_] at ul112_0
         have HL112_0:=am (show Kd.V (Kd.int .i64) 3 _ w.heap.size _ _ (rd_L3 x5_1 x10_4) from Kd.V_mk ul112_0 ge112_0)
         clear hva_ hvn_ hvc_ ge112_0 ul112_0 hcc112 hce112
         have HR112_0:=am hi112_0
         have HC112_0:=am hl112_0
         clear hi112_0 hl112_0
         replace p112:=eq_true p112
         replace q112:=eq_true q112
         go_wp2_with (first | (go_at_call 161;(with_reducible refine (spec_tiFirst.calls k4 _ _ (rd_L3 x5_1 x10_4) t113 _ ?side1 ?side2 A27.out).mono ?_);(case side1=>exact aq103);(case side2=>exact HC112_0.out);rintro e w' ⟨rfl,⟨nd,rfl⟩⟩;obtain ⟨Ao40,co40,eo40⟩:=Kd.R_slice HO_8.out;subst eo40) | (go_at_call 161;(with_reducible refine (spec_tiFirst.calls k4 _ _ x8_3 t114 _ ?side1 ?side2 A28.out).mono ?_);(case side1=>exact aq95);(case side2=>exact (Kd.R_reads' HO_8.out).2.1);rintro e w' ⟨rfl,⟨nd,rfl⟩⟩) | ((with_reducible refine gate_dst (N:=65) rfl ?_);refine Kd.N_lit (Kd.slice 3 (Kd.int .i64)) _ 40 ?hg (N':=65) ?hd (xs:=([]:List (List Int))) (inner:=[]) (ok:=(fun k_=>(w.heap.size ≤ k_) ∧ some k_ ≠ (.slice (some ad112) x5_1.length co39:Value).ownBlock ∧ some k_ ≠ (.slice Ao40 x8_3.length co40:Value).ownBlock ∧ k_ ≠ gb101)) (okp:=(fun k_=>(w.heap.size ≤ k_) ∧ some k_ ≠ (.slice (some ad112) x5_1.length co39:Value).ownBlock ∧ some k_ ≠ (.slice Ao40 x8_3.length co40:Value).ownBlock ∧ k_ ≠ gb101)) ?hr ?hp (fun _ hk=>hk) ((show ∀ k_,wr.heap.size ≤ k_ → (fun k_=>(w.heap.size ≤ k_) ∧ some k_ ≠ (.slice (some ad112) x5_1.length co39:Value).ownBlock ∧ some k_ ≠ (.slice Ao40 x8_3.length co40:Value).ownBlock ∧ k_ ≠ gb101) k_ from fun k_ hk=>⟨(Nat.le_trans (below_size aq0) hk),Kd.fresh' (Kd.N_lt aq22) k_ hk,Kd.fresh' (Kd.R_lt aq31) k_ hk,Kd.freshB (g:=gb101) (o:=.cells #[.int .i64 a0_0,.int .i64 a0_1,.slice (some ad102) l0_2.length c0_2] 75 (0,0)) aq2 k_ hk⟩) _ (Nat.le_refl _)) (Below.refl _ _) (Nat.le_refl _) (by simp) ?_;(case hd=>rfl);(case hg=>rfl);(case hr=>exact aq15);(case hp=>exact (Reps.none _ _));intro v116 w41 ho42 hb hg_ hnew_;clear hg_ hnew_;(first | rw [← Ny115.out] at ho42 | (simp only [Int.reduceToNat] at ho42;rw [← Ny115.out] at ho42));replace HO_5:=am (Kd.N_elder' aq22 (Kd.N_base ho42) hb);replace HO_8:=am (Kd.R_below aq31 hb);replace HL112_0:=am (Kd.V_elder' (by (with_reducible repeat (first | apply Kd.V_alloc | apply Kd.V_drewN | apply Kd.V_drew));exact HL112_0.out) (Kd.N_base ho42) hb);have HO117:=am (Kd.N_lower ho42 (below_size aq0));replace BK101:=am (bb BK101 hb);replace HR112_0:=am (Kd.C_below aq55 hb);replace HB:=am (below_step aq0 hb);clear hb ho42;have q43:(x10_4:Int) ≤ ((x5_1.length:Int):Int):=of_decide_eq_true aq5;obtain ⟨i043,hi043,_,hsz43,_⟩:=info_parts info40;have hroom43:x5_1.length ≤ co39:=(Kd.N_reads' HO_5.out).2.1;have hC43:Kd.F (Kd.slice 3 (Kd.int .i64)) _ _ (some ad112) x5_1.length x5_1:=(Kd.V_at (base:=w.heap.size) (Kd.N_V HO_5.out)).2.2;have hcut43:=cut_to (P:=Tryz.prog) 57 40 .i64 Tryz.underlying57 hi043 (some ad112) x5_1.length co39 x10_4 (of_decide_eq_true aq5) q43 hroom43;have hr43:=Kd.F_take (m:=(x10_4:Int).toNat) hC43 o_m;have hy43:y118.length = (x10_4:Int).toNat:=(by rw [Ny118.out,List.length_take];omega);rw [← Ny118.out] at hr43;rw [← hy43] at hcut43;have HO122:=am (show Kd.V (Kd.slice 3 (Kd.int .i64)) 40 _ w.heap.size _ (.slice (some ad112) y118.length co39) y118 from Kd.V_mk o_m hr43);have HC122:=am (show y118.length ≤ co39 from by omega);clear hr43 hC43 hroom43 hi043 hsz43;have KY43:=am hy43;clear hy43;replace q43:=eq_true q43) | ((with_reducible refine gate_builtin (b:=.append) (xs:=#[.tmp 65,.tmp 68]) rfl ?_);at_builtin;refine Kd.N_append_rows (Kd.slice 3 (Kd.int .i64)) (w0:=w) w.heap.size rfl (.tmp 65) (.tmp 68) 57 40 (.slice none 0 0) 24 rfl Tryz.underlying57 info40 rfl d_c o_m v116 y115 y118 _ _ _ (fun k_=>(w.heap.size ≤ k_) ∧ some k_ ≠ (.slice Ao40 x8_3.length co40:Value).ownBlock ∧ k_ ≠ gb101) (fun k_=>((fun k_=>(w.heap.size ≤ k_) ∧ some k_ ≠ (.slice Ao40 x8_3.length co40:Value).ownBlock ∧ k_ ≠ gb101)) k_ ∧ some k_ ≠ (v116:Value).ownBlock) rfl rfl ?aO ?aR (fun _ hk=>hk) ?aF ?aB ?aS ?aL ?_;(case aR=>exact (by skip;exact Kd.V_F (Kd.V_mono (ok':=(fun k_=>((fun k_=>(w.heap.size ≤ k_) ∧ some k_ ≠ (.slice Ao40 x8_3.length co40:Value).ownBlock ∧ k_ ≠ gb101)) k_ ∧ some k_ ≠ (v116:Value).ownBlock)) (HO122.out) (fun k_ hk=>⟨⟨hk.1.1,⟨hk.1.2.1,hk.1.2.2⟩⟩,hk.2⟩))));(case aB=>exact aq0);(case aF=>exact aq87);(case aO=>exact (by (with_reducible repeat (first | apply Kd.N_alloc | apply Kd.N_drewN | apply Kd.N_drew));exact Kd.N_mono HO117.out (fun _ hk=>⟨hk.1,⟨hk.2.2.1,hk.2.2.2⟩⟩)));(case aS=>exact aq74);(case aL=>have:=LMc34.out;omega);intro v124 w44 ho hb hg hat;rw [← Ny123.out] at ho;replace HO_5:=am (Kd.N_afterv (ok:=(fun k_=>(w.heap.size ≤ k_) ∧ some k_ ≠ (.slice Ao40 x8_3.length co40:Value).ownBlock ∧ k_ ≠ gb101)) aq22 hg hat);replace HO_8:=am (Kd.R_over' aq31 (Kd.N_typed (by (with_reducible repeat (first | apply Kd.N_alloc | apply Kd.N_drewN | apply Kd.N_drew));exact HO117.out)) d_c hg);replace BK101:=am (bg BK101 hg (Kd.N_ne HO117.out BK101.out d_c));replace HL112_0:=am (Kd.V_afterv (ok:=(fun k_=>(w.heap.size ≤ k_) ∧ some k_ ≠ (.slice (some ad112) x5_1.length co39:Value).ownBlock ∧ some k_ ≠ (.slice Ao40 x8_3.length co40:Value).ownBlock ∧ k_ ≠ gb101)) (by (with_reducible repeat (first | apply Kd.V_alloc | apply Kd.V_drewN | apply Kd.V_drew));exact Kd.V_mono HL112_0.out (fun _ hk=>⟨⟨hk.1.1.1,⟨hk.1.2,⟨hk.1.1.2.1,hk.1.1.2.2⟩⟩⟩,hk.2⟩)) hg hat);replace HO122:=am (Kd.V_afterv (ok:=(fun k_=>(w.heap.size ≤ k_) ∧ some k_ ≠ (.slice Ao40 x8_3.length co40:Value).ownBlock ∧ k_ ≠ gb101)) (by (with_reducible repeat (first | apply Kd.V_alloc | apply Kd.V_drewN | apply Kd.V_drew));exact HO122.out) hg hat);replace HB:=am (hb);have HO125:=am (ho);clear HO117 ho hb hg hat) | ((with_reducible refine gate_builtin (b:=.append) (xs:=#[.tmp 69,.tmp 71]) rfl ?_);at_builtin;refine Kd.N_append (Kd.slice 3 (Kd.int .i64)) (w0:=w) w.heap.size rfl (.tmp 69) (.tmp 71) 57 40 (.slice none 0 0) 24 rfl Tryz.underlying57 info40 rfl d_c o_m v124 y123 x8_3 [.slice Ao40 x8_3.length co40] (fun k_=>(w.heap.size ≤ k_) ∧ k_ ≠ gb101) (fun k_=>((fun k_=>(w.heap.size ≤ k_) ∧ k_ ≠ gb101)) k_ ∧ some k_ ≠ (v124:Value).ownBlock) rfl rfl ?aP (fun _ hk=>hk) ?aF ?aO ?aB ?aS ?aL ?_;(case aP=>exact (Kd.FK_slice_mk (Kd.R_reads' (Kd.R_mono (ok':=(fun k_=>((fun k_=>(w.heap.size ≤ k_) ∧ k_ ≠ gb101)) k_ ∧ some k_ ≠ (v124:Value).ownBlock)) (Kd.R_types (Kd.R_apart' (HO_8.out) (Kd.N_typed HO125.out) d_c) BK101.out d_c) (fun k_ hk=>⟨⟨hk.1.1,hk.2⟩,hk.1.2⟩))).2.1 (Kd.R_F (Kd.R_mono (ok':=(fun k_=>((fun k_=>(w.heap.size ≤ k_) ∧ k_ ≠ gb101)) k_ ∧ some k_ ≠ (v124:Value).ownBlock)) (Kd.R_types (Kd.R_apart' (HO_8.out) (Kd.N_typed HO125.out) d_c) BK101.out d_c) (fun k_ hk=>⟨⟨hk.1.1,hk.2⟩,hk.1.2⟩)))));(case aB=>exact aq0);(case aF=>exact aq49);(case aO=>exact (by (with_reducible repeat (first | apply Kd.N_alloc | apply Kd.N_drewN | apply Kd.N_drew));exact Kd.N_mono HO125.out (fun _ hk=>⟨hk.1,hk.2.2⟩)));(case aS=>exact aq74);(case aL=>have:=LMc35.out;omega);intro v127 w45 ho hb hg hat;rw [← Ny126.out] at ho;replace HO_5:=am (Kd.N_afterv (ok:=(fun k_=>(w.heap.size ≤ k_) ∧ some k_ ≠ (.slice Ao40 x8_3.length co40:Value).ownBlock ∧ k_ ≠ gb101)) aq22 hg hat);replace BK101:=am (bg BK101 hg (Kd.N_ne HO125.out BK101.out d_c));replace HL112_0:=am (Kd.V_afterv (ok:=(fun k_=>(w.heap.size ≤ k_) ∧ some k_ ≠ (.slice (some ad112) x5_1.length co39:Value).ownBlock ∧ some k_ ≠ (.slice Ao40 x8_3.length co40:Value).ownBlock ∧ k_ ≠ gb101)) (by (with_reducible repeat (first | apply Kd.V_alloc | apply Kd.V_drewN | apply Kd.V_drew));exact HL112_0.out) hg hat);replace HO122:=am (Kd.V_afterv (ok:=(fun k_=>(w.heap.size ≤ k_) ∧ some k_ ≠ (.slice Ao40 x8_3.length co40:Value).ownBlock ∧ k_ ≠ gb101)) (by (with_reducible repeat (first | apply Kd.V_alloc | apply Kd.V_drewN | apply Kd.V_drew));exact HO122.out) hg hat);replace HB:=am (hb);have HO128:=am (ho);clear HO125 HO_8 ho hb hg hat;have q46:(x10_4:Int) ≤ ((x5_1.length:Int):Int):=of_decide_eq_true aq5;obtain ⟨i046,hi046,_,hsz46,_⟩:=info_parts info40;have hroom46:x5_1.length ≤ co39:=(Kd.N_reads' HO_5.out).2.1;have hC46:Kd.F (Kd.slice 3 (Kd.int .i64)) _ _ (some ad112) x5_1.length x5_1:=(Kd.V_at (base:=w.heap.size) (Kd.N_V HO_5.out)).2.2;have q046:(0:Int) ≤ (x10_4:Int):=of_decide_eq_true aq5;have hcut46:=cut_from (P:=Tryz.prog) 57 40 .i64 Tryz.underlying57 hi046 1 hsz46 (some ad112) x5_1.length co39 x10_4 q046 q46;have hr46:=Kd.F_cut (m:=(x10_4:Int).toNat) (c:=co39) hC46 o_m hroom46;obtain ⟨A46,hA46⟩:∃ A1,A1 = (if co39 = (x10_4:Int).toNat then (some ad112) else ((some ad112):Option Addr).map (·.add ((x10_4:Int).toNat * 1))):=⟨_,rfl⟩;obtain ⟨c46,hc46⟩:∃ c1,c1 = co39 - (x10_4:Int).toNat:=⟨_,rfl⟩;have hy46:y129.length = x5_1.length - (x10_4:Int).toNat:=(by rw [Ny129.out,List.length_drop] <;> omega);rw [show (x5_1).drop (x10_4:Int).toNat = y129 from Ny129.out.symm] at hr46;replace hr46:Kd.F (Kd.slice 3 (Kd.int .i64)) _ _ A46 y129.length y129:=(by rw [hA46];exact hr46);rw [← hy46,← hA46,← hc46] at hcut46;have HO133:=am (show Kd.V (Kd.slice 3 (Kd.int .i64)) 40 _ w.heap.size _ (.slice A46 y129.length c46) y129 from Kd.V_mk (by rw [hy46,hc46];exact Nat.sub_le_sub_right hroom46 _) hr46);have HC133:=am (show y129.length ≤ c46 from by rw [hy46,hc46];exact Nat.sub_le_sub_right hroom46 _);clear hr46 hC46 hroom46 hi046 hsz46 hc46;have KY46:=am hy46;have KA46:=am hA46;clear hy46 hA46;replace q46:=eq_true q46) | ((with_reducible refine gate_builtin (b:=.append) (xs:=#[.tmp 73,.tmp 76]) rfl ?_);at_builtin;refine Kd.N_append_rows (Kd.slice 3 (Kd.int .i64)) (w0:=w) w.heap.size rfl (.tmp 73) (.tmp 76) 57 40 (.slice none 0 0) 24 rfl Tryz.underlying57 info40 rfl d_c o_m v127 y126 y129 _ _ _ (fun k_=>(w.heap.size ≤ k_) ∧ k_ ≠ gb101) (fun k_=>((fun k_=>(w.heap.size ≤ k_) ∧ k_ ≠ gb101)) k_ ∧ some k_ ≠ (v127:Value).ownBlock) rfl rfl ?aO ?aR (fun _ hk=>hk) ?aF ?aB ?aS ?aL ?_;(case aR=>exact (by skip;exact Kd.V_F (Kd.V_mono (ok':=(fun k_=>((fun k_=>(w.heap.size ≤ k_) ∧ k_ ≠ gb101)) k_ ∧ some k_ ≠ (v127:Value).ownBlock)) (HO133.out) (fun k_ hk=>⟨⟨hk.1.1,hk.1.2.2⟩,hk.2⟩))));(case aB=>exact aq0);(case aF=>exact aq49);(case aO=>exact (by (with_reducible repeat (first | apply Kd.N_alloc | apply Kd.N_drewN | apply Kd.N_drew));exact HO128.out));(case aS=>exact aq74);(case aL=>have:=LMc38.out;omega);intro v135 w47 ho hb hg hat;rw [← Ny134.out] at ho;replace HO_5:=am (Kd.N_afterv (ok:=(fun k_=>(w.heap.size ≤ k_) ∧ k_ ≠ gb101)) aq97 hg hat);replace BK101:=am (bg BK101 hg (Kd.N_ne HO128.out BK101.out d_c));replace HL112_0:=am (Kd.V_afterv (ok:=(fun k_=>(w.heap.size ≤ k_) ∧ some k_ ≠ (.slice (some ad112) x5_1.length co39:Value).ownBlock ∧ k_ ≠ gb101)) (by (with_reducible repeat (first | apply Kd.V_alloc | apply Kd.V_drewN | apply Kd.V_drew));exact Kd.V_mono HL112_0.out (fun _ hk=>⟨⟨hk.1.1,⟨hk.1.2.1,hk.1.2.2.2⟩⟩,hk.2⟩)) hg hat);replace HO122:=am (Kd.V_afterv (ok:=(fun k_=>(w.heap.size ≤ k_) ∧ k_ ≠ gb101)) (by (with_reducible repeat (first | apply Kd.V_alloc | apply Kd.V_drewN | apply Kd.V_drew));exact Kd.V_mono HO122.out (fun _ hk=>⟨⟨hk.1.1,hk.1.2.2⟩,hk.2⟩)) hg hat);replace HO133:=am (Kd.V_afterv (ok:=(fun k_=>(w.heap.size ≤ k_) ∧ k_ ≠ gb101)) (by (with_reducible repeat (first | apply Kd.V_alloc | apply Kd.V_drewN | apply Kd.V_drew));exact Kd.V_mono HO133.out (fun _ hk=>⟨⟨hk.1.1,hk.1.2.2⟩,hk.2⟩)) hg hat);replace HB:=am (hb);have HO136:=am (ho);clear HO128 ho hb hg hat))
         go_roundg k4
         case measure=>have:=HK1.out;have:=HJ7.out;have:=HK3.out;have:=HK4.out;omega
         case rel=>exact ⟨(y134),(wrap64 (x15_1 + 1)),aq7,H',⟨aq98⟩,⟨by (with_reducible repeat (first | apply Kd.N_alloc | apply Kd.N_drewN | apply Kd.N_drew));exact HO136.out⟩,⟨aq2⟩,⟨aq0⟩⟩
end Go.Proofs.YtldhkbiomingbaaGreatDoor.F

namespace Go.Proofs.YtldhkbiomingbaaGreatDoor
open Go.RowKit Go.YW.PrintWords Go.YW.PrintMore Go.Proofs.YtldhkbiomingbaaGreatDoor.F
theorem rd_cast (l:List Nat) (i:Nat) (h:i < l.length):rd (castsI l) (i:Int) = ((l[i]'h:Nat):Int):=by
 unfold rd
 rw [Int.toNat_natCast,List.getD_eq_getElem?_getD,castsI_getD l i h];rfl
theorem casts_app (a b:List Nat):castsI (a ++ b) = castsI a ++ castsI b:=by simp [castsI]
theorem casts_one (i:Nat):castsI [i] = [((i:Nat):Int)]:=rfl
theorem least_ev (x y:Nat):spec_l1Least.f (x:Int) (y:Int) = some ((Nat.min x y:Nat):Int):=by
 unfold spec_l1Least.f
 by_cases h:x < y
 rotate_left
 ·rw [if_neg o_m,show Nat.min x y = y from Nat.min_eq_right o_m]
 rw [if_pos o_m,show Nat.min x y = x from Nat.min_eq_left o_m]
theorem tiFirst_l0 (L:List Nat) (hL:L.length < 1000000):∀ (n i m:Nat),i + n = L.length → Ev (fun k=>spec_tiFirst.l0 k (m:Int) (castsI L) (L.length:Int) (i:Int)) (((L.drop i).foldl Nat.min m:Nat):Int)
 | 0,i,m,h=>by
  refine Ev.step (f:=fun _=>some (m:Int)) (fun k=>by rw [spec_tiFirst.l0,if_neg o_m]) ?_
  rw [List.drop_eq_nil_of_le o_m]
  exact Ev.now _
 | n + 1,i,m,h=>by
  have hi:i < L.length:=by omega
  have hw:wrap64 ((i:Int) + 1) = ((i + 1:Nat):Int):=by rw [w64 o_m o_m];rfl
  refine Ev.step (f:=fun k=>spec_tiFirst.l0 k ((Nat.min m (L[i]'hi):Nat):Int) (castsI L) (L.length:Int) ((i + 1:Nat):Int)) (fun k=>by
   rw [spec_tiFirst.l0,if_pos o_m,if_pos o_m,castsI_length,if_pos o_m,rd_cast L i hi,least_ev,Option.bind_some,hw]) ?_
  rw [List.drop_eq_getElem_cons hi,List.foldl_cons]
  exact tiFirst_l0 L hL n (i + 1) _ o_m
theorem tiFirst_ev {L:List Nat} (hne:L ≠ []) (hL:L.length < 1000000):Ev (fun k=>spec_tiFirst.f k (castsI L)) ((leastL L:Nat):Int):=by
 obtain ⟨a,t,rfl⟩:∃ a t,L = a :: t:=by cases L with | nil=>exact absurd rfl hne | cons a t=>exact ⟨a,t,rfl⟩
 have h0:=tiFirst_l0 (a :: t) hL (a :: t).length 0 a o_m
 have e:((a :: t).drop 0).foldl Nat.min a = leastL (a :: t):=by
  rw [List.drop_zero,List.foldl_cons,show Nat.min a a = a from Nat.min_self a];rfl
 rw [e] at h0
 refine Ev.congr (fun k=>?_) h0
 unfold spec_tiFirst.f
 rw [castsI_length,if_pos (by simp only [List.length_cons];omega),show rd (castsI (a :: t)) 0 = (a:Int) from rfl];rfl
theorem tyCell_eq {w h:Nat} (hw:1 ≤ w ∧ w ≤ 7) (hh:1 ≤ h ∧ h ≤ 7) (cs:List Int) (X Y:Int):spec_tyCell.f w h cs X Y = some (decide ((0 ≤ X ∧ X < (w:Int)) ∧ 0 ≤ Y ∧ Y < (h:Int))):=by
 unfold spec_tyCell.f spec_l1In.f
 rw [w64 (show -9223372036854775808 ≤ (w:Int) - 1 by omega) o_m,w64 (show -9223372036854775808 ≤ (h:Int) - 1 by omega) o_m]
 by_cases h1:X ≥ 0
 rotate_left
 ·rw [if_neg h1,Option.bind_some,if_neg Bool.false_ne_true]
  congr 1
  exact (decide_eq_false o_m).symm
 rw [if_pos h1,Option.bind_some]
 by_cases h2:X ≤ (w:Int) - 1
 rotate_left
 ·rw [if_neg (by simp [h2])]
  congr 1
  exact (decide_eq_false o_m).symm
 rw [if_pos (decide_eq_true h2)]
 by_cases h3:Y ≥ 0
 rotate_left
 ·rw [if_neg h3,Option.bind_some]
  congr 1
  exact (decide_eq_false o_m).symm
 rw [if_pos h3,Option.bind_some]
 congr 1
 rw [Bool.eq_iff_iff,decide_eq_true_iff,decide_eq_true_iff]
 omega
def lookI (w h:Nat) (cs:List Int) (X Y:Int):Int:=if (0 ≤ X ∧ X < (w:Int)) ∧ 0 ≤ Y ∧ Y < (h:Int) then (if openAt cs (Y.toNat * w + X.toNat) = true then ((Y.toNat * w + X.toNat:Nat):Int) else -1) else -1
theorem look_eq {w h:Nat} (hw:1 ≤ w ∧ w ≤ 7) (hh:1 ≤ h ∧ h ≤ 7) {cs:List Int} (hl:cs.length = w * h) (X Y:Int) :
  ((spec_tyCell.f w h cs X Y).bind fun t=>if t = true then (if 0 ≤ wrap64 (wrap64 (Y * w) + X) then (if wrap64 (wrap64 (Y * w) + X) < (cs.length:Int) then (if rd cs (wrap64 (wrap64 (Y * w) + X)) = 35 then some (-1) else some (wrap64 (wrap64 (Y * w) + X))) else none) else none) else some (-1)) = some (lookI w h cs X Y):=by
 rw [tyCell_eq hw hh,Option.bind_some]
 unfold lookI
 by_cases hc:(0 ≤ X ∧ X < (w:Int)) ∧ 0 ≤ Y ∧ Y < (h:Int)
 rotate_left
 ·rw [if_neg (by simp only [decide_eq_true_eq];exact hc),if_neg hc]
 rw [if_pos (decide_eq_true hc),if_pos hc]
 obtain ⟨⟨x,rfl⟩,⟨y,rfl⟩⟩:(∃ x:Nat,X = x) ∧ (∃ y:Nat,Y = y):=⟨⟨X.toNat,by omega⟩,⟨Y.toNat,by omega⟩⟩
 have hx:x < w:=by omega
 have hy:y < h:=by omega
 have hlt:y * w + x < w * h:=(place_lt hx hy)
 have h49:w * h ≤ 7 * 7:=Nat.mul_le_mul hw.2 hh.2
 have e1:(y:Int) * (w:Int) = ((y * w:Nat):Int):=by rw [Int.natCast_mul]
 have e:wrap64 (wrap64 ((y:Int) * (w:Int)) + (x:Int)) = ((y * w + x:Nat):Int):=by
  have e0:wrap64 ((y * w:Nat):Int) = ((y * w:Nat):Int):=w64 o_m o_m
  rw [e1,e0,← Int.natCast_add];exact w64 o_m o_m
 rw [e,if_pos o_m,if_pos o_m,Int.toNat_natCast,Int.toNat_natCast]
 unfold rd openAt isOpenC
 rw [Int.toNat_natCast]
 by_cases h35:cs.getD (y * w + x) 0 = 35
 rotate_left
 ·rw [if_neg h35,if_pos (by simpa using h35)]
 rw [if_pos h35,h35,if_neg d_c]
theorem tiAhead_eq {w h:Nat} (hw:1 ≤ w ∧ w ≤ 7) (hh:1 ≤ h ∧ h ≤ 7) {cs:List Int} (hl:cs.length = w * h) {i d:Nat} (hi:i < w * h) (hd:d < 4):spec_tiAhead.f w h cs i d = some (aheadI w h cs i d):=by
 have h49:w * h ≤ 7 * 7:=Nat.mul_le_mul hw.2 hh.2
 have e1:Int.tdiv (i:Int) (w:Int) = ((i / w:Nat):Int):=rfl
 have e2:Int.tmod (i:Int) (w:Int) = ((i % w:Nat):Int):=rfl
 have b1:i / w ≤ i:=Nat.div_le_self _ _
 have b2:i % w ≤ i:=Nat.mod_le _ _
 unfold spec_tiAhead.f aheadI
 rw [if_neg o_m,e1,e2]
 generalize i / w = y at *
 generalize i % w = x at *
 rw [w64 (n:=(y:Int)) o_m o_m,w64 (n:=(y:Int) - 1) o_m o_m,w64 (n:=(y:Int) + 1) o_m o_m,w64 (n:=(x:Int) - 1) o_m o_m,w64 (n:=(x:Int) + 1) o_m o_m]
 rcases dir4 hd with rfl | rfl | rfl | rfl
 ·rw [if_pos (by rfl)]
  exact look_eq hw hh hl (x:Int) ((y:Int) - 1)
 ·rw [if_neg d_c,if_pos (by rfl)]
  exact look_eq hw hh hl ((x:Int) + 1) (y:Int)
 ·rw [if_neg d_c,if_neg d_c,if_pos (by rfl)]
  exact look_eq hw hh hl (x:Int) ((y:Int) + 1)
 ·rw [if_neg d_c,if_neg d_c,if_neg d_c]
  exact look_eq hw hh hl ((x:Int) - 1) (y:Int)
def nxtI (w h d:Nat) (cs:List Int) (a b:Nat):Int:=if (decide (b + 1 < lnK w h d) && openAt cs (pos w h d a (b + 1))) = true then (pos w h d a (b + 1):Int) else -1
def restD (w h d:Nat) (cs:List Int) (a b:Nat):List Nat:=((lineD w h d a).drop b).takeWhile (openAt cs)
theorem lineD_length (w h d a:Nat):(lineD w h d a).length = lnK w h d:=by simp [lineD]
theorem restD_end {w h d a b:Nat} {cs:List Int} (hb:lnK w h d ≤ b):restD w h d cs a b = []:=by
 unfold restD;rw [List.drop_eq_nil_of_le (by rw [lineD_length];exact hb)];rfl
theorem restD_cons {w h d a b:Nat} {cs:List Int} (hb:b < lnK w h d):restD w h d cs a b = if openAt cs (pos w h d a b) = true then pos w h d a b :: restD w h d cs a (b + 1) else []:=by
 unfold restD
 rw [List.drop_eq_getElem_cons (by rw [lineD_length];exact hb),List.takeWhile_cons]
 have e:(lineD w h d a)[b]'(by rw [lineD_length];exact hb) = pos w h d a b:=by simp [lineD]
 rw [e]
theorem restD_length (w h d a b:Nat) (cs:List Int):(restD w h d cs a b).length ≤ lnK w h d:=by
 unfold restD
 exact Nat.le_trans (List.takeWhile_sublist _).length_le (by rw [List.length_drop,lineD_length];omega)
theorem lnK_le {w h d:Nat} (hw:w ≤ 7) (hh:h ≤ 7):lnK w h d ≤ 7:=by unfold lnK;split <;> omega
theorem opp_eq {d:Nat} (hd:d < 4):Int.tmod (wrap64 ((d:Int) + 2)) 4 = (((d + 2) % 4:Nat):Int):=by
 rw [w64 o_m o_m];rfl
section
variable {w h d:Nat} {cs:List Int} (hw:1 ≤ w ∧ w ≤ 7) (hh:1 ≤ h ∧ h ≤ 7) (hl:cs.length = w * h) (hd:d < 4)
include hw hh hl hd
theorem follow_l1 (x5:List (List Int)) (x13:List Int) (x14 x15:Int) (r:List (List Int)) {a:Nat} (ha:a < lnM w h d):∀ (n b:Nat) (x8:List Nat),b + n + 1 = lnK w h d → x8.length ≤ b + 1 →
  Ev (fun k=>spec_tiStretches.l2 k d x5 (castsI (x8 ++ restD w h d cs a (b + 1))) 0 x13 x14 x15 w h cs) r →
  Ev (fun k=>spec_tiStretches.l1 k d x5 (castsI x8) (nxtI w h d cs a b) x13 x14 x15 w h cs) r
 | 0,b,x8,hb,hx,hr=>by
  have hneg:nxtI w h d cs a b = -1:=by unfold nxtI;rw [decide_eq_false o_m,Bool.false_and,if_neg Bool.false_ne_true]
  rw [restD_end o_m,List.append_nil] at hr
  rw [hneg]
  exact Ev.step (fun k=>by rw [spec_tiStretches.l1,if_neg o_m]) hr
 | n + 1,b,x8,hb,hx,hr=>by
  have hK:=lnK_le (d:=d) hw.2 hh.2
  rw [restD_cons o_m] at hr
  unfold nxtI
  by_cases ho:openAt cs (pos w h d a (b + 1)) = true
  rotate_left
  ·rw [if_neg ho,List.append_nil] at hr
   rw [show openAt cs (pos w h d a (b + 1)) = false by simpa using ho,Bool.and_false,if_neg Bool.false_ne_true]
   exact Ev.step (fun k=>by rw [spec_tiStretches.l1,if_neg o_m]) hr
  rw [if_pos ho] at hr
  rw [decide_eq_true (show b + 1 < lnK w h d by omega),ho,Bool.true_and,if_pos rfl]
  have hp:=(pos_lt hd ha (show b + 1 < lnK w h d by omega)).2.2
  have hA:=tiAhead_eq hw hh hl hp (d:=(d + 2) % 4) o_m
  rw [back_pos hd ha (show b + 1 < lnK w h d by omega)] at hA
  refine Ev.step (fun k=>?_) (follow_l1 x5 x13 x14 x15 r ha n (b + 1) (x8 ++ [pos w h d a (b + 1)]) o_m (by rw [List.length_append];simp;omega) (by rw [List.append_assoc];exact hr))
  rw [spec_tiStretches.l1,if_pos o_m,if_pos (by rw [castsI_length];omega),opp_eq hd,hA,Option.bind_some,casts_app,casts_one];rfl
end
theorem rows_at (L:List (List Nat)) (i:Nat) (h:i < L.length):rd_L3 (L.map castsI) (i:Int) = castsI (L[i]'h):=by
 unfold rd_L3
 rw [Int.toNat_natCast,List.getD_eq_getElem?_getD,List.getElem?_map,List.getElem?_eq_getElem h];rfl
theorem place_l2 {w h d:Nat} {cs:List Int} (x13:List Int) (x14 x15:Int) (r:List (List Int)) (st:List Nat) (hne:st ≠ []) (hst:st.length < 1000000):∀ (rest pre:List (List Nat)),pre.length + rest.length < 1000000 → (∀ y ∈ rest,y ≠ [] ∧ y.length < 1000000) →
  Ev (fun k=>spec_tiStretches.l0 k d ((pre ++ insK st rest).map castsI) x13 x14 (wrap64 (x15 + 1)) w h cs) r →
  Ev (fun k=>spec_tiStretches.l2 k d ((pre ++ rest).map castsI) (castsI st) (pre.length:Int) x13 x14 x15 w h cs) r
 | [],pre,hlen,_,hr=>by
  refine Ev.step (fun k=>?_) hr
  have e1:((pre ++ []).map castsI).take ((pre.length:Int)).toNat = pre.map castsI:=by rw [List.append_nil,Int.toNat_natCast,List.take_of_length_le (by simp)]
  have e2:((pre ++ []).map castsI).drop ((pre.length:Int)).toNat = []:=by rw [List.append_nil,Int.toNat_natCast,List.drop_eq_nil_of_le (by simp)]
  simp only [List.length_nil,Nat.add_zero] at hlen
  rw [spec_tiStretches.l2,if_neg (by simp),Option.bind_some,if_pos o_m,if_pos (by simp),e1,e2,Option.bind_some,if_pos (by simp;omega),Option.bind_some,if_pos (by simp;omega),Option.bind_some,Option.bind_some,if_pos (by simp;omega)]
  simp [insK]
 | y :: ys,pre,hlen,hall,hr=>by
  have hL:((pre ++ y :: ys).map castsI).length = pre.length + ys.length + 1:=by simp;omega
  simp only [List.length_cons] at hlen
  have hy:=hall y List.mem_cons_self
  have hrow:rd_L3 ((pre ++ y :: ys).map castsI) (pre.length:Int) = castsI y:=by
   rw [rows_at _ _ (by simp)]
   congr 1
   simp
  have hstep:∀ k,spec_tiStretches.l2 (k + 1) d ((pre ++ y :: ys).map castsI) (castsI st) (pre.length:Int) x13 x14 x15 w h cs =
    (spec_tiFirst.f k (castsI y)).bind fun t113=>(spec_tiFirst.f k (castsI st)).bind fun t114=>if t113 < t114 then spec_tiStretches.l2 k d ((pre ++ y :: ys).map castsI) (castsI st) ((pre.length + 1:Nat):Int) x13 x14 x15 w h cs else spec_tiStretches.l0 k d ((pre ++ (st :: y :: ys)).map castsI) x13 x14 (wrap64 (x15 + 1)) w h cs:=by
   intro k
   have e1:((pre ++ y :: ys).map castsI).take ((pre.length:Int)).toNat = pre.map castsI:=by rw [Int.toNat_natCast,List.map_append,List.take_left' (by simp)]
   have e2:((pre ++ y :: ys).map castsI).drop ((pre.length:Int)).toNat = (y :: ys).map castsI:=by rw [Int.toNat_natCast,List.map_append,List.drop_left' (by simp)]
   rw [spec_tiStretches.l2,if_pos o_m,if_pos o_m,hrow]
   congr 1
   funext t113
   congr 1
   funext t114
   by_cases ht:t113 < t114
   ·rw [if_pos ht,if_pos ht,w64 o_m o_m];rfl
   rw [if_neg ht,if_neg ht,Option.bind_some,if_pos o_m,e1,e2,Option.bind_some,if_pos (by simp;omega),Option.bind_some,if_pos (by simp;omega),Option.bind_some,Option.bind_some,if_pos (by simp;omega)]
   simp
  refine Ev.step hstep (Ev.bind (tiFirst_ev hy.1 hy.2) (Ev.bind (tiFirst_ev hne hst) ?_))
  unfold insK at hr
  by_cases hlt:leastL y < leastL st
  rotate_left
  ·rw [if_neg hlt] at hr
   exact Ev.congr (fun k=>if_neg o_m) hr
  rw [if_pos hlt] at hr
  refine Ev.congr (fun k=>if_pos o_m) ?_
  have:=place_l2 x13 x14 x15 r st hne hst ys (pre ++ [y]) (by simp;omega) (fun z hz=>hall z (List.mem_cons_of_mem _ hz)) (by rw [List.append_assoc];exact hr)
  rw [List.append_assoc,List.length_append] at this
  exact this
theorem tail_head {w h d i:Nat} {cs:List Int} (hd:d < 4) (hi:i < w * h) (ho:openAt cs i = true):tailD w h d cs i = i :: restD w h d cs (lnA w d i) (lnB w h d i + 1):=by
 obtain ⟨h1,h2,h3⟩:=inv_pos hd hi
 show restD w h d cs (lnA w d i) (lnB w h d i) = _
 rw [restD_cons h2,h3,if_pos ho]
section
variable {w h d:Nat} {cs:List Int} (hw:1 ≤ w ∧ w ≤ 7) (hh:1 ≤ h ∧ h ≤ 7) (hl:cs.length = w * h) (hd:d < 4)
include hw hh hl hd
theorem cells_l0:∀ (n i:Nat) (out:List (List Nat)),i + n = w * h → out.length ≤ i → (∀ y ∈ out,y ≠ [] ∧ y.length < 1000000) →
  Ev (fun k=>spec_tiStretches.l0 k d (out.map castsI) cs (cs.length:Int) i w h cs) (((((List.range' i n).filter (endD w h d cs)).map (tailD w h d cs)).foldl (fun o x=>insK x o) out).map castsI)
 | 0,i,out,hi,ho,hall=>Ev.step (fun k=>by rw [spec_tiStretches.l0,if_neg o_m];rfl) (Ev.now _)
 | n + 1,i,out,hi,ho,hall=>by
  have h49:w * h ≤ 7 * 7:=Nat.mul_le_mul hw.2 hh.2
  have hil:i < w * h:=by omega
  have hK:=lnK_le (d:=d) hw.2 hh.2
  obtain ⟨q1,q2,q3⟩:=inv_pos hd hil
  have HWR:Aside0 (wrap64 ((i:Int) + 1) = ((i + 1:Nat):Int)):=⟨by rw [w64 o_m o_m];rfl⟩
  have hrd:rd cs (i:Int) = cs.getD i 0:=by unfold rd;rw [Int.toNat_natCast]
  have hend:=end_ahead hd hil cs
  have hA:=tiAhead_eq hw hh hl hil hd
  have hB:=tiAhead_eq hw hh hl hil (d:=(d + 2) % 4) o_m
  have hback:=back_pos hd q1 q2 cs
  rw [q3] at hback
  rw [hback] at hB
  have hskip:endD w h d cs i = false → Ev (fun k=>spec_tiStretches.l0 k d (out.map castsI) cs (cs.length:Int) ((i + 1:Nat):Int) w h cs) (((((List.range' i (n + 1)).filter (endD w h d cs)).map (tailD w h d cs)).foldl (fun o x=>insK x o) out).map castsI):=fun he=>by
   rw [List.range'_succ,List.filter_cons,he,if_neg Bool.false_ne_true]
   exact cells_l0 n (i + 1) out o_m o_m hall
  by_cases h35:cs.getD i 0 = 35
  ·have hop:openAt cs i = false:=by unfold openAt isOpenC;rw [h35];rfl
   have he:endD w h d cs i = false:=by rw [hend,hop,Bool.false_and]
   refine Ev.step (f:=fun k=>spec_tiStretches.j1 k d (out.map castsI) i cs (cs.length:Int) i true w h cs) (fun k=>by rw [spec_tiStretches.l0,if_pos o_m,if_pos o_m,if_pos o_m,hrd,if_pos h35]) ?_
   exact Ev.step (fun k=>by rw [spec_tiStretches.j1,if_pos rfl,HWR.out]) (hskip he)
  have hop:openAt cs i = true:=by unfold openAt isOpenC;simpa using h35
  rw [hop,Bool.true_and] at hend
  refine Ev.step (f:=fun k=>spec_tiStretches.j1 k d (out.map castsI) i cs (cs.length:Int) i (decide (aheadI w h cs i d ≥ 0)) w h cs) (fun k=>by rw [spec_tiStretches.l0,if_pos o_m,if_pos o_m,if_pos o_m,hrd,if_neg h35,hA,Option.bind_some]) ?_
  by_cases hah:aheadI w h cs i d ≥ 0
  ·have he:endD w h d cs i = false:=by rw [hend];exact decide_eq_false o_m
   rw [decide_eq_true hah]
   exact Ev.step (fun k=>by rw [spec_tiStretches.j1,if_pos rfl,HWR.out]) (hskip he)
  have he:endD w h d cs i = true:=by rw [hend];exact decide_eq_true o_m
  rw [decide_eq_false hah]
  refine Ev.step (f:=fun k=>spec_tiStretches.l1 k d (out.map castsI) (castsI [i]) (nxtI w h d cs (lnA w d i) (lnB w h d i)) cs (cs.length:Int) i w h cs) (fun k=>by
   rw [spec_tiStretches.j1,if_neg Bool.false_ne_true,opp_eq hd,hB,Option.bind_some];rfl) ?_
  refine follow_l1 hw hh hl hd (out.map castsI) cs (cs.length:Int) i _ q1 (lnK w h d - 1 - lnB w h d i) (lnB w h d i) [i] o_m (by simp) ?_
  have ht:=tail_head hd hil hop
  rw [show [i] ++ restD w h d cs (lnA w d i) (lnB w h d i + 1) = tailD w h d cs i from ht.symm]
  have htl:(tailD w h d cs i).length < 1000000:=by
   have:=restD_length w h d (lnA w d i) (lnB w h d i + 1) cs
   rw [ht,List.length_cons];omega
  have htn:tailD w h d cs i ≠ []:=by rw [ht];exact List.cons_ne_nil _ _
  refine place_l2 (d:=d) cs (cs.length:Int) i _ (tailD w h d cs i) htn htl out [] (by simp;omega) hall ?_
  rw [List.nil_append,HWR.out,List.range'_succ,List.filter_cons,he,if_pos rfl,List.map_cons,List.foldl_cons]
  have hp:=insK_perm (tailD w h d cs i) out
  refine cells_l0 n (i + 1) (insK (tailD w h d cs i) out) o_m (by rw [hp.length_eq,List.length_cons];omega) (fun y hy=>?_)
  rcases List.mem_cons.1 (hp.mem_iff.1 hy) with rfl | hy
  ·exact ⟨htn,htl⟩
  ·exact hall y hy
theorem tiStretches_ev:Ev (fun k=>spec_tiStretches.f k w h cs d) ((strD w h d cs).map castsI):=by
 have h0:=cells_l0 hw hh hl hd (w * h) 0 [] o_m (by simp) (fun y hy=>by cases hy)
 rw [← List.range_eq_range'] at h0
 exact h0
end
end Go.Proofs.YtldhkbiomingbaaGreatDoor

namespace Go.Proofs.YtldhkbiomingbaaGreatDoor
open Go.RowKit Go.YW.PrintWords Go.YW.PrintLast Go.YW.PrintMore Go.Lib Go.Proofs.YtldhkbiomingbaaGreatDoor.F
def gridI (a0 a1:Int) (l:List Int):Prop:=(1 ≤ a0 ∧ a0 ≤ 7) ∧ (1 ≤ a1 ∧ a1 ≤ 7) ∧ l.length = a0.toNat * a1.toNat
instance (a0 a1:Int) (l:List Int):Decidable (gridI a0 a1 l):=by unfold gridI;exact inferInstance
theorem gridI_nat {w h:Nat} {cs:List Int} (hw:1 ≤ w ∧ w ≤ 7) (hh:1 ≤ h ∧ h ≤ 7) (hl:cs.length = w * h):gridI w h cs:=⟨by omega,by omega,by rw [Int.toNat_natCast,Int.toNat_natCast];exact hl⟩
theorem strD_facts {w h d:Nat} {cs:List Int} (hw:1 ≤ w ∧ w ≤ 7) (hh:1 ≤ h ∧ h ≤ 7) (hl:cs.length = w * h) (hd:d < 4) :
  (0 < cs.length ∧ cs.length < 65536) ∧ (∀ st ∈ strD w h d cs,∀ i ∈ st,i < cs.length) ∧ (strD w h d cs).flatten.length < 65536 ∧ (strD w h d cs).length < 65536 ∧ (∀ st ∈ strD w h d cs,st.length < 65536):=by
 have h49:w * h ≤ 7 * 7:=Nat.mul_le_mul hw.2 hh.2
 have h1:0 < w * h:=Nat.mul_pos o_m o_m
 have hf:(strD w h d cs).flatten.length ≤ w * h:=by
  rw [(strD_cells hd cs).length_eq]
  exact Nat.le_trans (List.length_filter_le _ _) (by rw [List.length_range];exact Nat.le_refl _)
 have hne:=strD_ne hd (w:=w) (h:=h) (cs:=cs)
 have len:∀ S:List (List Nat),(∀ st ∈ S,st ≠ []) → S.length ≤ S.flatten.length ∧ ∀ st ∈ S,st.length ≤ S.flatten.length:=fun S=>by
  induction S with
  | nil=>intro _;exact ⟨Nat.le_refl _,fun st h=>by cases h⟩
  | cons a S ih =>
   intro hs
   obtain ⟨i1,i2⟩:=ih (fun st h=>hs st (List.mem_cons_of_mem _ h))
   have ha:0 < a.length:=List.length_pos_iff.2 (hs a List.mem_cons_self)
   rw [List.flatten_cons,List.length_append,List.length_cons]
   refine ⟨by omega,fun st h=>?_⟩
   rcases List.mem_cons.1 h with rfl | h
   ·omega
   ·have:=i2 st h;omega
 obtain ⟨l1,l2⟩:=len _ hne
 refine ⟨⟨by rw [hl];exact h1,by rw [hl];omega⟩,fun st hs i hi=>by rw [hl];exact (strD_Str hd cs).lt st hs i hi,by omega,by omega,fun st hs=>?_⟩
 have:=l2 st hs
 omega
def spec_tiTilt.f (a0 a1:Int) (l:List Int) (d:Int):Option (Int × Int × List Int):=if gridI a0 a1 l ∧ 0 ≤ d ∧ d < 4 then some (a0,a1,tiltD a0.toNat a1.toNat d.toNat l) else none
theorem spec_tiTilt_eq {w h d:Nat} {cs:List Int} (hw:1 ≤ w ∧ w ≤ 7) (hh:1 ≤ h ∧ h ≤ 7) (hl:cs.length = w * h) (hd:d < 4):spec_tiTilt.f w h cs d = some ((w:Int),(h:Int),tiltD w h d cs):=if_pos ⟨gridI_nat hw hh hl,by omega,by omega⟩
theorem spec_tiTilt.calls (a0_0 a0_1:Int) (A0_2:Option Addr) (c0_2:Nat) (l0_2:List Int) (a1:Int) (r1 r2:Int) (r3:List Int) (w:World) (hr0_2:Kd.C (Kd.int .u8) w A0_2 l0_2.length l0_2) (hc0_2:l0_2.length ≤ c0_2) (h:spec_tiTilt.f a0_0 a0_1 l0_2 a1 = some (r1,r2,r3)) :
  Calls Tryz.prog 100 #[.agg #[.int .i64 a0_0,.int .i64 a0_1,.slice A0_2 l0_2.length c0_2],.int .i64 a1] w fun e w'=>∃ v2_:Value,e = .returned (.agg #[.int .i64 r1,.int .i64 r2,v2_]) ∧ Kd.R (Kd.int .u8) 5 w' w.heap.size (fun _=>True) v2_ r3 ∧ Below w.heap.size w w':=by
 unfold spec_tiTilt.f at h
 split at h
 case isFalse=>cases h
 rename_i hc
 obtain ⟨⟨hw,hh,hl⟩,hd0,hd4⟩:=hc
 injection h with h
 injection h with h1 h
 injection h with h2 h3
 subst h1 h2 h3
 obtain ⟨W,rfl⟩:∃ n:Nat,a0_0 = n:=⟨a0_0.toNat,by omega⟩
 obtain ⟨H,rfl⟩:∃ n:Nat,a0_1 = n:=⟨a0_1.toNat,by omega⟩
 obtain ⟨d,rfl⟩:∃ n:Nat,a1 = n:=⟨a1.toNat,by omega⟩
 simp only [Int.toNat_natCast] at hl ⊢
 have hw':1 ≤ W ∧ W ≤ 7:=by omega
 have hh':1 ≤ H ∧ H ≤ 7:=by omega
 have hd':d < 4:=by omega
 obtain ⟨f1,f2,f3,f4,f5⟩:=strD_facts hw' hh' hl hd'
 obtain ⟨k,hk⟩:=Ev.rounds (tiStretches_ev hw' hh' hl hd')
 refine tiTilt_calls W H d A0_2 c0_2 l0_2 (strD W H d l0_2) w hr0_2 hc0_2 f1 f2 f4 f5 (fun W' hW=>?_)
 exact spec_tiStretches.calls k W H A0_2 c0_2 l0_2 d _ W' (Kd.C_below hr0_2 hW) hc0_2 hk
end Go.Proofs.YtldhkbiomingbaaGreatDoor
