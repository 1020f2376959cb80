/- The proof that the law's row holds, part 2: the kit's words, the printed walks and the plain law. No conditions beyond the card's own. -/
import Derived.Test.YtldhkbiomingbaaGreatDoorProg
import Derived.Sort.Walk0
import Derived.Tactics
import Derived.Shelf.SlicesE.IndexFunc
import Derived.Test.YtldhkbiomingbaaGreatDoorJ0
import Derived.Test.YtldhkbiomingbaaGreatDoorJ1
set_option linter.unusedVariables false
set_option linter.unusedSimpArgs false
set_option maxHeartbeats 8000000
set_option maxRecDepth 100000
namespace Go.Proofs.YtldhkbiomingbaaGreatDoor.F
open Go.Proofs.YtldhkbiomingbaaGreatDoor
open Go.RowKit Go.YW.PrintWords Go.YW.PrintLast Go.YW.PrintMore
attribute [local go_sem] max2_int min2_int max_two min_two max_three min_three max_four min_four
mutual
def spec_tyRead.l0:Nat → ByteArray → Int → Int → Int → Int → List Int → Option (Int × Int × List Int × Bool)
 | 0,_,_,_,_,_,_=>none
 | k + 1,x0,x5,x6,x103000,x103001,x103002=>if x6 ≤ (x0.size:Int) then (if x6 < (x0.size:Int) then (if 0 ≤ x6 then (spec_tyRead.j1 k x0 x5 x6 ((bt x0 x6) != 47) x103000 x103001 x103002) else (none)) else (spec_tyRead.j1 k x0 x5 x6 false x103000 x103001 x103002)) else (if x103000 > 7 then (spec_tyRead.j2 k true x103000 x103001 x103002) else (if x103001 > 7 then (spec_tyRead.j2 k true x103000 x103001 x103002) else (spec_tyRead.j2 k (decide ((x103002.length:Int) > 36)) x103000 x103001 x103002)))
def spec_tyRead.j1:Nat → ByteArray → Int → Int → Bool → Int → Int → List Int → Option (Int × Int × List Int × Bool)
 | 0,_,_,_,_,_,_,_=>none
 | k + 1,x0,x5,x6,x31,x103000,x103001,x103002=>if x31 = true then (if 0 ≤ x6 then (if x6 < (x0.size:Int) then ((spec_tyIs.f (bt x0 x6)).bind fun t103=>(if t103 = true then (if x103002.length < 140737488355328 then (spec_tyRead.l0 k x0 (wrap64 (x5 + 1)) (wrap64 (x6 + 1)) x103000 x103001 (x103002 ++ [bt x0 x6])) else (none)) else (some (0,0,([]:List Int),false)))) else (none)) else (none)) else (if x103001 > 0 then (if x5 = x103000 then (if x5 = 0 then (some (0,0,([]:List Int),false)) else (spec_tyRead.l0 k x0 0 (wrap64 (x6 + 1)) x5 (wrap64 (x103001 + 1)) x103002)) else (some (0,0,([]:List Int),false))) else (if x5 = 0 then (some (0,0,([]:List Int),false)) else (spec_tyRead.l0 k x0 0 (wrap64 (x6 + 1)) x5 (wrap64 (x103001 + 1)) x103002)))
def spec_tyRead.j2:Nat → Bool → Int → Int → List Int → Option (Int × Int × List Int × Bool)
 | 0,_,_,_,_=>none
 | k + 1,x81,x103000,x103001,x103002=>if x81 = true then (some (0,0,([]:List Int),false)) else (spec_tyRead.l1 k x103002 (x103002.length:Int) 0 x103000 x103001 x103002)
def spec_tyRead.l1:Nat → List Int → Int → Int → Int → Int → List Int → Option (Int × Int × List Int × Bool)
 | 0,_,_,_,_,_,_=>none
 | k + 1,x84,x85,x86,x103000,x103001,x103002=>if x86 < x85 then (if 0 ≤ x86 then (if x86 < (x84.length:Int) then (if x86 ≤ (x103002.length:Int) then ((some (x103002.take (x86:Int).toNat:List Int)).bind fun y108=>(spec_tyRead.l2 k (rd x84 x86) x84 x85 x86 y108 (y108.length:Int) 0 x103000 x103001 x103002)) else (none)) else (none)) else (none)) else (some (x103000,x103001,x103002,true))
def spec_tyRead.l2:Nat → Int → List Int → Int → Int → List Int → Int → Int → Int → Int → List Int → Option (Int × Int × List Int × Bool)
 | 0,_,_,_,_,_,_,_,_,_,_=>none
 | k + 1,x8,x84,x85,x86,x94,x95,x96,x103000,x103001,x103002=>if x96 < x95 then (if 0 ≤ x96 then (if x96 < (x94.length:Int) then (if x8 = (rd x94 x96) then (if x8 ≥ 97 then (if x8 ≤ 102 then (some (0,0,([]:List Int),false)) else (spec_tyRead.l2 k x8 x84 x85 x86 x94 x95 (wrap64 (x96 + 1)) x103000 x103001 x103002)) else (spec_tyRead.l2 k x8 x84 x85 x86 x94 x95 (wrap64 (x96 + 1)) x103000 x103001 x103002)) else (spec_tyRead.l2 k x8 x84 x85 x86 x94 x95 (wrap64 (x96 + 1)) x103000 x103001 x103002)) else (none)) else (none)) else (spec_tyRead.l1 k x84 x85 (wrap64 (x86 + 1)) x103000 x103001 x103002)
end
def spec_tyRead.f (k:Nat) (a0:ByteArray):Option (Int × Int × List Int × Bool):=if (a0.size:Int) > 42 then (some (0,0,([]:List Int),false)) else (spec_tyRead.l0 k a0 0 0 0 0 ([]:List Int))
theorem spec_tyRead.mono_l:∀ k,(∀ y0 y1 y2 y3 y4 y5,LeO (spec_tyRead.l0 k y0 y1 y2 y3 y4 y5) (spec_tyRead.l0 (k + 1) y0 y1 y2 y3 y4 y5)) ∧ (∀ y0 y1 y2 y3 y4 y5 y6,LeO (spec_tyRead.j1 k y0 y1 y2 y3 y4 y5 y6) (spec_tyRead.j1 (k + 1) y0 y1 y2 y3 y4 y5 y6)) ∧ (∀ y0 y1 y2 y3,LeO (spec_tyRead.j2 k y0 y1 y2 y3) (spec_tyRead.j2 (k + 1) y0 y1 y2 y3)) ∧ (∀ y0 y1 y2 y3 y4 y5,LeO (spec_tyRead.l1 k y0 y1 y2 y3 y4 y5) (spec_tyRead.l1 (k + 1) y0 y1 y2 y3 y4 y5)) ∧ (∀ y0 y1 y2 y3 y4 y5 y6 y7 y8 y9,LeO (spec_tyRead.l2 k y0 y1 y2 y3 y4 y5 y6 y7 y8 y9) (spec_tyRead.l2 (k + 1) y0 y1 y2 y3 y4 y5 y6 y7 y8 y9))
 | 0=>⟨fun _ _ _ _ _ _ r h=>by simp [spec_tyRead.l0] at h,fun _ _ _ _ _ _ _ r h=>by simp [spec_tyRead.j1] at h,fun _ _ _ _ r h=>by simp [spec_tyRead.j2] at h,fun _ _ _ _ _ _ r h=>by simp [spec_tyRead.l1] at h,fun _ _ _ _ _ _ _ _ _ _ r h=>by simp [spec_tyRead.l2] at h⟩
 | k + 1=>by
  obtain ⟨ih0,ih1,ih2,ih3,ih4⟩:=spec_tyRead.mono_l k
  refine ⟨?_,?_,?_,?_,?_⟩
  ·intro y0 y1 y2 y3 y4 y5
   unfold spec_tyRead.l0
   exact mo
  ·intro y0 y1 y2 y3 y4 y5 y6
   unfold spec_tyRead.j1
   exact mo
  ·intro y0 y1 y2 y3
   unfold spec_tyRead.j2
   exact mo
  ·intro y0 y1 y2 y3 y4 y5
   unfold spec_tyRead.l1
   exact mo
  ·intro y0 y1 y2 y3 y4 y5 y6 y7 y8 y9
   unfold spec_tyRead.l2
   exact mo
def spec_tyRead.T11:Bool × List (List Nat × List Nat):=(true,[([],[]),([0],[0]),([],[]),([],[]),([2,3],[2,3]),([4],[4]),([1,5],[1,5]),([0,1,2,3,4,5,6],[]),([7,6,6,0,1,2,3,4,5,6],[6,7])])
def spec_tyRead.B11:List Nat:=[0,1,0,0,12,28,63,127,255]
theorem spec_tyRead.tab11:rtab .any (opsOf Tryz.f63 11) = spec_tyRead.T11:=by kernel_rfl
theorem spec_tyRead.bits11:waitsOk spec_tyRead.T11.2 spec_tyRead.B11 = true:=by kernel_rfl
theorem spec_tyRead.calls (k:Nat) (a0:ByteArray) (r1:Int) (r2:Int) (r3:List Int) (r4:Bool) (w:World) (h:spec_tyRead.f k a0 = some (r1,r2,r3,r4)) :
  Calls Tryz.prog 63 #[.string a0] w fun e w'=>∃ v2_:Value,e = .returned (.tuple #[.agg #[.int .i64 r1,.int .i64 r2,v2_],.bool r4]) ∧ Kd.R (Kd.int .u8) 5 w' w.heap.size (fun _=>True) v2_ r3 ∧ Below w.heap.size w w':=by
 have hu75:=Tryz.underlying75
 have HB:=am (Below.refl w.heap.size w)
 have H:(if (a0.size:Int) > 42 then (some (0,0,([]:List Int),false)) else (spec_tyRead.l0 k a0 0 0 0 0 ([]:List Int))) = some (r1,r2,r3,r4):=h
 clear h
 by_cases c2:(a0.size:Int) > 42
 ·rw [if_pos c2] at H
  have c2b0:=decide_eq_true c2
  have c2b1:decide (42 < a0.size) = true:=decide_eq_true o_m
  clear c2
  simp only [Option.some.injEq,Prod.mk.injEq] at H
  obtain ⟨rfl,rfl,rfl,rfl⟩:=H
  go_enter Tryz.func63,Tryz.ntmps63
  go_wp2_with (first | ((with_reducible refine gate_dst (N:=2) rfl ?_);(try (refine gate_guard (by rfl) ?_;dsimp only));refine box_event ?hg (N:=2) ?hd (cs:=#[.int .i64 0,.int .i64 0,.slice none 0 0]) (t:=75) ?hr ?_;(case hd=>rfl);(case hg=>rfl);(case hr=>exact aq12);intro gb101 hg w3 hbox hb;have BK101:=am (hbox);have GW101:=am ((by rw [hg];exact (below_size aq1):w.heap.size ≤ gb101));have GE101:=GW101;replace HB:=am (below_step aq1 hb);clear hb hbox hg) | ((with_reducible refine gate_dst (N:=4) rfl ?_);(try (refine gate_guard (by rfl) ?_;dsimp only));refine box_event ?hg (N:=4) ?hd (cs:=#[.int .i64 0,.int .i64 0,.slice none 0 0]) (t:=75) ?hr ?_;(case hd=>rfl);(case hg=>rfl);(case hr=>exact aq12);intro gb102 hg w4 hbox hb;have BK102:=am (hbox);have GW102:=am ((by rw [hg];exact (below_size aq0):w.heap.size ≤ gb102));have GE102:=GW102;replace HB:=am (below_step aq0 hb);have NB101_102:=am ((by rw [hg];exact Nat.ne_of_lt (blk_lt (g:=gb101) (o:=.cells #[.int .i64 0,.int .i64 0,.slice none 0 0] 75 (0,0)) aq2):gb101 ≠ gb102));have NB102_101:=am ((by rw [hg];exact Nat.ne_of_gt (blk_lt (g:=gb101) (o:=.cells #[.int .i64 0,.int .i64 0,.slice none 0 0] 75 (0,0)) aq2):gb102 ≠ gb101));replace BK101:=am (bb BK101 hb);clear hb hbox hg;have hnb5:=NB102_101.out;have hnc5:=NB101_102.out;obtain ⟨hcz6_0,hcz6_1,hcz6_2,hfz6_0,hfz6_1,hfz6_2⟩:=blk3_ BK102.out;obtain ⟨hcz7_0,hcz7_1,hcz7_2,hfz7_0,hfz7_1,hfz7_2⟩:=blk3_ BK101.out))
  refine bodyPost_ret (results_ct rfl _ _ gb101 75 #[.int .i64 0,.int .i64 0,.slice none 0 0] (0,0) _ rfl (by (with_reducible repeat (first | refine blk_drewN ?_ _ | refine blk_drew ?_ | refine blk_alloc ?_ _));refine blk_put (cs:=#[.int .i64 0,.int .i64 0,.slice none 0 0]) ?_ 2 _ rfl;(with_reducible repeat (first | refine blk_drewN ?_ _ | refine blk_drew ?_ | refine blk_alloc ?_ _));refine blk_put (cs:=#[.int .i64 0,.int .i64 0,.slice none 0 0]) ?_ 1 _ rfl;(with_reducible repeat (first | refine blk_drewN ?_ _ | refine blk_drew ?_ | refine blk_alloc ?_ _));refine blk_put (cs:=#[.int .i64 0,.int .i64 0,.slice none 0 0]) ?_ 0 _ rfl;(with_reducible repeat (first | refine blk_drewN ?_ _ | refine blk_drew ?_ | refine blk_alloc ?_ _));refine blk_far ?_ NB101_102.out _;(with_reducible repeat (first | refine blk_drewN ?_ _ | refine blk_drew ?_ | refine blk_alloc ?_ _));refine blk_far ?_ NB101_102.out _;(with_reducible repeat (first | refine blk_drewN ?_ _ | refine blk_drew ?_ | refine blk_alloc ?_ _));refine blk_far ?_ NB101_102.out _;(with_reducible repeat (first | refine blk_drewN ?_ _ | refine blk_drew ?_ | refine blk_alloc ?_ _));exact BK101.out) Tryz.underlying75 rfl k_r) rfl ?_
  exact ⟨_,aq9,aq19,aq5⟩
 rw [if_neg c2] at H
 have c2b0:=decide_eq_false c2
 have c2b1:decide (42 < a0.size) = false:=decide_eq_false o_m
 clear c2
 have H':=am H
 clear H
 go_enter Tryz.func63,Tryz.ntmps63
 go_wp2_with (first | ((with_reducible refine gate_dst (N:=2) rfl ?_);(try (refine gate_guard (by rfl) ?_;dsimp only));refine box_event ?hg (N:=2) ?hd (cs:=#[.int .i64 0,.int .i64 0,.slice none 0 0]) (t:=75) ?hr ?_;(case hd=>rfl);(case hg=>rfl);(case hr=>exact aq12);intro gb101 hg w8 hbox hb;have BK101:=am (hbox);have GW101:=am ((by rw [hg];exact (below_size aq1):w.heap.size ≤ gb101));have GE101:=GW101;replace HB:=am (below_step aq1 hb);clear hb hbox hg) | ((with_reducible refine gate_dst (N:=4) rfl ?_);(try (refine gate_guard (by rfl) ?_;dsimp only));refine box_event ?hg (N:=4) ?hd (cs:=#[.int .i64 0,.int .i64 0,.slice none 0 0]) (t:=75) ?hr ?_;(case hd=>rfl);(case hg=>rfl);(case hr=>exact aq12);intro gb102 hg w9 hbox hb;have BK102:=am (hbox);have GW102:=am ((by rw [hg];exact (below_size aq0):w.heap.size ≤ gb102));have GE102:=GW102;replace HB:=am (below_step aq0 hb);have NB101_102:=am ((by rw [hg];exact Nat.ne_of_lt (blk_lt (g:=gb101) (o:=.cells #[.int .i64 0,.int .i64 0,.slice none 0 0] 75 (0,0)) aq2):gb101 ≠ gb102));have NB102_101:=am ((by rw [hg];exact Nat.ne_of_gt (blk_lt (g:=gb101) (o:=.cells #[.int .i64 0,.int .i64 0,.slice none 0 0] 75 (0,0)) aq2):gb102 ≠ gb101));replace BK101:=am (bb BK101 hb);clear hb hbox hg;have hnb10:=NB102_101.out;have hnc10:=NB101_102.out;obtain ⟨hcz11_0,hcz11_1,hcz11_2,hfz11_0,hfz11_1,hfz11_2⟩:=blk3_ BK102.out))
 go_loopg [5,6] k (fun kq v5 v6 w'=>∃ (x5_1:Int) (x6_1:Int) (x102000_1:Int) (x102001_1:Int) (x103000_1:Int) (x103001_1:Int) (x103002_1:List Int) (u103002:Value),v5 = .int .i64 x5_1 ∧ v6 = .int .i64 x6_1 ∧ Aside0 (spec_tyRead.l0 kq a0 x5_1 x6_1 x103000_1 x103001_1 x103002_1 = some (r1,r2,r3,r4)) ∧ Aside0 (kq ≤ k) ∧ Aside0 (Kd.R (Kd.int .u8) 5 w' w.heap.size (fun _=>True) u103002 x103002_1) ∧ Aside0 (w'.heap[gb101]? = some (.cells #[.int .i64 x102000_1,.int .i64 x102001_1,(.slice none 0 0)] 75 (0,0))) ∧ Aside0 (w'.heap[gb102]? = some (.cells #[.int .i64 x103000_1,.int .i64 x103001_1,u103002] 75 (0,0))) ∧ Aside0 (Below w.heap.size w w'))
 case atStart=>exact ⟨(0),(0),(0),(0),(0),(0),(([]:List Int)),(.slice none 0 0),aq6,aq6,H',⟨Nat.le_refl _⟩,⟨aq19⟩,⟨by (with_reducible repeat (first | refine blk_drewN ?_ _ | refine blk_drew ?_ | refine blk_alloc ?_ _));refine blk_far ?_ NB101_102.out _;(with_reducible repeat (first | refine blk_drewN ?_ _ | refine blk_drew ?_ | refine blk_alloc ?_ _));refine blk_far ?_ NB101_102.out _;(with_reducible repeat (first | refine blk_drewN ?_ _ | refine blk_drew ?_ | refine blk_alloc ?_ _));refine blk_far ?_ NB101_102.out _;(with_reducible repeat (first | refine blk_drewN ?_ _ | refine blk_drew ?_ | refine blk_alloc ?_ _));exact BK101.out⟩,⟨by (with_reducible repeat (first | refine blk_drewN ?_ _ | refine blk_drew ?_ | refine blk_alloc ?_ _));refine blk_put (cs:=#[.int .i64 0,.int .i64 0,.slice none 0 0]) ?_ 2 _ rfl;(with_reducible repeat (first | refine blk_drewN ?_ _ | refine blk_drew ?_ | refine blk_alloc ?_ _));refine blk_put (cs:=#[.int .i64 0,.int .i64 0,.slice none 0 0]) ?_ 1 _ rfl;(with_reducible repeat (first | refine blk_drewN ?_ _ | refine blk_drew ?_ | refine blk_alloc ?_ _));refine blk_put (cs:=#[.int .i64 0,.int .i64 0,.slice none 0 0]) ?_ 0 _ rfl;(with_reducible repeat (first | refine blk_drewN ?_ _ | refine blk_drew ?_ | refine blk_alloc ?_ _));exact BK102.out⟩,⟨aq5⟩⟩
 case round =>
  clear H'
  try clear c1
  try clear c2
  try clear c2b0
  try clear c2b1
  try clear p2
  try clear c5
  try clear c6
  try clear c10
  try clear hcz11_0
  try clear hcz11_1
  try clear hcz11_2
  try clear hcz6_0
  try clear hcz6_1
  try clear hcz6_2
  try clear hcz7_0
  try clear hcz7_1
  try clear hcz7_2
  try clear hfz11_0
  try clear hfz11_1
  try clear hfz11_2
  try clear hfz6_0
  try clear hfz6_1
  try clear hfz6_2
  try clear hfz7_0
  try clear hfz7_1
  try clear hfz7_2
  obtain ⟨x5_1,x6_1,x102000_1,x102001_1,x103000_1,x103001_1,x103002_1,u103002,rfl,rfl,HA,HK1,HO_103002,BK101,BK102,HB⟩:=hrel
  cases gk with
  | zero=>exact absurd HA.out (by simp [spec_tyRead.l0])
  | succ k1 =>
   have H:=HA.out
   clear HA
   simp only [spec_tyRead.l0] at H
   by_cases c12:x6_1 ≤ (a0.size:Int)
   ·rw [if_pos c12] at H
    have c12b0:=decide_eq_true c12
    clear c12
    have HC13:=am H
    clear H
    go_upto_region 8 with (fail)
    go_cut [31] (fun v31 wc=>∃ (kq:Nat) (x31_12:Bool),v31 = .bool x31_12 ∧ Aside0 (spec_tyRead.j1 kq a0 x5_1 x6_1 x31_12 x103000_1 x103001_1 x103002_1 = some (r1,r2,r3,r4)) ∧ Aside0 (kq ≤ k1) ∧ Aside0 (Kd.R (Kd.int .u8) 5 wc w.heap.size (fun _=>True) u103002 x103002_1) ∧ Aside0 (wc.heap[gb101]? = some (.cells #[.int .i64 x102000_1,.int .i64 x102001_1,(.slice none 0 0)] 75 (0,0))) ∧ Aside0 (wc.heap[gb102]? = some (.cells #[.int .i64 x103000_1,.int .i64 x103001_1,u103002] 75 (0,0))) ∧ Aside0 (Below w.heap.size w wc))
    case first =>
     have H:=HC13.out
     clear HC13
     by_cases c14:x6_1 < (a0.size:Int)
     rotate_left
     ·rw [if_neg c14] at H
      have c14b0:=decide_eq_false c14
      clear c14
      (first | rw [c14b0] | (simp only [i64_w,i32_w];rw [c14b0]) | skip)
      have H':=am H
      clear H
      go_wp2
      go_meet
      case rel=>exact ⟨_,(false),aq6,H',⟨aq48⟩,⟨aq16⟩,⟨aq2⟩,⟨aq11⟩,⟨aq5⟩⟩
     rw [if_pos c14] at H
     have c14b0:=decide_eq_true c14
     clear c14
     (first | rw [c14b0] | (simp only [i64_w,i32_w];rw [c14b0]) | skip)
     replace H:=gd H
     obtain ⟨c15,H⟩:=H
     have c15b0:=decide_eq_true c15
     clear c15
     have H':=am H
     clear H
     have p16:0 ≤ (x6_1:Int):=of_decide_eq_true aq4
     have q16:x6_1 < (a0.size:Int):=of_decide_eq_true aq4
     have hx16:=bt_at a0 x6_1
     replace p16:=eq_true p16
     replace q16:=eq_true q16
     go_wp2
     go_meet
     case rel=>exact ⟨_,(((bt a0 x6_1) != 47)),aq6,H',⟨aq48⟩,⟨aq16⟩,⟨aq2⟩,⟨aq11⟩,⟨aq5⟩⟩
    case rest =>
     clear HC13
     try clear c1
     try clear p1
     try clear q1
     try clear hx1
     try clear c2
     try clear c2b0
     try clear c2b1
     try clear p2
     try clear c5
     try clear c6
     try clear c10
     try clear c12
     try clear c12b0
     try clear c14
     try clear c14b0
     try clear c15
     try clear c15b0
     try clear p16
     try clear q16
     try clear hx16
     try clear hcz11_0
     try clear hcz11_1
     try clear hcz11_2
     try clear hcz6_0
     try clear hcz6_1
     try clear hcz6_2
     try clear hcz7_0
     try clear hcz7_1
     try clear hcz7_2
     try clear hfz11_0
     try clear hfz11_1
     try clear hfz11_2
     try clear hfz6_0
     try clear hfz6_1
     try clear hfz6_2
     try clear hfz7_0
     try clear hfz7_1
     try clear hfz7_2
     try clear p16
     try clear p2
     try clear q16
     obtain ⟨kq,x31_12,rfl,HA,HJ12,HO_103002,BK101,BK102,HB⟩:=hcut
     cases kq with
     | zero=>exact absurd HA.out (by simp [spec_tyRead.j1])
     | succ kj12 =>
      have H:=HA.out
      clear HA
      simp only [spec_tyRead.j1] at H
      by_cases c17:x31_12 = true
      rotate_left
      ·replace c17:=Bool.eq_false_iff.mpr c17
       subst c17
       rw [if_neg Bool.false_ne_true] at H
       by_cases c31:x103001_1 > 0
       rotate_left
       ·rw [if_neg c31] at H
        have c31b0:=decide_eq_false c31
        clear c31
        by_cases c42:x5_1 = 0
        rotate_left
        ·rw [if_neg c42] at H
         have c42b0:=beq_eq_false_iff_ne.mpr c42
         have c42b1:=bne_iff_ne.mpr c42
         have H':=am H
         clear H
         have hnb46:=NB102_101.out
         have hnc46:=NB101_102.out
         obtain ⟨hcz47_0,hcz47_1,hcz47_2,hfz47_0,hfz47_1,hfz47_2⟩:=blk3_ BK102.out
         go_wp2
         go_roundg kj12
         case measure=>have:=HK1.out;have:=HJ12.out;omega
         case rel=>exact ⟨(0),(wrap64 (x6_1 + 1)),(x102000_1),(x102001_1),(x5_1),(wrap64 (x103001_1 + 1)),(x103002_1),(u103002),aq6,aq6,H',⟨by have:=HK1.out;have:=HJ12.out;omega⟩,⟨aq45⟩,⟨aq42⟩,⟨aq33⟩,⟨aq5⟩⟩
        rw [if_pos c42] at H
        have c42b0:=beq_iff_eq.mpr c42
        have c42b1:=bne_eq_false_iff_eq.mpr c42
        clear c42
        simp only [Option.some.injEq,Prod.mk.injEq] at H
        obtain ⟨rfl,rfl,rfl,rfl⟩:=H
        have hnb43:=NB102_101.out
        have hnc43:=NB101_102.out
        obtain ⟨hcz44_0,hcz44_1,hcz44_2,hfz44_0,hfz44_1,hfz44_2⟩:=blk3_ BK102.out
        obtain ⟨hcz45_0,hcz45_1,hcz45_2,hfz45_0,hfz45_1,hfz45_2⟩:=blk3_ BK101.out
        go_wp2
        refine bodyPost_ret (results_ct rfl _ _ gb101 75 #[.int .i64 0,.int .i64 0,.slice none 0 0] (0,0) _ rfl aq30 Tryz.underlying75 rfl k_r) rfl ?_
        exact ⟨_,aq9,aq19,aq5⟩
       rw [if_pos c31] at H
       have c31b0:=decide_eq_true c31
       clear c31
       by_cases c32:x5_1 = x103000_1
       rotate_left
       ·rw [if_neg c32] at H
        have c32b0:=beq_eq_false_iff_ne.mpr c32
        have c32b1:=bne_iff_ne.mpr c32
        simp only [Option.some.injEq,Prod.mk.injEq] at H
        obtain ⟨rfl,rfl,rfl,rfl⟩:=H
        have hnb39:=NB102_101.out
        have hnc39:=NB101_102.out
        obtain ⟨hcz40_0,hcz40_1,hcz40_2,hfz40_0,hfz40_1,hfz40_2⟩:=blk3_ BK102.out
        obtain ⟨hcz41_0,hcz41_1,hcz41_2,hfz41_0,hfz41_1,hfz41_2⟩:=blk3_ BK101.out
        go_wp2
        refine bodyPost_ret (results_ct rfl _ _ gb101 75 #[.int .i64 0,.int .i64 0,.slice none 0 0] (0,0) _ rfl aq30 Tryz.underlying75 rfl k_r) rfl ?_
        exact ⟨_,aq9,aq19,aq5⟩
       rw [if_pos c32] at H
       have c32b0:=beq_iff_eq.mpr c32
       have c32b1:=bne_eq_false_iff_eq.mpr c32
       clear c32
       by_cases c33:x5_1 = 0
       rotate_left
       ·rw [if_neg c33] at H
        have c33b0:=beq_eq_false_iff_ne.mpr c33
        have c33b1:=bne_iff_ne.mpr c33
        have H':=am H
        clear H
        have hnb37:=NB102_101.out
        have hnc37:=NB101_102.out
        obtain ⟨hcz38_0,hcz38_1,hcz38_2,hfz38_0,hfz38_1,hfz38_2⟩:=blk3_ BK102.out
        go_wp2
        go_roundg kj12
        case measure=>have:=HK1.out;have:=HJ12.out;omega
        case rel=>exact ⟨(0),(wrap64 (x6_1 + 1)),(x102000_1),(x102001_1),(x5_1),(wrap64 (x103001_1 + 1)),(x103002_1),(u103002),aq6,aq6,H',⟨by have:=HK1.out;have:=HJ12.out;omega⟩,⟨aq45⟩,⟨aq42⟩,⟨aq33⟩,⟨aq5⟩⟩
       rw [if_pos c33] at H
       have c33b0:=beq_iff_eq.mpr c33
       have c33b1:=bne_eq_false_iff_eq.mpr c33
       clear c33
       simp only [Option.some.injEq,Prod.mk.injEq] at H
       obtain ⟨rfl,rfl,rfl,rfl⟩:=H
       have hnb34:=NB102_101.out
       have hnc34:=NB101_102.out
       obtain ⟨hcz35_0,hcz35_1,hcz35_2,hfz35_0,hfz35_1,hfz35_2⟩:=blk3_ BK102.out
       obtain ⟨hcz36_0,hcz36_1,hcz36_2,hfz36_0,hfz36_1,hfz36_2⟩:=blk3_ BK101.out
       go_wp2
       refine bodyPost_ret (results_ct rfl _ _ gb101 75 #[.int .i64 0,.int .i64 0,.slice none 0 0] (0,0) _ rfl aq30 Tryz.underlying75 rfl k_r) rfl ?_
       exact ⟨_,aq9,aq19,aq5⟩
      subst c17
      rw [if_pos rfl] at H
      replace H:=gd H
      obtain ⟨c18,H⟩:=H
      have c18b0:=decide_eq_true c18
      clear c18
      replace H:=gd H
      obtain ⟨c19,H⟩:=H
      have c19b0:=decide_eq_true c19
      clear c19
      obtain ⟨t103,A21,H⟩:=bn H
      by_cases c22:t103 = true
      rotate_left
      ·replace c22:=Bool.eq_false_iff.mpr c22
       subst c22
       rw [if_neg Bool.false_ne_true] at H
       simp only [Option.some.injEq,Prod.mk.injEq] at H
       obtain ⟨rfl,rfl,rfl,rfl⟩:=H
       have p20:0 ≤ (x6_1:Int):=of_decide_eq_true aq4
       have q20:x6_1 < (a0.size:Int):=of_decide_eq_true aq4
       have hx20:=bt_at a0 x6_1
       replace p20:=eq_true p20
       replace q20:=eq_true q20
       go_wp2_with (first | ((with_reducible refine gate_callee (f:=97) rfl ?_);refine goesL_ (some 35) rfl rfl Tryz.func97 k_r rfl #[.int .u8 (bt a0 x6_1)] rfl aq8 ?_;(with_reducible refine (spec_tyIs.calls (bt a0 x6_1) false _ A21.out).mono ?_);rintro e w' ⟨rfl,⟨nd,rfl⟩⟩;refine ⟨_,rfl,?_⟩;(try (rw [drewN_self wc];generalize hq_:World.drewN wc _ = wc;have n0_:Aside0 (Kd.R (Kd.int .u8) 5 wc w.heap.size (fun _=>True) u103002 x103002_1):=⟨by rw [← hq_];exact aq16⟩;have n1_:Aside0 (wc.heap[gb101]? = some (.cells #[.int .i64 x102000_1,.int .i64 x102001_1,.slice none 0 0] 75 (0,0))):=⟨by rw [← hq_];exact aq2⟩;have n2_:Aside0 (wc.heap[gb102]? = some (.cells #[.int .i64 x103000_1,.int .i64 x103001_1,u103002] 75 (0,0))):=⟨by rw [← hq_];exact aq11⟩;have n3_:Aside0 (Below w.heap.size w wc):=⟨by rw [← hq_];exact aq5⟩;clear HO_103002 BK101 BK102 HB hq_;have HO_103002:=n0_;have BK101:=n1_;have BK102:=n2_;have HB:=n3_;clear n0_ n1_ n2_ n3_));have hnb29:=NB101_102.out;have hnc29:=NB102_101.out;obtain ⟨hcz30_0,hcz30_1,hcz30_2,hfz30_0,hfz30_1,hfz30_2⟩:=blk3_ BK101.out))
       refine bodyPost_ret (results_ct rfl _ _ gb101 75 #[.int .i64 0,.int .i64 0,.slice none 0 0] (0,0) _ rfl aq30 Tryz.underlying75 rfl k_r) rfl ?_
       exact ⟨_,aq9,aq19,aq5⟩
      subst c22
      rw [if_pos rfl] at H
      replace H:=gd H
      obtain ⟨c24,H⟩:=H
      have LMc24:=am c24
      clear c24
      obtain ⟨y104,hy_⟩:∃ y_:List Int,y_ = (x103002_1 ++ [bt a0 x6_1]):=⟨_,rfl⟩
      replace H:(spec_tyRead.l0 kj12 a0 (wrap64 (x5_1 + 1)) (wrap64 (x6_1 + 1)) x103000_1 x103001_1 y104) = some (r1,r2,r3,r4):=aq3
      have Ny104:=am hy_
      clear hy_
      have H':=am H
      clear H
      have p20:0 ≤ (x6_1:Int):=of_decide_eq_true aq4
      have q20:x6_1 < (a0.size:Int):=of_decide_eq_true aq4
      have hx20:=bt_at a0 x6_1
      replace p20:=eq_true p20
      replace q20:=eq_true q20
      try go_wp2_with (first | ((with_reducible refine gate_callee (f:=97) rfl ?_);refine goesL_ (some 35) rfl rfl Tryz.func97 k_r rfl #[.int .u8 (bt a0 x6_1)] rfl aq8 ?_;(with_reducible refine (spec_tyIs.calls (bt a0 x6_1) true _ A21.out).mono ?_);rintro e w' ⟨rfl,⟨nd,rfl⟩⟩;refine ⟨_,rfl,?_⟩;(try (rw [drewN_self wc];generalize hq_:World.drewN wc _ = wc;have n0_:Aside0 (Kd.R (Kd.int .u8) 5 wc w.heap.size (fun _=>True) u103002 x103002_1):=⟨by rw [← hq_];exact aq16⟩;have n1_:Aside0 (wc.heap[gb101]? = some (.cells #[.int .i64 x102000_1,.int .i64 x102001_1,.slice none 0 0] 75 (0,0))):=⟨by rw [← hq_];exact aq2⟩;have n2_:Aside0 (wc.heap[gb102]? = some (.cells #[.int .i64 x103000_1,.int .i64 x103001_1,u103002] 75 (0,0))):=⟨by rw [← hq_];exact aq11⟩;have n3_:Aside0 (Below w.heap.size w wc):=⟨by rw [← hq_];exact aq5⟩;clear HO_103002 BK101 BK102 HB hq_;have HO_103002:=n0_;have BK101:=n1_;have BK102:=n2_;have HB:=n3_;clear n0_ n1_ n2_ n3_))))
      replace HO_103002:=am (Kd.R_drew HO_103002.out)
      replace BK101:=am (blk_drew BK101.out)
      replace BK102:=am (blk_drew BK102.out)
      replace HB:=am (below_drew1 HB.out)
      have p23:0 ≤ (x6_1:Int):=of_decide_eq_true aq4
      have q23:x6_1 < (a0.size:Int):=of_decide_eq_true aq4
      have hx23:=bt_at a0 x6_1
      replace p23:=eq_true p23
      replace q23:=eq_true q23
      refine start_ (n:=9) (S:=fun w'=>w'.cell? ⟨gb102,0,none⟩ = some (.int .i64 x103000_1) ∧ w'.cell? ⟨gb102,1,none⟩ = some (.int .i64 x103001_1) ∧ w'.cell? ⟨gb102,2,none⟩ = some (u103002)) (ds:=[8]) (bm 9 0) k_r rfl rfl ⟨bk BK102 0,bk BK102 1,bk BK102 2⟩ (fun hHeld=>?_);refine with_tabW spec_tyRead.tab11 spec_tyRead.bits11 (fun HT_ HW_=>?_)
      generalize wc.drew = w25 at HO_103002 BK101 BK102 HB hHeld ⊢
      refine py (i:=0) (N:=some 38) (bm 9 1) ?_
      refine py (i:=2) (N:=some 40) (bm 9 5) ?_
      refine py (i:=3) (N:=some 41) (bm 9 13) ?_
      refine tk3 (i:=1) (N:=some 39) (bm 9 15) hHeld ?_
      refine tk3 (i:=4) (N:=some 42) (bm 9 31) hHeld ?_
      refine one_ (i:=5) (N:=some 43) (bm 9 63) rfl rfl (one_of HT_.out k_r) d_c (fun K hK=>?_)
      refine value_ (w1:=?_) (v:=?_) (by rfl) rfl ?_ ?_
      rotate_left 2
      ·go_simp
       constructor
       ·rfl
       ·rfl
      refine hK.out _ _ ⟨(blk_cell (blk_alloc BK102.out _) 0).trans rfl,(blk_cell (blk_alloc BK102.out _) 1).trans rfl,(blk_cell (blk_alloc BK102.out _) 2).trans rfl⟩ (fun hHeld=>?_)
      clear hK K
      refine nm (some 43) ?_
      refine one_ (i:=6) (N:=some 44) (bm 9 127) rfl rfl (one_of HT_.out k_r) d_c (fun K hK=>?_)
      refine Kd.R_append_step (Kd.int .u8) (w0:=w) w.heap.size (by rfl) (.tmp 39) (.tmp 43) 63 5 (.int .u8 0) 1 rfl Tryz.underlying63 info5 rfl d_c o_m u103002 x103002_1 (bt a0 x6_1) [.int .u8 (bt a0 x6_1)] (fun _=>True) (fun _=>False) rfl rfl ?aP (fun _ hk=>hk.elim) ?aF ?aO ?aB ?aS ?aL ?_
      (case aP=>exact rfl)
      (case aB=>exact aq5)
      (case aF=>exact aq50)
      (case aO=>exact aq16)
      (case aS=>exact (below_size aq5))
      (case aL=>have:=LMc24.out;omega)
      intro v105 w26 ho hb hg hat
      rw [← Ny104.out] at ho
      replace BK101:=am (bg BK101 hg (Kd.R_ne HO_103002.out BK101.out d_c))
      replace BK102:=am (bg BK102 hg (Kd.R_ne HO_103002.out BK102.out d_c))
      replace HB:=am (hb)
      have HO106:=am (ho)
      clear HO_103002 ho hb hg hat
      obtain ⟨Ao27,co27,eo27⟩:=Kd.R_slice HO106.out
      (first | subst eo27 | (injection eo27 with f1_ f2_ f3_;have f4_:=f1_.symm;have f5_:=f3_.symm;clear f1_ f2_ f3_;subst f4_;subst f5_))
      refine hK.out _ _ ⟨bk BK102 0,bk BK102 1,bk BK102 2⟩ (fun hHeld=>?_)
      clear hK K
      refine nm (some 44) ?_
      refine py (i:=7) (N:=some 45) (bm 9 255) ?_
      refine last_ (i:=8) (N:=none) (bm 9 511) rfl rfl (one_of HT_.out k_r) d_c (fun K hK=>?_)
      have hs28:w26.cell? ⟨gb102,2,none⟩ = some (u103002):=(blk_cell BK102.out 2).trans rfl
      have hfs28:=blk_frozen BK102.out 2
      have hns28_0:=NB101_102.out
      have hms28_0:=NB102_101.out
      refine skip_ (w1:=?_) (by rfl) rfl ?_ ?_
      rotate_left
      ·go_simp
       rfl
      refine hK.out _ _ ?_
      clear hK K
      refine done_ (done_of HT_.out k_r) ?_
      try go_wp2
      go_roundg kj12
      case measure=>have:=HK1.out;have:=HJ12.out;omega
      case rel=>exact ⟨(wrap64 (x5_1 + 1)),(wrap64 (x6_1 + 1)),(x102000_1),(x102001_1),(x103000_1),(x103001_1),(y104),(.slice Ao27 y104.length co27),aq6,aq6,H',⟨by have:=HK1.out;have:=HJ12.out;omega⟩,⟨by (with_reducible repeat (first | apply Kd.R_alloc | apply Kd.R_drewN | apply Kd.R_drew));exact Kd.R_mono (Kd.R_far (p:=⟨gb102,2,none⟩) (Kd.R_types HO106.out BK102.out d_c) (fun _ hk=>hk.2) (.slice Ao27 y104.length co27)) (fun _ hk=>trivial)⟩,⟨by (with_reducible repeat (first | refine blk_drewN ?_ _ | refine blk_drew ?_ | refine blk_alloc ?_ _));refine blk_far ?_ NB101_102.out _;(with_reducible repeat (first | refine blk_drewN ?_ _ | refine blk_drew ?_ | refine blk_alloc ?_ _));exact BK101.out⟩,⟨by (with_reducible repeat (first | refine blk_drewN ?_ _ | refine blk_drew ?_ | refine blk_alloc ?_ _));refine blk_put (cs:=#[.int .i64 x103000_1,.int .i64 x103001_1,u103002]) ?_ 2 _ rfl;(with_reducible repeat (first | refine blk_drewN ?_ _ | refine blk_drew ?_ | refine blk_alloc ?_ _));exact BK102.out⟩,⟨aq5⟩⟩
   rw [if_neg c12] at H
   have c12b0:=decide_eq_false c12
   clear c12
   have HC48:=am H
   clear H
   go_upto_region 18 with (fail)
   go_cut [81] (fun v81 wc=>∃ (kq:Nat) (x81_47:Bool),v81 = .bool x81_47 ∧ Aside0 (spec_tyRead.j2 kq x81_47 x103000_1 x103001_1 x103002_1 = some (r1,r2,r3,r4)) ∧ Aside0 (kq ≤ k1) ∧ Aside0 (Kd.R (Kd.int .u8) 5 wc w.heap.size (fun _=>True) u103002 x103002_1) ∧ Aside0 (wc.heap[gb101]? = some (.cells #[.int .i64 x102000_1,.int .i64 x102001_1,(.slice none 0 0)] 75 (0,0))) ∧ Aside0 (wc.heap[gb102]? = some (.cells #[.int .i64 x103000_1,.int .i64 x103001_1,u103002] 75 (0,0))) ∧ Aside0 (Below w.heap.size w wc))
   case first =>
    have H:=HC48.out
    clear HC48
    by_cases c49:x103000_1 > 7
    ·rw [if_pos c49] at H
     have c49b0:=decide_eq_true c49
     clear c49
     (first | rw [c49b0] | (simp only [i64_w,i32_w];rw [c49b0]) | skip)
     have H':=am H
     clear H
     have hnb50:=NB102_101.out
     have hnc50:=NB101_102.out
     obtain ⟨hcz51_0,hcz51_1,hcz51_2,hfz51_0,hfz51_1,hfz51_2⟩:=blk3_ BK102.out
     go_wp2
     go_meet
     case rel=>exact ⟨_,(true),aq6,H',⟨aq48⟩,⟨aq16⟩,⟨aq2⟩,⟨aq11⟩,⟨aq5⟩⟩
    rw [if_neg c49] at H
    have c49b0:=decide_eq_false c49
    clear c49
    (first | rw [c49b0] | (simp only [i64_w,i32_w];rw [c49b0]) | skip)
    by_cases c52:x103001_1 > 7
    ·rw [if_pos c52] at H
     have c52b0:=decide_eq_true c52
     clear c52
     have H':=am H
     clear H
     have hnb53:=NB102_101.out
     have hnc53:=NB101_102.out
     obtain ⟨hcz54_0,hcz54_1,hcz54_2,hfz54_0,hfz54_1,hfz54_2⟩:=blk3_ BK102.out
     go_wp2
     go_meet
     case rel=>exact ⟨_,(true),aq6,H',⟨aq48⟩,⟨aq16⟩,⟨aq2⟩,⟨aq11⟩,⟨aq5⟩⟩
    rw [if_neg c52] at H
    have c52b0:=decide_eq_false c52
    clear c52
    have H':=am H
    clear H
    have hnb55:=NB102_101.out
    have hnc55:=NB101_102.out
    obtain ⟨hcz56_0,hcz56_1,hcz56_2,hfz56_0,hfz56_1,hfz56_2⟩:=blk3_ BK102.out
    obtain ⟨Ao57,co57,eo57⟩:=Kd.R_slice HO_103002.out
    subst eo57
    go_wp2
    go_meet
    case rel=>exact ⟨_,(decide ((x103002_1.length:Int) > 36)),aq6,H',⟨aq48⟩,⟨aq16⟩,⟨aq2⟩,⟨aq11⟩,⟨aq5⟩⟩
   case rest =>
    clear HC48
    try clear c1
    try clear p1
    try clear q1
    try clear hx1
    try clear c2
    try clear c2b0
    try clear c2b1
    try clear p2
    try clear q2
    try clear hx2
    try clear c3
    try clear c4
    try clear c5
    try clear c6
    try clear p6
    try clear c9
    try clear c10
    try clear c12
    try clear c12b0
    try clear c14
    try clear c14b0
    try clear c15
    try clear c15b0
    try clear p16
    try clear q16
    try clear hx16
    try clear c17
    try clear c18
    try clear c18b0
    try clear c19
    try clear c19b0
    try clear p20
    try clear q20
    try clear hx20
    try clear c22
    try clear p23
    try clear q23
    try clear hx23
    try clear c24
    try clear c29
    try clear c31
    try clear c31b0
    try clear c32
    try clear c32b0
    try clear c32b1
    try clear c33
    try clear c33b0
    try clear c33b1
    try clear c34
    try clear c37
    try clear c39
    try clear c42
    try clear c42b0
    try clear c42b1
    try clear c43
    try clear c46
    try clear c49
    try clear c49b0
    try clear c50
    try clear c52
    try clear c52b0
    try clear c53
    try clear c55
    try clear hcz11_0
    try clear hcz11_1
    try clear hcz11_2
    try clear hcz30_0
    try clear hcz30_1
    try clear hcz30_2
    try clear hcz35_0
    try clear hcz35_1
    try clear hcz35_2
    try clear hcz36_0
    try clear hcz36_1
    try clear hcz36_2
    try clear hcz38_0
    try clear hcz38_1
    try clear hcz38_2
    try clear hcz40_0
    try clear hcz40_1
    try clear hcz40_2
    try clear hcz41_0
    try clear hcz41_1
    try clear hcz41_2
    try clear hcz44_0
    try clear hcz44_1
    try clear hcz44_2
    try clear hcz45_0
    try clear hcz45_1
    try clear hcz45_2
    try clear hcz47_0
    try clear hcz47_1
    try clear hcz47_2
    try clear hcz51_0
    try clear hcz51_1
    try clear hcz51_2
    try clear hcz54_0
    try clear hcz54_1
    try clear hcz54_2
    try clear hcz56_0
    try clear hcz56_1
    try clear hcz56_2
    try clear hcz6_0
    try clear hcz6_1
    try clear hcz6_2
    try clear hcz7_0
    try clear hcz7_1
    try clear hcz7_2
    try clear hfz11_0
    try clear hfz11_1
    try clear hfz11_2
    try clear hfz30_0
    try clear hfz30_1
    try clear hfz30_2
    try clear hfz35_0
    try clear hfz35_1
    try clear hfz35_2
    try clear hfz36_0
    try clear hfz36_1
    try clear hfz36_2
    try clear hfz38_0
    try clear hfz38_1
    try clear hfz38_2
    try clear hfz40_0
    try clear hfz40_1
    try clear hfz40_2
    try clear hfz41_0
    try clear hfz41_1
    try clear hfz41_2
    try clear hfz44_0
    try clear hfz44_1
    try clear hfz44_2
    try clear hfz45_0
    try clear hfz45_1
    try clear hfz45_2
    try clear hfz47_0
    try clear hfz47_1
    try clear hfz47_2
    try clear hfz51_0
    try clear hfz51_1
    try clear hfz51_2
    try clear hfz54_0
    try clear hfz54_1
    try clear hfz54_2
    try clear hfz56_0
    try clear hfz56_1
    try clear hfz56_2
    try clear hfz6_0
    try clear hfz6_1
    try clear hfz6_2
    try clear hfz7_0
    try clear hfz7_1
    try clear hfz7_2
    try clear p1
    try clear p16
    try clear p2
    try clear p20
    try clear p23
    try clear q1
    try clear q16
    try clear q20
    try clear q23
    obtain ⟨kq,x81_47,rfl,HA,HJ47,HO_103002,BK101,BK102,HB⟩:=hcut
    cases kq with
    | zero=>exact absurd HA.out (by simp [spec_tyRead.j2])
    | succ kj47 =>
     have H:=HA.out
     clear HA
     simp only [spec_tyRead.j2] at H
     by_cases c58:x81_47 = true
     ·subst c58
      rw [if_pos rfl] at H
      simp only [Option.some.injEq,Prod.mk.injEq] at H
      obtain ⟨rfl,rfl,rfl,rfl⟩:=H
      have hnb59:=NB101_102.out
      have hnc59:=NB102_101.out
      obtain ⟨hcz60_0,hcz60_1,hcz60_2,hfz60_0,hfz60_1,hfz60_2⟩:=blk3_ BK101.out
      go_wp2
      refine bodyPost_ret (results_ct rfl _ _ gb101 75 #[.int .i64 0,.int .i64 0,.slice none 0 0] (0,0) _ rfl aq30 Tryz.underlying75 rfl k_r) rfl ?_
      exact ⟨_,aq9,aq19,aq5⟩
     replace c58:=Bool.eq_false_iff.mpr c58
     subst c58
     rw [if_neg Bool.false_ne_true] at H
     have H':=am H
     clear H
     have hnb61:=NB102_101.out
     have hnc61:=NB101_102.out
     obtain ⟨hcz62_0,hcz62_1,hcz62_2,hfz62_0,hfz62_1,hfz62_2⟩:=blk3_ BK102.out
     obtain ⟨Ao63,co63,eo63⟩:=Kd.R_slice HO_103002.out
     subst eo63
     go_wp2
     go_loopg [86] kj47 (fun kq v86 w'=>∃ (x86_3:Int) (x102000_3:Int) (x102001_3:Int),v86 = .int .i64 x86_3 ∧ Aside0 (spec_tyRead.l1 kq x103002_1 (x103002_1.length:Int) x86_3 x103000_1 x103001_1 x103002_1 = some (r1,r2,r3,r4)) ∧ Aside0 (kq ≤ kj47) ∧ Aside0 (Kd.R (Kd.int .u8) 5 w' w.heap.size (fun _=>True) (.slice Ao63 x103002_1.length co63) x103002_1) ∧ Aside0 (Kd.R (Kd.int .u8) 5 w' w.heap.size (fun _=>True) (.slice Ao63 x103002_1.length co63) x103002_1) ∧ Aside0 (w'.heap[gb101]? = some (.cells #[.int .i64 x102000_3,.int .i64 x102001_3,(.slice none 0 0)] 75 (0,0))) ∧ Aside0 (w'.heap[gb102]? = some (.cells #[.int .i64 x103000_1,.int .i64 x103001_1,(.slice Ao63 x103002_1.length co63)] 75 (0,0))) ∧ Aside0 (Below w.heap.size w w'))
     case atStart=>exact ⟨(0),(x102000_1),(x102001_1),aq6,H',⟨Nat.le_refl _⟩,⟨aq16⟩,⟨aq16⟩,⟨aq2⟩,⟨aq11⟩,⟨aq5⟩⟩
     case round =>
      clear H'
      try clear c1
      try clear p1
      try clear q1
      try clear hx1
      try clear c2
      try clear c2b0
      try clear c2b1
      try clear p2
      try clear q2
      try clear hx2
      try clear c3
      try clear c4
      try clear c5
      try clear c6
      try clear p6
      try clear c9
      try clear c10
      try clear c12
      try clear c12b0
      try clear c14
      try clear c14b0
      try clear c15
      try clear c15b0
      try clear p16
      try clear q16
      try clear hx16
      try clear c17
      try clear c18
      try clear c18b0
      try clear c19
      try clear c19b0
      try clear p20
      try clear q20
      try clear hx20
      try clear c22
      try clear p23
      try clear q23
      try clear hx23
      try clear c24
      try clear c29
      try clear c31
      try clear c31b0
      try clear c32
      try clear c32b0
      try clear c32b1
      try clear c33
      try clear c33b0
      try clear c33b1
      try clear c34
      try clear c37
      try clear c39
      try clear c42
      try clear c42b0
      try clear c42b1
      try clear c43
      try clear c46
      try clear c49
      try clear c49b0
      try clear c50
      try clear c52
      try clear c52b0
      try clear c53
      try clear c55
      try clear c58
      try clear c59
      try clear c61
      try clear hcz11_0
      try clear hcz11_1
      try clear hcz11_2
      try clear hcz30_0
      try clear hcz30_1
      try clear hcz30_2
      try clear hcz35_0
      try clear hcz35_1
      try clear hcz35_2
      try clear hcz36_0
      try clear hcz36_1
      try clear hcz36_2
      try clear hcz38_0
      try clear hcz38_1
      try clear hcz38_2
      try clear hcz40_0
      try clear hcz40_1
      try clear hcz40_2
      try clear hcz41_0
      try clear hcz41_1
      try clear hcz41_2
      try clear hcz44_0
      try clear hcz44_1
      try clear hcz44_2
      try clear hcz45_0
      try clear hcz45_1
      try clear hcz45_2
      try clear hcz47_0
      try clear hcz47_1
      try clear hcz47_2
      try clear hcz51_0
      try clear hcz51_1
      try clear hcz51_2
      try clear hcz54_0
      try clear hcz54_1
      try clear hcz54_2
      try clear hcz56_0
      try clear hcz56_1
      try clear hcz56_2
      try clear hcz60_0
      try clear hcz60_1
      try clear hcz60_2
      try clear hcz62_0
      try clear hcz62_1
      try clear hcz62_2
      try clear hcz6_0
      try clear hcz6_1
      try clear hcz6_2
      try clear hcz7_0
      try clear hcz7_1
      try clear hcz7_2
      try clear hfz11_0
      try clear hfz11_1
      try clear hfz11_2
      try clear hfz30_0
      try clear hfz30_1
      try clear hfz30_2
      try clear hfz35_0
      try clear hfz35_1
      try clear hfz35_2
      try clear hfz36_0
      try clear hfz36_1
      try clear hfz36_2
      try clear hfz38_0
      try clear hfz38_1
      try clear hfz38_2
      try clear hfz40_0
      try clear hfz40_1
      try clear hfz40_2
      try clear hfz41_0
      try clear hfz41_1
      try clear hfz41_2
      try clear hfz44_0
      try clear hfz44_1
      try clear hfz44_2
      try clear hfz45_0
      try clear hfz45_1
      try clear hfz45_2
      try clear hfz47_0
      try clear hfz47_1
      try clear hfz47_2
      try clear hfz51_0
      try clear hfz51_1
      try clear hfz51_2
      try clear hfz54_0
      try clear hfz54_1
      try clear hfz54_2
      try clear hfz56_0
      try clear hfz56_1
      try clear hfz56_2
      try clear hfz60_0
      try clear hfz60_1
      try clear hfz60_2
      try clear hfz62_0
      try clear hfz62_1
      try clear hfz62_2
      try clear hfz6_0
      try clear hfz6_1
      try clear hfz6_2
      try clear hfz7_0
      try clear hfz7_1
      try clear hfz7_2
      try clear p1
      try clear p16
      try clear p2
      try clear p20
      try clear p23
      try clear p6
      try clear q1
      try clear q16
      try clear q2
      try clear q20
      try clear q23
      obtain ⟨x86_3,x102000_3,x102001_3,rfl,HA,HK3,HO_84,HO_103002,BK101,BK102,HB⟩:=hrel
      cases gk with
      | zero=>exact absurd HA.out (by simp [spec_tyRead.l1])
      | succ k3 =>
       have H:=HA.out
       clear HA
       simp only [spec_tyRead.l1] at H
       by_cases c64:x86_3 < (x103002_1.length:Int)
       rotate_left
       ·rw [if_neg c64] at H
        have c64b0:=decide_eq_false c64
        clear c64
        simp only [Option.some.injEq,Prod.mk.injEq] at H
        obtain ⟨rfl,rfl,rfl,rfl⟩:=H
        have hnb80:=NB102_101.out
        have hnc80:=NB101_102.out
        obtain ⟨hcz81_0,hcz81_1,hcz81_2,hfz81_0,hfz81_1,hfz81_2⟩:=blk3_ BK102.out
        obtain ⟨hcz82_0,hcz82_1,hcz82_2,hfz82_0,hfz82_1,hfz82_2⟩:=blk3_ BK101.out
        go_wp2
        refine bodyPost_ret (results_ct rfl _ _ gb101 75 #[.int .i64 x103000_1,.int .i64 x103001_1,.slice Ao63 x103002_1.length co63] (0,0) _ rfl (by (with_reducible repeat (first | refine blk_drewN ?_ _ | refine blk_drew ?_ | refine blk_alloc ?_ _));refine blk_put (cs:=#[.int .i64 x103000_1,.int .i64 x103001_1,.slice none 0 0]) ?_ 2 _ rfl;(with_reducible repeat (first | refine blk_drewN ?_ _ | refine blk_drew ?_ | refine blk_alloc ?_ _));refine blk_put (cs:=#[.int .i64 x103000_1,.int .i64 x102001_3,.slice none 0 0]) ?_ 1 _ rfl;(with_reducible repeat (first | refine blk_drewN ?_ _ | refine blk_drew ?_ | refine blk_alloc ?_ _));refine blk_put (cs:=#[.int .i64 x102000_3,.int .i64 x102001_3,.slice none 0 0]) ?_ 0 _ rfl;(with_reducible repeat (first | refine blk_drewN ?_ _ | refine blk_drew ?_ | refine blk_alloc ?_ _));exact BK101.out) Tryz.underlying75 rfl k_r) rfl ?_
        exact ⟨_,aq9,by (with_reducible repeat (first | apply Kd.R_alloc | apply Kd.R_drewN | apply Kd.R_drew));exact Kd.R_mono (Kd.R_far (p:=⟨gb101,2,none⟩) (Kd.R_far (p:=⟨gb101,1,none⟩) (Kd.R_far (p:=⟨gb101,0,none⟩) (Kd.R_types HO_103002.out BK101.out d_c) (fun _ hk=>hk.2) (.int .i64 x103000_1)) (fun _ hk=>hk.2) (.int .i64 x103001_1)) (fun _ hk=>hk.2) (.slice Ao63 x103002_1.length co63)) (fun _ hk=>trivial),aq5⟩
       rw [if_pos c64] at H
       have c64b0:=decide_eq_true c64
       clear c64
       replace H:=gd H
       obtain ⟨c65,H⟩:=H
       have c65b0:=decide_eq_true c65
       clear c65
       replace H:=gd H
       obtain ⟨c66,H⟩:=H
       have c66b0:=decide_eq_true c66
       clear c66
       have c67b0:=eq_true (of_decide_eq_true aq4:0 ≤ x86_3)
       replace H:=gd H
       obtain ⟨c68,H⟩:=H
       have c68b0:=eq_true c68
       have c68b1:=decide_eq_true c68
       clear c68
       obtain ⟨y108,hy_⟩:∃ y_:List Int,y_ = (x103002_1.take (x86_3:Int).toNat):=⟨_,rfl⟩
       replace H:(spec_tyRead.l2 k3 (rd x103002_1 x86_3) x103002_1 (x103002_1.length:Int) x86_3 y108 (y108.length:Int) 0 x103000_1 x103001_1 x103002_1) = some (r1,r2,r3,r4):=aq3
       have Ny108:=am hy_
       clear hy_
       have H':=am H
       clear H
       have p107:0 ≤ (x86_3:Int):=of_decide_eq_true aq4
       have q107:x86_3 < (x103002_1.length:Int):=of_decide_eq_true aq4
       obtain ⟨ad107,e107,hx107_0⟩:=Kd.at_int (Kd.R_reads' HO_84.out).2.2 x86_3 p107 q107
       cases e107
       replace p107:=eq_true p107
       replace q107:=eq_true q107
       have hnb69:=NB102_101.out
       have hnc69:=NB101_102.out
       obtain ⟨hcz70_0,hcz70_1,hcz70_2,hfz70_0,hfz70_1,hfz70_2⟩:=blk3_ BK102.out
       have q71:(x86_3:Int) ≤ ((x103002_1.length:Int):Int):=of_decide_eq_true aq4
       obtain ⟨i071,hi071,_,hsz71,_⟩:=info_parts info5
       have hroom71:x103002_1.length ≤ co63:=(Kd.R_reads' HO_103002.out).2.1
       have hC71:Kd.C (Kd.int .u8) _ (some ad107) x103002_1.length x103002_1:=(Kd.R_reads' HO_103002.out).2.2
       have hcut71:=cut_to (P:=Tryz.prog) 63 5 .i64 Tryz.underlying63 hi071 (some ad107) x103002_1.length co63 x86_3 (of_decide_eq_true aq4) q71 hroom71
       have hr71:=Kd.C_take (m:=(x86_3:Int).toNat) hC71 o_m
       have hy71:y108.length = (x86_3:Int).toNat:=(by rw [Ny108.out,List.length_take];omega)
       rw [← Ny108.out] at hr71
       rw [← hy71] at hcut71
       have HR111:=am hr71
       have HC111:=am (show y108.length ≤ co63 from by omega)
       clear hr71 hC71 hroom71 hi071 hsz71
       have KY71:=am hy71
       clear hy71
       have KL71:=am (show (x86_3:Int).toNat ≤ x103002_1.length from by omega)
       replace q71:=eq_true q71
       go_wp2
       go_loopg [96] k3 (fun kq v96 w'=>∃ (x96_4:Int) (x102000_4:Int) (x102001_4:Int),v96 = .int .i64 x96_4 ∧ Aside0 (spec_tyRead.l2 kq (rd x103002_1 x86_3) x103002_1 (x103002_1.length:Int) x86_3 y108 (y108.length:Int) x96_4 x103000_1 x103001_1 x103002_1 = some (r1,r2,r3,r4)) ∧ Aside0 (kq ≤ k3) ∧ Aside0 (Kd.R (Kd.int .u8) 5 w' w.heap.size (fun _=>True) (.slice (some ad107) x103002_1.length co63) x103002_1) ∧ Aside0 (Kd.R (Kd.int .u8) 5 w' w.heap.size (fun _=>True) (.slice (some ad107) x103002_1.length co63) x103002_1) ∧ Aside0 (w'.heap[gb101]? = some (.cells #[.int .i64 x102000_4,.int .i64 x102001_4,(.slice none 0 0)] 75 (0,0))) ∧ Aside0 (w'.heap[gb102]? = some (.cells #[.int .i64 x103000_1,.int .i64 x103001_1,(.slice (some ad107) x103002_1.length co63)] 75 (0,0))) ∧ Aside0 (Kd.C (Kd.int .u8) w' (some ad107) y108.length y108) ∧ Aside0 (Below w.heap.size w w'))
       case atStart=>exact ⟨(0),(x102000_3),(x102001_3),aq6,H',⟨Nat.le_refl _⟩,⟨aq39⟩,⟨aq16⟩,⟨aq2⟩,⟨aq11⟩,⟨aq28⟩,⟨aq5⟩⟩
       case round =>
        clear H'
        try clear c1
        try clear p1
        try clear q1
        try clear hx1
        try clear c2
        try clear c2b0
        try clear c2b1
        try clear p2
        try clear q2
        try clear hx2
        try clear c3
        try clear c4
        try clear c5
        try clear c6
        try clear p6
        try clear q7
        try clear c9
        try clear c10
        try clear p10
        try clear q10
        try clear hx10
        try clear c12
        try clear c12b0
        try clear c14
        try clear c14b0
        try clear c15
        try clear c15b0
        try clear p16
        try clear q16
        try clear hx16
        try clear c17
        try clear c18
        try clear c18b0
        try clear c19
        try clear c19b0
        try clear p20
        try clear q20
        try clear hx20
        try clear c22
        try clear p23
        try clear q23
        try clear hx23
        try clear c24
        try clear c29
        try clear c31
        try clear c31b0
        try clear c32
        try clear c32b0
        try clear c32b1
        try clear c33
        try clear c33b0
        try clear c33b1
        try clear c34
        try clear c37
        try clear c39
        try clear c42
        try clear c42b0
        try clear c42b1
        try clear c43
        try clear c46
        try clear c49
        try clear c49b0
        try clear c50
        try clear c52
        try clear c52b0
        try clear c53
        try clear c55
        try clear c58
        try clear c59
        try clear c61
        try clear c64
        try clear c64b0
        try clear p64
        try clear c65
        try clear c65b0
        try clear c66
        try clear c66b0
        try clear c67
        try clear c67b0
        try clear c68
        try clear c68b0
        try clear c68b1
        try clear c69
        try clear q71
        try clear hcz11_0
        try clear hcz11_1
        try clear hcz11_2
        try clear hcz30_0
        try clear hcz30_1
        try clear hcz30_2
        try clear hcz35_0
        try clear hcz35_1
        try clear hcz35_2
        try clear hcz36_0
        try clear hcz36_1
        try clear hcz36_2
        try clear hcz38_0
        try clear hcz38_1
        try clear hcz38_2
        try clear hcz40_0
        try clear hcz40_1
        try clear hcz40_2
        try clear hcz41_0
        try clear hcz41_1
        try clear hcz41_2
        try clear hcz44_0
        try clear hcz44_1
        try clear hcz44_2
        try clear hcz45_0
        try clear hcz45_1
        try clear hcz45_2
        try clear hcz47_0
        try clear hcz47_1
        try clear hcz47_2
        try clear hcz51_0
        try clear hcz51_1
        try clear hcz51_2
        try clear hcz54_0
        try clear hcz54_1
        try clear hcz54_2
        try clear hcz56_0
        try clear hcz56_1
        try clear hcz56_2
        try clear hcz60_0
        try clear hcz60_1
        try clear hcz60_2
        try clear hcz62_0
        try clear hcz62_1
        try clear hcz62_2
        try clear hcz6_0
        try clear hcz6_1
        try clear hcz6_2
        try clear hcz70_0
        try clear hcz70_1
        try clear hcz70_2
        try clear hcz7_0
        try clear hcz7_1
        try clear hcz7_2
        try clear hfz11_0
        try clear hfz11_1
        try clear hfz11_2
        try clear hfz30_0
        try clear hfz30_1
        try clear hfz30_2
        try clear hfz35_0
        try clear hfz35_1
        try clear hfz35_2
        try clear hfz36_0
        try clear hfz36_1
        try clear hfz36_2
        try clear hfz38_0
        try clear hfz38_1
        try clear hfz38_2
        try clear hfz40_0
        try clear hfz40_1
        try clear hfz40_2
        try clear hfz41_0
        try clear hfz41_1
        try clear hfz41_2
        try clear hfz44_0
        try clear hfz44_1
        try clear hfz44_2
        try clear hfz45_0
        try clear hfz45_1
        try clear hfz45_2
        try clear hfz47_0
        try clear hfz47_1
        try clear hfz47_2
        try clear hfz51_0
        try clear hfz51_1
        try clear hfz51_2
        try clear hfz54_0
        try clear hfz54_1
        try clear hfz54_2
        try clear hfz56_0
        try clear hfz56_1
        try clear hfz56_2
        try clear hfz60_0
        try clear hfz60_1
        try clear hfz60_2
        try clear hfz62_0
        try clear hfz62_1
        try clear hfz62_2
        try clear hfz6_0
        try clear hfz6_1
        try clear hfz6_2
        try clear hfz70_0
        try clear hfz70_1
        try clear hfz70_2
        try clear hfz7_0
        try clear hfz7_1
        try clear hfz7_2
        try clear hx107_0
        try clear p1
        try clear p107
        try clear p16
        try clear p2
        try clear p20
        try clear p23
        try clear p6
        try clear q1
        try clear q107
        try clear q16
        try clear q2
        try clear q20
        try clear q23
        try clear q71
        obtain ⟨x96_4,x102000_4,x102001_4,rfl,HA,HK4,HO_84,HO_103002,BK101,BK102,HR111,HB⟩:=hrel
        cases gk with
        | zero=>exact absurd HA.out (by simp [spec_tyRead.l2])
        | succ k4 =>
         have H:=HA.out
         clear HA
         simp only [spec_tyRead.l2] at H
         by_cases c72:x96_4 < (y108.length:Int)
         rotate_left
         ·rw [if_neg c72] at H
          have c72b0:=decide_eq_false c72
          clear c72
          have H':=am H
          clear H
          go_wp2
          go_roundg k4
          case measure=>have:=HK1.out;have:=HJ47.out;have:=HK3.out;have:=HK4.out;omega
          case rel=>exact ⟨(wrap64 (x86_3 + 1)),(x102000_4),(x102001_4),aq6,H',⟨aq55⟩,⟨aq39⟩,⟨aq16⟩,⟨aq2⟩,⟨aq11⟩,⟨aq5⟩⟩
         rw [if_pos c72] at H
         have c72b0:=decide_eq_true c72
         clear c72
         replace H:=gd H
         obtain ⟨c73,H⟩:=H
         have c73b0:=decide_eq_true c73
         clear c73
         replace H:=gd H
         obtain ⟨c74,H⟩:=H
         have c74b0:=decide_eq_true c74
         clear c74
         by_cases c75:(rd x103002_1 x86_3) = (rd y108 x96_4)
         rotate_left
         ·rw [if_neg c75] at H
          have c75b0:=beq_eq_false_iff_ne.mpr c75
          have c75b1:=bne_iff_ne.mpr c75
          have H':=am H
          clear H
          have p112:0 ≤ (x96_4:Int):=of_decide_eq_true aq4
          have q112:x96_4 < (y108.length:Int):=of_decide_eq_true aq4
          obtain ⟨ad112,e112,hx112_0⟩:=Kd.at_int HR111.out x96_4 p112 q112
          obtain rfl:ad107 = ad112:=(by injection e112)
          try replace hx112_0:=(HB.out.cell (World.block_lt_of_cell? w _ hx112_0)).trans hx112_0
          replace p112:=eq_true p112
          replace q112:=eq_true q112
          go_wp2
          go_roundg k4
          case measure=>have:=HK1.out;have:=HJ47.out;have:=HK3.out;have:=HK4.out;omega
          case rel=>exact ⟨(wrap64 (x96_4 + 1)),(x102000_4),(x102001_4),aq6,H',⟨aq55⟩,⟨aq39⟩,⟨aq16⟩,⟨aq2⟩,⟨aq11⟩,⟨aq28⟩,⟨aq5⟩⟩
         rw [if_pos c75] at H
         have c75b0:=beq_iff_eq.mpr c75
         have c75b1:=bne_eq_false_iff_eq.mpr c75
         clear c75
         by_cases c76:(rd x103002_1 x86_3) ≥ 97
         rotate_left
         ·rw [if_neg c76] at H
          have c76b0:=decide_eq_false c76
          clear c76
          have H':=am H
          clear H
          have p112:0 ≤ (x96_4:Int):=of_decide_eq_true aq4
          have q112:x96_4 < (y108.length:Int):=of_decide_eq_true aq4
          obtain ⟨ad112,e112,hx112_0⟩:=Kd.at_int HR111.out x96_4 p112 q112
          obtain rfl:ad107 = ad112:=(by injection e112)
          try replace hx112_0:=(HB.out.cell (World.block_lt_of_cell? w _ hx112_0)).trans hx112_0
          replace p112:=eq_true p112
          replace q112:=eq_true q112
          go_wp2
          go_roundg k4
          case measure=>have:=HK1.out;have:=HJ47.out;have:=HK3.out;have:=HK4.out;omega
          case rel=>exact ⟨(wrap64 (x96_4 + 1)),(x102000_4),(x102001_4),aq6,H',⟨aq55⟩,⟨aq39⟩,⟨aq16⟩,⟨aq2⟩,⟨aq11⟩,⟨aq28⟩,⟨aq5⟩⟩
         rw [if_pos c76] at H
         have c76b0:=decide_eq_true c76
         clear c76
         by_cases c77:(rd x103002_1 x86_3) ≤ 102
         rotate_left
         ·rw [if_neg c77] at H
          have c77b0:=decide_eq_false c77
          clear c77
          have H':=am H
          clear H
          have p112:0 ≤ (x96_4:Int):=of_decide_eq_true aq4
          have q112:x96_4 < (y108.length:Int):=of_decide_eq_true aq4
          obtain ⟨ad112,e112,hx112_0⟩:=Kd.at_int HR111.out x96_4 p112 q112
          obtain rfl:ad107 = ad112:=(by injection e112)
          try replace hx112_0:=(HB.out.cell (World.block_lt_of_cell? w _ hx112_0)).trans hx112_0
          replace p112:=eq_true p112
          replace q112:=eq_true q112
          go_wp2
          go_roundg k4
          case measure=>have:=HK1.out;have:=HJ47.out;have:=HK3.out;have:=HK4.out;omega
          case rel=>exact ⟨(wrap64 (x96_4 + 1)),(x102000_4),(x102001_4),aq6,H',⟨aq55⟩,⟨aq39⟩,⟨aq16⟩,⟨aq2⟩,⟨aq11⟩,⟨aq28⟩,⟨aq5⟩⟩
         rw [if_pos c77] at H
         have c77b0:=decide_eq_true c77
         clear c77
         simp only [Option.some.injEq,Prod.mk.injEq] at H
         obtain ⟨rfl,rfl,rfl,rfl⟩:=H
         have p112:0 ≤ (x96_4:Int):=of_decide_eq_true aq4
         have q112:x96_4 < (y108.length:Int):=of_decide_eq_true aq4
         obtain ⟨ad112,e112,hx112_0⟩:=Kd.at_int HR111.out x96_4 p112 q112
         obtain rfl:ad107 = ad112:=(by injection e112)
         try replace hx112_0:=(HB.out.cell (World.block_lt_of_cell? w _ hx112_0)).trans hx112_0
         replace p112:=eq_true p112
         replace q112:=eq_true q112
         have hnb78:=NB101_102.out
         have hnc78:=NB102_101.out
         obtain ⟨hcz79_0,hcz79_1,hcz79_2,hfz79_0,hfz79_1,hfz79_2⟩:=blk3_ BK101.out
         go_wp2
         refine bodyPost_ret (results_ct rfl _ _ gb101 75 #[.int .i64 0,.int .i64 0,.slice none 0 0] (0,0) _ rfl (by (with_reducible repeat (first | refine blk_drewN ?_ _ | refine blk_drew ?_ | refine blk_alloc ?_ _));refine blk_put (cs:=#[.int .i64 0,.int .i64 0,.slice none 0 0]) ?_ 2 _ rfl;(with_reducible repeat (first | refine blk_drewN ?_ _ | refine blk_drew ?_ | refine blk_alloc ?_ _));refine blk_put (cs:=#[.int .i64 0,.int .i64 x102001_4,.slice none 0 0]) ?_ 1 _ rfl;(with_reducible repeat (first | refine blk_drewN ?_ _ | refine blk_drew ?_ | refine blk_alloc ?_ _));refine blk_put (cs:=#[.int .i64 x102000_4,.int .i64 x102001_4,.slice none 0 0]) ?_ 0 _ rfl;(with_reducible repeat (first | refine blk_drewN ?_ _ | refine blk_drew ?_ | refine blk_alloc ?_ _));exact BK101.out) Tryz.underlying75 rfl k_r) rfl ?_
         exact ⟨_,aq9,aq19,aq5⟩
def impl_within.f (a0:Int) (a1:Int) (a2:Int):Option (Bool):=if a1 ≤ a0 then (some (decide (a0 ≤ a2))) else (some false)
theorem impl_within.calls (a0:Int) (a1:Int) (a2:Int) (r:Bool) (w:World) (h:impl_within.f a0 a1 a2 = some r) :
  Calls Tryz.prog 70 #[.int .i64 a0,.int .i64 a1,.int .i64 a2] w fun e w'=>e = .returned (.bool r) ∧ Drawn0 w w':=by
 have H:(if a1 ≤ a0 then (some (decide (a0 ≤ a2))) else (some false)) = some r:=h
 clear h
 by_cases c4:a1 ≤ a0
 rotate_left
 ·rw [if_neg c4] at H
  have c4b0:=decide_eq_false c4
  clear c4
  obtain rfl:=Option.some.inj H
  go_enter Tryz.func70,Tryz.ntmps70
  go_wp2
  go_ret
  exact ⟨aq6,aq13⟩
 rw [if_pos c4] at H
 have c4b0:=decide_eq_true c4
 clear c4
 obtain rfl:=Option.some.inj H
 go_enter Tryz.func70,Tryz.ntmps70
 go_wp2
 go_ret
 exact ⟨aq6,aq13⟩
def impl_isSize.f (a0:Int) (a1:Int):Option (Bool):=(impl_within.f a0 1 7).bind fun t101=>(if t101 = true then ((impl_within.f a1 1 7).bind fun t102=>(if t102 = true then (some (decide ((wrap64 (a0 * a1)) ≤ 36))) else (some false))) else (some false))
theorem impl_isSize.calls (a0:Int) (a1:Int) (r:Bool) (w:World) (h:impl_isSize.f a0 a1 = some r) :
  Calls Tryz.prog 121 #[.int .i64 a0,.int .i64 a1] w fun e w'=>e = .returned (.bool r) ∧ Drawn0 w w':=by
 have H:((impl_within.f a0 1 7).bind fun t101=>(if t101 = true then ((impl_within.f a1 1 7).bind fun t102=>(if t102 = true then (some (decide ((wrap64 (a0 * a1)) ≤ 36))) else (some false))) else (some false))) = some r:=h
 clear h
 obtain ⟨t101,A3,H⟩:=bn H
 by_cases c4:t101 = true
 rotate_left
 ·replace c4:=Bool.eq_false_iff.mpr c4
  subst c4
  rw [if_neg Bool.false_ne_true] at H
  obtain rfl:=Option.some.inj H
  go_enter Tryz.func121,Tryz.ntmps121
  go_wp2_with (first | ((with_reducible refine gate_callee (f:=70) rfl ?_);refine goesL_ (some 6) rfl rfl Tryz.func70 k_r rfl #[.int .i64 a0,.int .i64 1,.int .i64 7] rfl aq8 ?_;(with_reducible refine (impl_within.calls a0 1 7 false _ A3.out).mono ?_);rintro e w' ⟨rfl,⟨nd,rfl⟩⟩;refine ⟨_,rfl,?_⟩))
  go_ret
  exact ⟨aq6,aq13⟩
 subst c4
 rw [if_pos rfl] at H
 obtain ⟨t102,A5,H⟩:=bn H
 by_cases c6:t102 = true
 ·subst c6
  rw [if_pos rfl] at H
  obtain rfl:=Option.some.inj H
  go_enter Tryz.func121,Tryz.ntmps121
  go_wp2_with (first | ((with_reducible refine gate_callee (f:=70) rfl ?_);refine goesL_ (some 6) rfl rfl Tryz.func70 k_r rfl #[.int .i64 a0,.int .i64 1,.int .i64 7] rfl aq8 ?_;(with_reducible refine (impl_within.calls a0 1 7 true _ A3.out).mono ?_);rintro e w' ⟨rfl,⟨nd,rfl⟩⟩;refine ⟨_,rfl,?_⟩) | (go_at_call 70;(with_reducible refine (impl_within.calls a1 1 7 true _ A5.out).mono ?_);rintro e w' ⟨rfl,⟨nd,rfl⟩⟩))
  go_ret
  exact ⟨aq6,aq13⟩
 replace c6:=Bool.eq_false_iff.mpr c6
 subst c6
 rw [if_neg Bool.false_ne_true] at H
 obtain rfl:=Option.some.inj H
 go_enter Tryz.func121,Tryz.ntmps121
 go_wp2_with (first | ((with_reducible refine gate_callee (f:=70) rfl ?_);refine goesL_ (some 6) rfl rfl Tryz.func70 k_r rfl #[.int .i64 a0,.int .i64 1,.int .i64 7] rfl aq8 ?_;(with_reducible refine (impl_within.calls a0 1 7 true _ A3.out).mono ?_);rintro e w' ⟨rfl,⟨nd,rfl⟩⟩;refine ⟨_,rfl,?_⟩) | (go_at_call 70;(with_reducible refine (impl_within.calls a1 1 7 false _ A5.out).mono ?_);rintro e w' ⟨rfl,⟨nd,rfl⟩⟩))
 go_ret
 exact ⟨aq6,aq13⟩
mutual
def impl_IsTray.l0:Nat → ByteArray → List ByteArray → List ByteArray → Int → Int → Option (Bool)
 | 0,_,_,_,_,_=>none
 | k + 1,x0,x3,x17,x18,x19=>if x19 < x18 then (if 0 ≤ x19 then (if x19 < (x17.length:Int) then (if 0 < (x3.length:Int) then (if ((rdOf ByteArray.empty x17 x19).size:Int) = ((rdOf ByteArray.empty x3 0).size:Int) then ((strings_Trim.f (rdOf ByteArray.empty x17 x19) (⟨#[35,46,111,97,98,99,100,101,102]⟩:ByteArray)).bind fun t108=>(if t108.toList = ([]:List UInt8) then (impl_IsTray.l0 k x0 x3 x17 x18 (wrap64 (x19 + 1))) else (some false))) else (some false)) else (none)) else (none)) else (none)) else (impl_IsTray.l1 k x0 97)
def impl_IsTray.l1:Nat → ByteArray → Int → Option (Bool)
 | 0,_,_=>none
 | k + 1,x0,x6=>if x6 ≤ 102 then ((strings_Count.f x0 (Utf8.encode x6)).bind fun t109=>(if t109 > 1 then (some false) else (impl_IsTray.l1 k x0 (wrap32 (x6 + 1))))) else (some true)
end
def impl_IsTray.f (k:Nat) (a0:ByteArray):Option (Bool):=(strings_Split.f a0 (⟨#[47]⟩:ByteArray)).bind fun t101=>(if 0 < (t101.length:Int) then ((impl_isSize.f ((rdOf ByteArray.empty t101 0).size:Int) (t101.length:Int)).bind fun t105=>(if t105 = true then (impl_IsTray.l0 k a0 t101 t101 (t101.length:Int) 0) else (some false))) else (none))
theorem impl_IsTray.mono_l:∀ k,(∀ y0 y1 y2 y3 y4,LeO (impl_IsTray.l0 k y0 y1 y2 y3 y4) (impl_IsTray.l0 (k + 1) y0 y1 y2 y3 y4)) ∧ (∀ y0 y1,LeO (impl_IsTray.l1 k y0 y1) (impl_IsTray.l1 (k + 1) y0 y1))
 | 0=>⟨fun _ _ _ _ _ r h=>by simp [impl_IsTray.l0] at h,fun _ _ r h=>by simp [impl_IsTray.l1] at h⟩
 | k + 1=>by
  obtain ⟨ih0,ih1⟩:=impl_IsTray.mono_l k
  refine ⟨?_,?_⟩
  ·intro y0 y1 y2 y3 y4
   unfold impl_IsTray.l0
   exact mo
  ·intro y0 y1
   unfold impl_IsTray.l1
   exact mo
theorem impl_IsTray.mono:∀ a0 k,LeO (impl_IsTray.f k a0) (impl_IsTray.f (k + 1) a0):=by
 intro a0 k
 obtain ⟨ih0,ih1⟩:=impl_IsTray.mono_l k
 unfold impl_IsTray.f
 exact mo
theorem impl_IsTray.calls (k:Nat) (a0:ByteArray) (r:Bool) (w:World) (h:impl_IsTray.f k a0 = some r) :
  Calls Tryz.prog 102 #[.string a0] w fun e w'=>e = .returned (.bool r) ∧ Below w.heap.size w w':=by
 have HB:=am (Below.refl w.heap.size w)
 have H:((strings_Split.f a0 (⟨#[47]⟩:ByteArray)).bind fun t101=>(if 0 < (t101.length:Int) then ((impl_isSize.f ((rdOf ByteArray.empty t101 0).size:Int) (t101.length:Int)).bind fun t105=>(if t105 = true then (impl_IsTray.l0 k a0 t101 t101 (t101.length:Int) 0) else (some false))) else (none))) = some r:=h
 clear h
 obtain ⟨t101,A2,H⟩:=bn H
 replace H:=gd H
 obtain ⟨c3,H⟩:=H
 have c3b0:=decide_eq_true c3
 have c3b1:decide (0 < t101.length) = true:=decide_eq_true o_m
 clear c3
 obtain ⟨t105,A4,H⟩:=bn H
 by_cases c5:t105 = true
 rotate_left
 ·replace c5:=Bool.eq_false_iff.mpr c5
  subst c5
  rw [if_neg Bool.false_ne_true] at H
  obtain rfl:=Option.some.inj H
  go_enter Tryz.func102,Tryz.ntmps102
  go_wp2_with (first | ((with_reducible refine gate_callee (f:=90) rfl ?_);refine goesL_ (some 8) rfl rfl Tryz.func90 k_r rfl #[.string a0,.string (⟨#[47]⟩:ByteArray)] rfl aq8 ?_;(with_reducible refine (strings_Split.calls a0 (⟨#[47]⟩:ByteArray) t101 _ A2.out).mono ?_);rintro e w20 ⟨v102,rfl,ho0,hb⟩;refine ⟨_,rfl,?_⟩;have HO103:=am (Kd.R_lower ho0 (below_size aq1));replace HB:=am (below_step aq1 hb);(try clear hb);(try clear ho0);obtain ⟨Ao21,co21,eo21⟩:=Kd.R_slice HO103.out;subst eo21;have p104:0 ≤ (0:Int):=o_m;have q104:0 < (t101.length:Int):=of_decide_eq_true aq4;obtain ⟨ad104,e104,hx104_0⟩:=Kd.at_string (Kd.R_reads' HO103.out).2.2 0 p104 q104;cases e104;have qi104:(0 < t101.length) = True:=eq_true o_m;(try rw [show ((0:Int)).toNat = 0 from rfl] at hx104_0);(try rw [Addr.add_zero'] at hx104_0);replace p104:=eq_true p104;replace q104:=eq_true q104) | ((with_reducible refine gate_callee (f:=121) rfl ?_);refine goesL_ (some 15) rfl rfl Tryz.func121 k_r rfl #[.int .i64 ((rdOf ByteArray.empty t101 0).size:Int),.int .i64 (t101.length:Int)] rfl aq8 ?_;(with_reducible refine (impl_isSize.calls ((rdOf ByteArray.empty t101 0).size:Int) (t101.length:Int) false _ A4.out).mono ?_);rintro e w' ⟨rfl,⟨nd,rfl⟩⟩;refine ⟨_,rfl,?_⟩))
  go_ret
  exact ⟨aq9,aq1⟩
 subst c5
 rw [if_pos rfl] at H
 have H':=am H
 clear H
 go_enter Tryz.func102,Tryz.ntmps102
 go_wp2_with (first | ((with_reducible refine gate_callee (f:=90) rfl ?_);refine goesL_ (some 8) rfl rfl Tryz.func90 k_r rfl #[.string a0,.string (⟨#[47]⟩:ByteArray)] rfl aq8 ?_;(with_reducible refine (strings_Split.calls a0 (⟨#[47]⟩:ByteArray) t101 _ A2.out).mono ?_);rintro e w6 ⟨v102,rfl,ho0,hb⟩;refine ⟨_,rfl,?_⟩;have HO103:=am (Kd.R_lower ho0 (below_size aq1));replace HB:=am (below_step aq1 hb);(try clear hb);(try clear ho0);obtain ⟨Ao7,co7,eo7⟩:=Kd.R_slice HO103.out;subst eo7;have p104:0 ≤ (0:Int):=o_m;have q104:0 < (t101.length:Int):=of_decide_eq_true aq4;obtain ⟨ad104,e104,hx104_0⟩:=Kd.at_string (Kd.R_reads' HO103.out).2.2 0 p104 q104;cases e104;have qi104:(0 < t101.length) = True:=eq_true o_m;(try rw [show ((0:Int)).toNat = 0 from rfl] at hx104_0);(try rw [Addr.add_zero'] at hx104_0);replace p104:=eq_true p104;replace q104:=eq_true q104) | ((with_reducible refine gate_callee (f:=121) rfl ?_);refine goesL_ (some 15) rfl rfl Tryz.func121 k_r rfl #[.int .i64 ((rdOf ByteArray.empty t101 0).size:Int),.int .i64 (t101.length:Int)] rfl aq8 ?_;(with_reducible refine (impl_isSize.calls ((rdOf ByteArray.empty t101 0).size:Int) (t101.length:Int) true _ A4.out).mono ?_);rintro e w' ⟨rfl,⟨nd,rfl⟩⟩;refine ⟨_,rfl,?_⟩))
 go_loopg [19] k (fun kq v19 w'=>∃ (x19_1:Int),v19 = .int .i64 x19_1 ∧ Aside0 (impl_IsTray.l0 kq a0 t101 t101 (t101.length:Int) x19_1 = some r) ∧ Aside0 (kq ≤ k) ∧ Aside0 (Kd.R Kd.string 9 w' w.heap.size (fun _=>True) (.slice (some ad104) t101.length co7) t101) ∧ Aside0 (Kd.R Kd.string 9 w' w.heap.size (fun _=>True) (.slice (some ad104) t101.length co7) t101) ∧ Aside0 (Below w.heap.size w w'))
 case atStart=>exact ⟨(0),aq6,H',⟨Nat.le_refl _⟩,⟨aq58⟩,⟨aq58⟩,⟨aq1⟩⟩
 case round =>
  clear H'
  try clear c1
  try clear p1
  try clear q1
  try clear hx1
  try clear qi1
  try clear p2
  try clear c3
  try clear c3b0
  try clear c3b1
  try clear c5
  try clear hx104_0
  try clear p104
  try clear q104
  obtain ⟨x19_1,rfl,HA,HK1,HO_3,HO_17,HB⟩:=hrel
  cases gk with
  | zero=>exact absurd HA.out (by simp [impl_IsTray.l0])
  | succ k1 =>
   have H:=HA.out
   clear HA
   simp only [impl_IsTray.l0] at H
   by_cases c8:x19_1 < (t101.length:Int)
   rotate_left
   ·rw [if_neg c8] at H
    have c8b0:=decide_eq_false c8
    clear c8
    have H':=am H
    clear H
    go_wp2
    go_loopg [6] k1 (fun kq v6 w'=>∃ (x6_2:Int),v6 = .int .i32 x6_2 ∧ Aside0 (impl_IsTray.l1 kq a0 x6_2 = some r) ∧ Aside0 (kq ≤ k1) ∧ Aside0 (Below w.heap.size w w'))
    case atStart=>exact ⟨(97),aq6,H',⟨Nat.le_refl _⟩,⟨aq1⟩⟩
    case round =>
     clear H'
     try clear c1
     try clear p1
     try clear q1
     try clear hx1
     try clear qi1
     try clear p2
     try clear c3
     try clear c3b0
     try clear c3b1
     try clear c5
     try clear p6
     try clear c8
     try clear c8b0
     try clear c9
     try clear c9b0
     try clear c10
     try clear c10b0
     try clear p10
     try clear q10
     try clear hx10
     try clear qi10
     try clear c11
     try clear c11b0
     try clear c11b1
     try clear c12
     try clear c12b0
     try clear c12b1
     try clear c12b2
     try clear c14
     try clear c14b0
     try clear c14b1
     try clear hx104_0
     try clear hx106_0
     try clear hx107_0
     try clear p1
     try clear p104
     try clear p106
     try clear p107
     try clear p2
     try clear q1
     try clear q104
     try clear q106
     try clear q107
     obtain ⟨x6_2,rfl,HA,HK2,HB⟩:=hrel
     cases gk with
     | zero=>exact absurd HA.out (by simp [impl_IsTray.l1])
     | succ k2 =>
      have H:=HA.out
      clear HA
      simp only [impl_IsTray.l1] at H
      by_cases c17:x6_2 ≤ 102
      rotate_left
      ·rw [if_neg c17] at H
       have c17b0:=decide_eq_false c17
       clear c17
       obtain rfl:=Option.some.inj H
       go_wp2
       go_ret
       exact ⟨aq9,aq1⟩
      rw [if_pos c17] at H
      have c17b0:=decide_eq_true c17
      clear c17
      obtain ⟨t109,A18,H⟩:=bn H
      by_cases c19:t109 > 1
      ·rw [if_pos c19] at H
       have c19b0:=decide_eq_true c19
       clear c19
       obtain rfl:=Option.some.inj H
       go_wp2_with (first | ((with_reducible refine gate_callee (f:=123) rfl ?_);refine goesL_ (some 43) rfl rfl Tryz.func123 k_r rfl #[.string a0,.string (Utf8.encode x6_2)] rfl aq8 ?_;(with_reducible refine (strings_Count.calls a0 (Utf8.encode x6_2) t109 _ A18.out).mono ?_);rintro e w' ⟨rfl,⟨nd,rfl⟩⟩;refine ⟨_,rfl,?_⟩))
       go_ret
       exact ⟨aq9,aq1⟩
      rw [if_neg c19] at H
      have c19b0:=decide_eq_false c19
      clear c19
      have H':=am H
      clear H
      go_wp2_with (first | ((with_reducible refine gate_callee (f:=123) rfl ?_);refine goesL_ (some 43) rfl rfl Tryz.func123 k_r rfl #[.string a0,.string (Utf8.encode x6_2)] rfl aq8 ?_;(with_reducible refine (strings_Count.calls a0 (Utf8.encode x6_2) t109 _ A18.out).mono ?_);rintro e w' ⟨rfl,⟨nd,rfl⟩⟩;refine ⟨_,rfl,?_⟩))
      go_roundg k2
      case measure=>have:=HK1.out;have:=HK2.out;omega
      case rel=>exact ⟨(wrap32 (x6_2 + 1)),aq6,H',⟨aq43⟩,⟨aq1⟩⟩
   rw [if_pos c8] at H
   have c8b0:=decide_eq_true c8
   clear c8
   replace H:=gd H
   obtain ⟨c9,H⟩:=H
   have c9b0:=decide_eq_true c9
   clear c9
   replace H:=gd H
   obtain ⟨c10,H⟩:=H
   have c10b0:=decide_eq_true c10
   clear c10
   replace H:=gd H
   obtain ⟨c11,H⟩:=H
   have c11b0:=decide_eq_true c11
   have c11b1:decide (0 < t101.length) = true:=decide_eq_true o_m
   clear c11
   by_cases c12:((rdOf ByteArray.empty t101 x19_1).size:Int) = ((rdOf ByteArray.empty t101 0).size:Int)
   rotate_left
   ·rw [if_neg c12] at H
    have c12b0:=beq_eq_false_iff_ne.mpr c12
    have c12b1:=bne_iff_ne.mpr c12
    have c12b2:((rdOf ByteArray.empty t101 x19_1).size == (rdOf ByteArray.empty t101 0).size) = false:=by first | simpa using c12 | (simp at c12 ⊢;omega)
    obtain rfl:=Option.some.inj H
    have p106:0 ≤ (x19_1:Int):=of_decide_eq_true aq4
    have q106:x19_1 < (t101.length:Int):=of_decide_eq_true aq4
    obtain ⟨ad106,e106,hx106_0⟩:=Kd.at_string (Kd.R_reads' HO_17.out).2.2 x19_1 p106 q106
    obtain rfl:ad104 = ad106:=(by injection e106)
    replace p106:=eq_true p106
    replace q106:=eq_true q106
    have p107:0 ≤ (0:Int):=o_m
    have q107:0 < (t101.length:Int):=of_decide_eq_true aq4
    obtain ⟨ad107,e107,hx107_0⟩:=Kd.at_string (Kd.R_reads' HO_3.out).2.2 0 p107 q107
    obtain rfl:ad104 = ad107:=(by injection e107)
    have qi107:(0 < t101.length) = True:=eq_true o_m
    (try rw [show ((0:Int)).toNat = 0 from rfl] at hx107_0)
    (try rw [Addr.add_zero'] at hx107_0)
    replace p107:=eq_true p107
    replace q107:=eq_true q107
    go_wp2
    go_ret
    exact ⟨aq9,aq1⟩
   rw [if_pos c12] at H
   have c12b0:=beq_iff_eq.mpr c12
   have c12b1:=bne_eq_false_iff_eq.mpr c12
   have c12b2:((rdOf ByteArray.empty t101 x19_1).size == (rdOf ByteArray.empty t101 0).size) = true:=by first | simpa using c12 | (simp at c12 ⊢;omega)
   clear c12
   obtain ⟨t108,A13,H⟩:=bn H
   by_cases c14:t108.toList = ([]:List UInt8)
   rotate_left
   ·rw [if_neg c14] at H
    have c14b0:=beq_eq_false_iff_ne.mpr c14
    have c14b1:=bne_iff_ne.mpr c14
    obtain rfl:=Option.some.inj H
    have p106:0 ≤ (x19_1:Int):=of_decide_eq_true aq4
    have q106:x19_1 < (t101.length:Int):=of_decide_eq_true aq4
    obtain ⟨ad106,e106,hx106_0⟩:=Kd.at_string (Kd.R_reads' HO_17.out).2.2 x19_1 p106 q106
    obtain rfl:ad104 = ad106:=(by injection e106)
    replace p106:=eq_true p106
    replace q106:=eq_true q106
    have p107:0 ≤ (0:Int):=o_m
    have q107:0 < (t101.length:Int):=of_decide_eq_true aq4
    obtain ⟨ad107,e107,hx107_0⟩:=Kd.at_string (Kd.R_reads' HO_3.out).2.2 0 p107 q107
    obtain rfl:ad104 = ad107:=(by injection e107)
    have qi107:(0 < t101.length) = True:=eq_true o_m
    (try rw [show ((0:Int)).toNat = 0 from rfl] at hx107_0)
    (try rw [Addr.add_zero'] at hx107_0)
    replace p107:=eq_true p107
    replace q107:=eq_true q107
    go_wp2_with (first | (go_at_call 122;(with_reducible refine (strings_Trim.calls (rdOf ByteArray.empty t101 x19_1) (⟨#[35,46,111,97,98,99,100,101,102]⟩:ByteArray) t108 _ A13.out).mono ?_);rintro e w16 ⟨rfl,hb⟩;replace HO_3:=am (Kd.R_below aq10 hb);replace HO_17:=am (Kd.R_below aq57 hb);replace HB:=am (below_step aq1 hb);(try clear hb)))
    go_ret
    exact ⟨aq9,aq1⟩
   rw [if_pos c14] at H
   have c14b0:=beq_iff_eq.mpr c14
   have c14b1:=bne_eq_false_iff_eq.mpr c14
   clear c14
   have H':=am H
   clear H
   have p106:0 ≤ (x19_1:Int):=of_decide_eq_true aq4
   have q106:x19_1 < (t101.length:Int):=of_decide_eq_true aq4
   obtain ⟨ad106,e106,hx106_0⟩:=Kd.at_string (Kd.R_reads' HO_17.out).2.2 x19_1 p106 q106
   obtain rfl:ad104 = ad106:=(by injection e106)
   replace p106:=eq_true p106
   replace q106:=eq_true q106
   have p107:0 ≤ (0:Int):=o_m
   have q107:0 < (t101.length:Int):=of_decide_eq_true aq4
   obtain ⟨ad107,e107,hx107_0⟩:=Kd.at_string (Kd.R_reads' HO_3.out).2.2 0 p107 q107
   obtain rfl:ad104 = ad107:=(by injection e107)
   have qi107:(0 < t101.length) = True:=eq_true o_m
   (try rw [show ((0:Int)).toNat = 0 from rfl] at hx107_0)
   (try rw [Addr.add_zero'] at hx107_0)
   replace p107:=eq_true p107
   replace q107:=eq_true q107
   go_wp2_with (first | (go_at_call 122;(with_reducible refine (strings_Trim.calls (rdOf ByteArray.empty t101 x19_1) (⟨#[35,46,111,97,98,99,100,101,102]⟩:ByteArray) t108 _ A13.out).mono ?_);rintro e w15 ⟨rfl,hb⟩;replace HO_3:=am (Kd.R_below aq10 hb);replace HO_17:=am (Kd.R_below aq57 hb);replace HB:=am (below_step aq1 hb);(try clear hb)))
   go_roundg k1
   case measure=>have:=HK1.out;omega
   case rel=>exact ⟨(wrap64 (x19_1 + 1)),aq6,H',⟨aq56⟩,⟨aq10⟩,⟨aq57⟩,⟨aq1⟩⟩
end Go.Proofs.YtldhkbiomingbaaGreatDoor.F

namespace Go.Proofs.YtldhkbiomingbaaGreatDoor.F
open Go.RowKit Go.Proofs.YtldhkbiomingbaaGreatDoor Go.YW.PrintWords Classical
theorem spec_tyBall_eq (c:Int):spec_tyBall.f c = some (isBallC c):=by
 unfold spec_tyBall.f isBallC isNameC
 by_cases h3:c = 111
 ·simp [h3]
 simp only [if_neg h3]
 by_cases h4:c ≥ 97
 rotate_left
 ·simp [h3,h4]
 simp [h3,h4]
theorem spec_tyIs_eq (c:Int):spec_tyIs.f c = some (isCellC c):=by
 unfold spec_tyIs.f isCellC
 rw [spec_tyBall_eq]
 by_cases h1:c = 35
 ·simp [h1]
 by_cases h2:c = 46
 ·simp [h2]
 simp [h1,h2]
def ansT:Option (Nat × Nat × List Int) → Int × Int × List Int × Bool
 | none=>(0,0,[],false)
 | some (w,h,cs)=>(w,h,cs,true)
def finT (w h:Nat) (cs:List Int):Option (Nat × Nat × List Int):=if w ≤ 7 ∧ h ≤ 7 ∧ cs.length ≤ 36 ∧ namesOk cs then some (w,h,cs) else none
theorem tyRead_l2 (cs:List Int) (hl:cs.length ≤ 100) (w h:Int) (i:Nat) (hi:i < cs.length) (r:Int × Int × List Int × Bool)
  (hk:Ev (fun k=>spec_tyRead.l1 k cs cs.length (i + 1:Nat) w h cs) r):∀ (d j:Nat),j + d = i → 
  Ev (fun k=>spec_tyRead.l2 k (rd cs i) cs cs.length i (cs.take i) ((cs.take i).length:Int) j w h cs)
   (if ∀ m,j ≤ m → m < i → cs.getD m 0 = cs.getD i 0 → isNameC (cs.getD i 0) = false then r else (0,0,[],false)):=by
 have hti:(cs.take i).length = i:=by rw [List.length_take];omega
 intro d
 induction d with
 | zero =>
  intro j hj
  rw [if_pos (by intro m h1 h2;omega)]
  refine Ev.step (f:=fun k=>spec_tyRead.l1 k cs cs.length (i + 1:Nat) w h cs) (fun k=>?_) hk
  rw [spec_tyRead.l2,hti,if_neg o_m,w64 o_m o_m]
  rfl
 | succ d ih =>
  intro j hj
  have hih:=ih (j + 1) o_m
  have hr:rd (cs.take i) j = cs.getD j 0:=by
   unfold rd
   rw [Int.toNat_natCast,List.getD_eq_getElem?_getD,List.getD_eq_getElem?_getD,List.getElem?_take,if_pos o_m]
  have hr2:rd cs i = cs.getD i 0:=by unfold rd;rw [Int.toNat_natCast]
  have hw:wrap64 ((j:Int) + 1) = ((j + 1:Nat):Int):=by rw [w64 o_m o_m];rfl
  by_cases he:cs.getD j 0 = cs.getD i 0
  rotate_left
  ·have hc:(∀ m,j ≤ m → m < i → cs.getD m 0 = cs.getD i 0 → isNameC (cs.getD i 0) = false) ↔ (∀ m,j + 1 ≤ m → m < i → cs.getD m 0 = cs.getD i 0 → isNameC (cs.getD i 0) = false):=by
    constructor
    ·intro hh m h1 h2;exact hh m o_m h2
    ·intro hh m h1 h2 h3
     rcases Nat.lt_or_ge j m with h4 | h4
     ·exact hh m h4 h2 h3
     ·obtain rfl:m = j:=by omega
      exact absurd h3 he
   simp only [hc]
   refine Ev.step (fun k=>?_) hih
   rw [spec_tyRead.l2,hti,if_pos o_m,if_pos o_m,if_pos o_m,hr,hr2,if_neg (fun e=>he e.symm),hw]
  by_cases hn:isNameC (cs.getD i 0) = false
  rotate_left
  ·have hn2:isNameC (cs.getD i 0) = true:=by simpa using hn
   have h3:=(isNameC_iff _).1 hn2
   rw [if_neg (fun hc=>hn (hc j (Nat.le_refl _) o_m he))]
   refine Ev.step (f:=fun k=>some (0,0,[],false)) (fun k=>?_) (Ev.now _)
   rw [spec_tyRead.l2,hti,if_pos o_m,if_pos o_m,if_pos o_m,hr,hr2,if_pos he.symm,if_pos o_m,if_pos o_m]
  have hc:(∀ m,j ≤ m → m < i → cs.getD m 0 = cs.getD i 0 → isNameC (cs.getD i 0) = false):=fun _ _ _ _=>hn
  have hc2:(∀ m,j + 1 ≤ m → m < i → cs.getD m 0 = cs.getD i 0 → isNameC (cs.getD i 0) = false):=fun _ _ _ _=>hn
  rw [if_pos hc]
  rw [if_pos hc2] at hih
  refine Ev.step (fun k=>?_) hih
  rw [spec_tyRead.l2,hti,if_pos o_m,if_pos o_m,if_pos o_m,hr,hr2,if_pos he.symm,hw]
  have:¬ (97 ≤ cs.getD i 0 ∧ cs.getD i 0 ≤ 102):=fun e=>by rw [(isNameC_iff _).2 e] at hn;cases hn
  by_cases h97:cs.getD i 0 ≥ 97
  rotate_left
  ·rw [if_neg h97]
  rw [if_pos h97,if_neg o_m]
theorem tyRead_l1 (cs:List Int) (hl:cs.length ≤ 100) (w h:Nat):∀ (d i:Nat),i + d = cs.length →
  Ev (fun k=>spec_tyRead.l1 k cs cs.length i w h cs)
   (if ∀ m,i ≤ m → m < cs.length → ∀ j,j < m → cs.getD j 0 = cs.getD m 0 → isNameC (cs.getD m 0) = false then (w,h,cs,true) else (0,0,[],false)):=by
 intro d
 induction d with
 | zero =>
  intro i hi
  rw [if_pos (by intro m h1 h2;omega)]
  refine Ev.step (f:=fun k=>some ((w:Int),(h:Int),cs,true)) (fun k=>?_) (Ev.now _)
  rw [spec_tyRead.l1,if_neg o_m]
 | succ d ih =>
  intro i hi
  have h2:=tyRead_l2 cs hl w h i o_m _ (ih (i + 1) o_m) i 0 o_m
  have hc:(if ∀ m,0 ≤ m → m < i → cs.getD m 0 = cs.getD i 0 → isNameC (cs.getD i 0) = false then
    (if ∀ m,i + 1 ≤ m → m < cs.length → ∀ j,j < m → cs.getD j 0 = cs.getD m 0 → isNameC (cs.getD m 0) = false then ((w:Int),(h:Int),cs,true) else (0,0,[],false)) else (0,0,[],false)) =
    (if ∀ m,i ≤ m → m < cs.length → ∀ j,j < m → cs.getD j 0 = cs.getD m 0 → isNameC (cs.getD m 0) = false then ((w:Int),(h:Int),cs,true) else (0,0,[],false)):=by
   by_cases h3:∀ m,i ≤ m → m < cs.length → ∀ j,j < m → cs.getD j 0 = cs.getD m 0 → isNameC (cs.getD m 0) = false
   ·rw [if_pos h3,if_pos (fun m _ hm=>h3 i (Nat.le_refl _) o_m m hm),if_pos (fun m hm=>h3 m o_m)]
   rw [if_neg h3]
   by_cases h4:∀ m,0 ≤ m → m < i → cs.getD m 0 = cs.getD i 0 → isNameC (cs.getD i 0) = false
   rotate_left
   ·rw [if_neg h4]
   rw [if_pos h4,if_neg]
   intro h5
   refine h3 (fun m h6 h7 j h8=>?_)
   rcases Nat.lt_or_ge i m with h9 | h9
   ·exact h5 m h9 h7 j h8
   ·obtain rfl:m = i:=by omega
    exact h4 j (Nat.zero_le _) h8
  rw [hc] at h2
  refine Ev.step (fun k=>?_) h2
  rw [spec_tyRead.l1,if_pos o_m,if_pos o_m,if_pos o_m,if_pos o_m]
  simp only [Option.bind_some,Int.toNat_natCast]
  rfl
theorem tyRead_fin (w h:Nat) (cs:List Int) (hl:cs.length ≤ 100) :
  Ev (fun k=>if (w:Int) > 7 then spec_tyRead.j2 k true w h cs else if (h:Int) > 7 then spec_tyRead.j2 k true w h cs else spec_tyRead.j2 k (decide ((cs.length:Int) > 36)) w h cs) (ansT (finT w h cs)):=by
 have hno:Ev (fun k=>spec_tyRead.j2 k true w h cs) (0,0,[],false):=Ev.step (f:=fun _=>some (0,0,[],false)) (fun k=>by rw [spec_tyRead.j2,if_pos rfl]) (Ev.now _)
 unfold finT
 by_cases h1:(w:Int) > 7
 ·simp only [if_pos h1];rw [if_neg o_m];exact hno
 simp only [if_neg h1]
 by_cases h2:(h:Int) > 7
 ·simp only [if_pos h2];rw [if_neg o_m];exact hno
 simp only [if_neg h2]
 by_cases h3:(cs.length:Int) > 36
 ·simp only [decide_eq_true h3];rw [if_neg o_m];exact hno
 simp only [decide_eq_false h3]
 have h4:=tyRead_l1 cs hl w h cs.length 0 o_m
 have hc:(if ∀ m,0 ≤ m → m < cs.length → ∀ j,j < m → cs.getD j 0 = cs.getD m 0 → isNameC (cs.getD m 0) = false then ((w:Int),(h:Int),cs,true) else (0,0,[],false)) = ansT (if w ≤ 7 ∧ h ≤ 7 ∧ cs.length ≤ 36 ∧ namesOk cs then some (w,h,cs) else none):=by
  unfold namesOk
  by_cases h5:∀ m,m < cs.length → ∀ j,j < m → cs.getD j 0 = cs.getD m 0 → isNameC (cs.getD m 0) = false
  rotate_left
  ·rw [if_neg (fun e=>h5 (fun m=>e m (Nat.zero_le _))),if_neg (fun e=>h5 e.2.2.2)];rfl
  rw [if_pos (fun m _=>h5 m),if_pos ⟨by omega,by omega,by omega,h5⟩];rfl
 rw [hc] at h4
 refine Ev.step (fun k=>?_) h4
 rw [spec_tyRead.j2,if_neg d_c]
 rfl
theorem tyRead_l0 (s:ByteArray) (hs:s.size ≤ 42):∀ (d i x w h:Nat) (cs:List Int),i + d = s.size → x ≤ i → w ≤ i → h ≤ i → cs.length ≤ i →
  Ev (fun k=>spec_tyRead.l0 k s x i w h cs) (ansT ((tyGo ((bytesOf s).drop i) x w h cs).bind fun z=>finT z.1 z.2.1 z.2.2)):=by
 have hno:∀ g:Nat → Option (Int × Int × List Int × Bool),(∀ k,g k = some (0,0,[],false)) → Ev g (0,0,[],false):=fun g hg=>⟨0,fun k _=>hg k⟩
 intro d
 induction d with
 | zero =>
  intro i x w h cs hi hx hw hh hc
  obtain rfl:i = s.size:=by omega
  rw [bytesOf_all,tyGo]
  have hA:∀ k,spec_tyRead.l0 (k + 1) s x s.size w h cs = spec_tyRead.j1 k s x s.size false w h cs:=fun k=>by
   rw [spec_tyRead.l0,if_pos o_m,if_neg o_m]
  refine Ev.step hA ?_
  by_cases hbad:(0 < h ∧ x ≠ w) ∨ x = 0
  rotate_left
  ·rw [if_neg hbad]
   have hfin:=tyRead_fin x (h + 1) cs o_m
   have hB:∀ k,spec_tyRead.j1 (k + 1) s x s.size false w h cs = spec_tyRead.l0 k s 0 (s.size + 1:Nat) x (h + 1:Nat) cs:=fun k=>by
    rw [spec_tyRead.j1,if_neg d_c,w64 (n:=(s.size:Int) + 1) o_m o_m,w64 (n:=(h:Int) + 1) o_m o_m]
    by_cases h0:(h:Int) > 0
    rotate_left
    ·rw [if_neg h0,if_neg o_m];rfl
    rw [if_pos h0,if_pos o_m,if_neg o_m];rfl
   refine Ev.step hB (Ev.step (fun k=>?_) hfin)
   rw [spec_tyRead.l0,if_neg o_m]
  rw [if_pos hbad]
  refine Ev.step (f:=fun _=>some (0,0,[],false)) (fun k=>?_) (Ev.now _)
  rw [spec_tyRead.j1,if_neg d_c]
  by_cases h0:(h:Int) > 0
  rotate_left
  ·rw [if_neg h0,if_pos o_m]
  rw [if_pos h0]
  by_cases hxw:(x:Int) = w
  rotate_left
  ·rw [if_neg hxw]
  rw [if_pos hxw,if_pos o_m]
 | succ d ih =>
  intro i x w h cs hi hx hw hh hc
  have hlt:i < s.size:=by omega
  rw [bytesOf_drop s i hlt,tyGo]
  have hA:∀ k,spec_tyRead.l0 (k + 1) s x i w h cs = spec_tyRead.j1 k s x i (bt s i != 47) w h cs:=fun k=>by
   rw [spec_tyRead.l0,if_pos o_m,if_pos o_m,if_pos o_m]
  refine Ev.step hA ?_
  by_cases h47:bt s i = 47
  rotate_left
  ·rw [if_neg h47]
   have hb:(bt s i != 47) = true:=by simp [h47]
   simp only [hb]
   by_cases hcell:isCellC (bt s i) = true
   rotate_left
   ·rw [if_neg hcell]
    refine Ev.step (f:=fun _=>some (0,0,[],false)) (fun k=>?_) (Ev.now _)
    rw [spec_tyRead.j1,if_pos rfl,if_pos o_m,if_pos o_m,spec_tyIs_eq,Option.bind_some,if_neg hcell]
   rw [if_pos hcell]
   refine Ev.step (fun k=>?_) (ih (i + 1) (x + 1) w h (cs ++ [bt s i]) o_m o_m o_m o_m (by simp;omega))
   rw [spec_tyRead.j1,if_pos rfl,if_pos o_m,if_pos o_m,spec_tyIs_eq,Option.bind_some,if_pos hcell,if_pos o_m,w64 o_m o_m,w64 o_m o_m]
   rfl
  rw [if_pos h47]
  have hb:(bt s i != 47) = false:=by simp [h47]
  simp only [hb]
  by_cases hbad:(0 < h ∧ x ≠ w) ∨ x = 0
  rotate_left
  ·rw [if_neg hbad]
   refine Ev.step (fun k=>?_) (ih (i + 1) 0 x (h + 1) cs o_m o_m o_m o_m o_m)
   rw [spec_tyRead.j1,if_neg d_c,w64 (n:=(i:Int) + 1) o_m o_m,w64 (n:=(h:Int) + 1) o_m o_m]
   by_cases h0:(h:Int) > 0
   rotate_left
   ·rw [if_neg h0,if_neg o_m];rfl
   rw [if_pos h0,if_pos o_m,if_neg o_m];rfl
  rw [if_pos hbad]
  refine Ev.step (f:=fun _=>some (0,0,[],false)) (fun k=>?_) (Ev.now _)
  rw [spec_tyRead.j1,if_neg d_c]
  by_cases h0:(h:Int) > 0
  rotate_left
  ·rw [if_neg h0,if_pos o_m]
  rw [if_pos h0]
  by_cases hxw:(x:Int) = w
  rotate_left
  ·rw [if_neg hxw]
  rw [if_pos hxw,if_pos o_m]
theorem spec_tyRead_ev (s:ByteArray):Ev (fun k=>spec_tyRead.f k s) (ansT (tyGrid (bytesOf s))):=by
 unfold spec_tyRead.f tyGrid
 rw [bytesOf_length]
 by_cases h:(s.size:Int) > 42
 ·simp only [if_pos h];rw [if_pos o_m];exact Ev.now _
 simp only [if_neg h];rw [if_neg o_m]
 have h0:=tyRead_l0 s o_m s.size 0 0 0 0 [] o_m (Nat.le_refl _) (Nat.le_refl _) (Nat.le_refl _) (Nat.le_refl _)
 rw [List.drop_zero] at h0
 cases hg:tyGo (bytesOf s) 0 0 0 [] with
 | none=>rw [hg] at h0;exact h0
 | some z=>rw [hg] at h0;exact h0
end Go.Proofs.YtldhkbiomingbaaGreatDoor.F

namespace Go.Proofs.YtldhkbiomingbaaGreatDoor.F
open Go.Proofs.YtldhkbiomingbaaGreatDoor
open Go.RowKit Go.YW.PrintWords Go.YW.PrintLast Go.YW.PrintMore
attribute [local go_sem] max2_int min2_int max_two min_two max_three min_three max_four min_four
def spec_tyText.l0:Nat → ByteArray → Int → Int → Int → List Int → Option (ByteArray)
 | 0,_,_,_,_,_=>none
 | k + 1,x3,x4,x102000,x102001,x102002=>if x4 < x102001 then (if x4 > 0 then (if x3.size + 1 ≤ 9223372036854775807 then (if 0 ≤ (wrap64 (x4 * x102000)) then (if (wrap64 (x4 * x102000)) ≤ (wrap64 ((wrap64 (x4 + 1)) * x102000)) then (if (wrap64 ((wrap64 (x4 + 1)) * x102000)) ≤ (x102002.length:Int) then (if (x3 ++ (⟨#[47]⟩:ByteArray)).size + (strOfNums ((x102002.take ((wrap64 ((wrap64 (x4 + 1)) * x102000)):Int).toNat).drop ((wrap64 (x4 * x102000)):Int).toNat)).size ≤ 9223372036854775807 then (spec_tyText.l0 k ((x3 ++ (⟨#[47]⟩:ByteArray)) ++ (strOfNums ((x102002.take ((wrap64 ((wrap64 (x4 + 1)) * x102000)):Int).toNat).drop ((wrap64 (x4 * x102000)):Int).toNat))) (wrap64 (x4 + 1)) x102000 x102001 x102002) else (none)) else (none)) else (none)) else (none)) else (none)) else (if 0 ≤ (wrap64 (x4 * x102000)) then (if (wrap64 (x4 * x102000)) ≤ (wrap64 ((wrap64 (x4 + 1)) * x102000)) then (if (wrap64 ((wrap64 (x4 + 1)) * x102000)) ≤ (x102002.length:Int) then (if x3.size + (strOfNums ((x102002.take ((wrap64 ((wrap64 (x4 + 1)) * x102000)):Int).toNat).drop ((wrap64 (x4 * x102000)):Int).toNat)).size ≤ 9223372036854775807 then (spec_tyText.l0 k (x3 ++ (strOfNums ((x102002.take ((wrap64 ((wrap64 (x4 + 1)) * x102000)):Int).toNat).drop ((wrap64 (x4 * x102000)):Int).toNat))) (wrap64 (x4 + 1)) x102000 x102001 x102002) else (none)) else (none)) else (none)) else (none))) else (some x3)
def spec_tyText.f (k:Nat) (a0_0:Int) (a0_1:Int) (l0_2:List Int):Option (ByteArray):=spec_tyText.l0 k (⟨#[]⟩:ByteArray) 0 a0_0 a0_1 l0_2
theorem spec_tyText.mono_l:∀ k,(∀ y0 y1 y2 y3 y4,LeO (spec_tyText.l0 k y0 y1 y2 y3 y4) (spec_tyText.l0 (k + 1) y0 y1 y2 y3 y4))
 | 0=>fun _ _ _ _ _ r h=>by simp [spec_tyText.l0] at h
 | k + 1=>by
  have ih0:=spec_tyText.mono_l k
  ·intro y0 y1 y2 y3 y4
   unfold spec_tyText.l0
   exact mo
theorem spec_tyText.calls (k:Nat) (a0_0:Int) (a0_1:Int) (A0_2:Option Addr) (c0_2:Nat) (l0_2:List Int) (r:ByteArray) (w:World) (hr0_2:Kd.C (Kd.int .u8) w A0_2 l0_2.length l0_2) (hc0_2:l0_2.length ≤ c0_2) (h:spec_tyText.f k a0_0 a0_1 l0_2 = some r) :
  Calls Tryz.prog 65 #[.agg #[.int .i64 a0_0,.int .i64 a0_1,.slice A0_2 l0_2.length c0_2]] w fun e w'=>e = .returned (.string r) ∧ Below w.heap.size w w':=by
 have hu75:=Tryz.underlying75
 have HR0_2:=am hr0_2
 have HC0_2:=am hc0_2
 clear hr0_2 hc0_2
 have HB:=am (Below.refl w.heap.size w)
 have H:(spec_tyText.l0 k (⟨#[]⟩:ByteArray) 0 a0_0 a0_1 l0_2) = some r:=h
 clear h
 have H':=am H
 clear H
 go_enter Tryz.func65,Tryz.ntmps65
 go_wp2_with (first | (refine bx 1 #[.int .i64 a0_0,.int .i64 a0_1,.slice A0_2 l0_2.length c0_2] 75 ?_;intro gb101 hg w2 hbox hb;have BK101:=am (hbox);have GW101:=am ((by rw [hg];exact (below_size aq1):w.heap.size ≤ gb101));have GE101:=GW101;replace HB:=am (below_step aq1 hb);clear hb hbox hg))
 go_loopg [3,4] k (fun kq v3 v4 w'=>∃ (x3_1:ByteArray) (x4_1:Int),v3 = .string x3_1 ∧ v4 = .int .i64 x4_1 ∧ Aside0 (spec_tyText.l0 kq x3_1 x4_1 a0_0 a0_1 l0_2 = some r) ∧ Aside0 (kq ≤ k) ∧ Aside0 (w'.heap[gb101]? = some (.cells #[.int .i64 a0_0,.int .i64 a0_1,(.slice A0_2 l0_2.length c0_2)] 75 (0,0))) ∧ Aside0 (Below w.heap.size w w'))
 case atStart=>exact ⟨((⟨#[]⟩:ByteArray)),(0),aq6,aq6,H',⟨Nat.le_refl _⟩,⟨aq2⟩,⟨aq0⟩⟩
 case round =>
  clear H'
  try clear p2
  obtain ⟨x3_1,x4_1,rfl,rfl,HA,HK1,BK101,HB⟩:=hrel
  cases gk with
  | zero=>exact absurd HA.out (by simp [spec_tyText.l0])
  | succ k1 =>
   have H:=HA.out
   clear HA
   simp only [spec_tyText.l0] at H
   by_cases c3:x4_1 < a0_1
   rotate_left
   ·rw [if_neg c3] at H
    have c3b0:=decide_eq_false c3
    clear c3
    obtain rfl:=Option.some.inj H
    obtain ⟨hcz22_0,hcz22_1,hcz22_2,hfz22_0,hfz22_1,hfz22_2⟩:=blk3_ BK101.out
    go_wp2
    go_ret
    exact ⟨aq9,aq0⟩
   rw [if_pos c3] at H
   have c3b0:=decide_eq_true c3
   clear c3
   by_cases c4:x4_1 > 0
   rotate_left
   ·rw [if_neg c4] at H
    have c4b0:=decide_eq_false c4
    clear c4
    obtain ⟨ji14,hji14⟩:∃ j_:Int,(wrap64 (x4_1 * a0_0)) = j_:=⟨_,rfl⟩
    first | rw [hji14] at H | simp only [hji14] at H
    have hji14w:(IntKind.i64.wrap (x4_1 * a0_0)) = ji14:=(i64_w _).trans hji14
    replace H:=gd H
    obtain ⟨c15,H⟩:=H
    have c15b0:=eq_true c15
    have c15b1:=decide_eq_true c15
    clear c15
    replace H:=gd H
    obtain ⟨c16,H⟩:=H
    have c16b0:=eq_true c16
    have c16b1:=decide_eq_true c16
    replace H:=gd H
    obtain ⟨c17,H⟩:=H
    have c17b0:=eq_true c17
    have c17b1:=decide_eq_true c17
    replace H:=gd H
    obtain ⟨c18,H⟩:=H
    have c18b0:=eq_true c18
    have c18b1:=decide_eq_true c18
    try have c18b2:(9223372036854775807 < x3_1.size + (strOfNums ((l0_2.take ((wrap64 ((wrap64 (x4_1 + 1)) * a0_0)):Int).toNat).drop ((ji14):Int).toNat)).size) = False:=eq_false (Nat.not_lt.2 c18)
    have H':=am H
    clear H
    obtain ⟨hcz19_0,hcz19_1,hcz19_2,hfz19_0,hfz19_1,hfz19_2⟩:=blk3_ BK101.out
    obtain ⟨i020,hi020,_,hsz20,_⟩:=info_parts info5
    obtain ⟨A20,hcut20,hA20,hC20⟩:=print_mid_of (P:=Tryz.prog) (Value.int .u8) 0 63 5 .i64 .i64 Tryz.underlying63 hi020 hsz20 A0_2 c0_2 l0_2 (ji14) (wrap64 ((wrap64 (x4_1 + 1)) * a0_0)) (of_decide_eq_true aq4) (by first | omega | exact of_decide_eq_true aq4) (of_decide_eq_true aq4) HC0_2.out
    have HR103:=am (Kd.C_of_reads (h1:=fun _=>rfl) (hA20 _ (Kd.reads_of_C HR0_2.out)))
    have HC103:=am hC20
    clear hA20 hC20 hi020 hsz20
    have hcv21:=Kd.C_string (P:=Tryz.prog) (A:=A20) (c:=(c0_2 - (ji14).toNat)) Tryz.underlying63 Tryz.underlying5 Tryz.underlying9 (Kd.C_below HR103.out HB.out)
    (try rw [List.length_drop,List.length_take,Nat.min_eq_left (Int.toNat_le.2 (of_decide_eq_true aq4))] at hcv21)
    go_wp2
    go_roundg k1
    case measure=>have:=HK1.out;omega
    case rel=>exact ⟨(x3_1 ++ (strOfNums ((l0_2.take ((wrap64 ((wrap64 (x4_1 + 1)) * a0_0)):Int).toNat).drop ((ji14):Int).toNat))),(wrap64 (x4_1 + 1)),(by first | rfl | (simp;done) | (simp only [← hji14] <;> (first | rfl | simp)) | (simp [*];done)),aq6,H',⟨aq56⟩,⟨aq2⟩,⟨aq0⟩⟩
   rw [if_pos c4] at H
   have c4b0:=decide_eq_true c4
   clear c4
   replace H:=gd H
   obtain ⟨c5,H⟩:=H
   have c5b0:=eq_true c5
   have c5b1:=decide_eq_true c5
   try have c5b2:(9223372036854775807 < x3_1.size + 1) = False:=eq_false (Nat.not_lt.2 c5)
   obtain ⟨ji6,hji6⟩:∃ j_:Int,(wrap64 (x4_1 * a0_0)) = j_:=⟨_,rfl⟩
   first | rw [hji6] at H | simp only [hji6] at H
   have hji6w:(IntKind.i64.wrap (x4_1 * a0_0)) = ji6:=(i64_w _).trans hji6
   replace H:=gd H
   obtain ⟨c7,H⟩:=H
   have c7b0:=eq_true c7
   have c7b1:=decide_eq_true c7
   clear c7
   replace H:=gd H
   obtain ⟨c8,H⟩:=H
   have c8b0:=eq_true c8
   have c8b1:=decide_eq_true c8
   replace H:=gd H
   obtain ⟨c9,H⟩:=H
   have c9b0:=eq_true c9
   have c9b1:=decide_eq_true c9
   replace H:=gd H
   obtain ⟨c10,H⟩:=H
   have c10b0:=eq_true c10
   have c10b1:=decide_eq_true c10
   try have c10b2:(9223372036854775807 < (x3_1 ++ (⟨#[47]⟩:ByteArray)).size + (strOfNums ((l0_2.take ((wrap64 ((wrap64 (x4_1 + 1)) * a0_0)):Int).toNat).drop ((ji6):Int).toNat)).size) = False:=eq_false (Nat.not_lt.2 c10)
   have H':=am H
   clear H
   obtain ⟨hcz11_0,hcz11_1,hcz11_2,hfz11_0,hfz11_1,hfz11_2⟩:=blk3_ BK101.out
   obtain ⟨i012,hi012,_,hsz12,_⟩:=info_parts info5
   obtain ⟨A12,hcut12,hA12,hC12⟩:=print_mid_of (P:=Tryz.prog) (Value.int .u8) 0 63 5 .i64 .i64 Tryz.underlying63 hi012 hsz12 A0_2 c0_2 l0_2 (ji6) (wrap64 ((wrap64 (x4_1 + 1)) * a0_0)) (of_decide_eq_true aq4) (by first | omega | exact of_decide_eq_true aq4) (of_decide_eq_true aq4) HC0_2.out
   have HR102:=am (Kd.C_of_reads (h1:=fun _=>rfl) (hA12 _ (Kd.reads_of_C HR0_2.out)))
   have HC102:=am hC12
   clear hA12 hC12 hi012 hsz12
   have hcv13:=Kd.C_string (P:=Tryz.prog) (A:=A12) (c:=(c0_2 - (ji6).toNat)) Tryz.underlying63 Tryz.underlying5 Tryz.underlying9 (Kd.C_below HR102.out HB.out)
   (try rw [List.length_drop,List.length_take,Nat.min_eq_left (Int.toNat_le.2 (of_decide_eq_true aq4))] at hcv13)
   go_wp2
   go_roundg k1
   case measure=>have:=HK1.out;omega
   case rel=>exact ⟨((x3_1 ++ (⟨#[47]⟩:ByteArray)) ++ (strOfNums ((l0_2.take ((wrap64 ((wrap64 (x4_1 + 1)) * a0_0)):Int).toNat).drop ((ji6):Int).toNat))),(wrap64 (x4_1 + 1)),(by first | rfl | (simp;done) | (simp only [← hji6] <;> (first | rfl | simp)) | (simp [*];done)),aq6,H',⟨aq56⟩,⟨aq2⟩,⟨aq0⟩⟩
end Go.Proofs.YtldhkbiomingbaaGreatDoor.F

namespace Go.Proofs.YtldhkbiomingbaaGreatDoor.F
open Go.RowKit Go.Proofs.YtldhkbiomingbaaGreatDoor Go.YW.PrintWords
theorem w64t {n:Nat} (h:n ≤ 9223372036854775807):wrap64 (n:Int) = n:=w64 o_m o_m
theorem flatten_snoc {α:Type} (f:Nat → List α) (n:Nat):((List.range (n + 1)).map f).flatten = ((List.range n).map f).flatten ++ f n:=by
 rw [List.range_succ,List.map_append,List.flatten_append];simp
theorem map_snoc {α:Type} (f:Nat → α) (n:Nat):(List.range (n + 1)).map f = (List.range n).map f ++ [f n]:=by
 rw [List.range_succ,List.map_append];rfl
def textB (g:(Nat × Nat × List Int)):ByteArray:=strOfNums (textG g)
theorem strOfNums_app (a b:List Int):strOfNums (a ++ b) = strOfNums a ++ strOfNums b:=by
 apply ByteArray.ext
 rw [ByteArray.data_append]
 unfold strOfNums
 simp
theorem strOfNums_len (l:List Int):(strOfNums l).size = l.length:=by
 show ((l.map fun n=>UInt8.ofNat n.toNat).toArray).size = _
 simp
theorem bytesOf_str {l:List Int} (h:∀ c ∈ l,0 ≤ c ∧ c < 256):bytesOf (strOfNums l) = l:=by
 unfold bytesOf strOfNums
 simp only [List.map_map]
 apply List.ext_getElem
 ·simp
 ·intro i a b
  have:=h _ (List.getElem_mem b)
  simp only [List.getElem_map,Function.comp,UInt8.toNat_ofNat']
  omega
theorem joinI_snoc:∀ (rs:List (List Int)) (r:List Int),rs ≠ [] → joinI (rs ++ [r]) = joinI rs ++ 47 :: r
 | [],r,h=>absurd rfl h
 | [a],r,_=>rfl
 | a :: b :: rs,r,_=>by
  have ih:=joinI_snoc (b :: rs) r (by simp)
  show a ++ 47 :: joinI ((b :: rs) ++ [r]) = (a ++ 47 :: joinI (b :: rs)) ++ 47 :: r
  rw [ih];simp
theorem joinI_mem:∀ (rs:List (List Int)) {c:Int},c ∈ joinI rs → c = 47 ∨ ∃ r ∈ rs,c ∈ r
 | [],c,h=>by cases h
 | [a],c,h=>.inr ⟨a,by simp,h⟩
 | a :: b :: rs,c,h=>by
  rw [joinI] at h
  rcases List.mem_append.1 h with h | h
  ·exact .inr ⟨a,by simp,h⟩
  ·rcases List.mem_cons.1 h with h | h
   ·exact .inl h
   ·rcases joinI_mem (b :: rs) h with h | ⟨r,hr,hc⟩
    ·exact .inl h
    ·exact .inr ⟨r,List.mem_cons_of_mem _ hr,hc⟩
theorem cell_byte {c:Int} (h:isCellC c = true):0 ≤ c ∧ c < 256:=by
 unfold isCellC isBallC isNameC at h
 simp at h
 omega
theorem textG_byte {g:(Nat × Nat × List Int)} (v:Vg g):∀ c ∈ textG g,0 ≤ c ∧ c < 256:=by
 intro c hc
 rcases joinI_mem _ hc with h | ⟨r,hr,hcr⟩
 ·omega
 ·exact cell_byte (v.cell c ((rowsOf_mem v.len hr).2 c hcr))
theorem bytesOf_textB {g:(Nat × Nat × List Int)} (v:Vg g):bytesOf (textB g) = textG g:=bytesOf_str (textG_byte v)
theorem textB_inj {g k:(Nat × Nat × List Int)} (hg:Vg g) (hk:Vg k) (h:textB g = textB k):g = k :=
 textG_inj hg hk (by rw [← bytesOf_textB hg,← bytesOf_textB hk,h])
theorem grid_textB {g:(Nat × Nat × List Int)} (v:Vg g):tyGrid (bytesOf (textB g)) = some g:=by rw [bytesOf_textB v];exact tyGrid_text v
theorem textB_grid {s:ByteArray} {g:(Nat × Nat × List Int)} (h:tyGrid (bytesOf s) = some g):Vg g ∧ textB g = s:=by
 obtain ⟨w,hh,cs⟩:=g
 obtain ⟨v,e⟩:=tyGrid_VG h
 exact ⟨v,bytesOf_inj (by rw [bytesOf_textB (g:=(w,hh,cs)) v];exact e)⟩
theorem textG_small {g:(Nat × Nat × List Int)} (v:Vg g):(textG g).length ≤ 42:=by
 have h1:=joinI_length (rowsOf g.1 g.2.1 g.2.2) (rowsOf_ne v.h1)
 rw [rowsOf_flatten _ _ _ v.len,rowsOf_length,v.len] at h1
 have:=v.small
 have:=v.h7
 show (joinI (rowsOf g.1 g.2.1 g.2.2)).length ≤ 42
 omega
theorem textB_small {g:(Nat × Nat × List Int)} (v:Vg g):(textB g).size ≤ 42:=by
 rw [textB,strOfNums_len];exact textG_small v
theorem flat_len (w:Nat) (cs:List Int):∀ i,(rowsOf w i cs).flatten.length ≤ i * w
 | 0=>by simp [rowsOf]
 | i + 1=>by
  have ih:=flat_len w cs i
  unfold rowsOf at ih ⊢
  rw [flatten_snoc,List.length_append,List.length_take,Nat.succ_mul]
  omega
theorem text_ev_l0 {w h:Nat} {cs:List Int} (hw:w ≤ 20) (hh:h ≤ 20) (hl:cs.length = w * h):∀ (d i:Nat),i + d = h →
  Ev (fun k=>spec_tyText.l0 k (strOfNums (joinI (rowsOf w i cs))) i w h cs) (strOfNums (joinI (rowsOf w h cs)))
 | 0,i,hi=>by
  obtain rfl:i = h:=by omega
  refine Ev.step (f:=fun _=>some _) (fun k=>?_) (Ev.now _)
  rw [spec_tyText.l0,if_neg o_m]
 | d + 1,i,hi=>by
  have ih:=text_ev_l0 hw hh hl d (i + 1) o_m
  have hwh:w * h ≤ 400:=Nat.mul_le_mul hw hh
  have hi2:(i + 1) * w ≤ w * h:=by rw [Nat.mul_comm w h];exact Nat.mul_le_mul_right w o_m
  have hi3:(i + 1) * w = i * w + w:=by rw [Nat.add_mul,Nat.one_mul]
  have hrow:(cs.take ((i + 1) * w)).drop (i * w) = (cs.drop (i * w)).take w:=by rw [List.drop_take];congr 1;omega
  have hrl:(strOfNums ((cs.drop (i * w)).take w)).size = w:=by rw [strOfNums_len,List.length_take,List.length_drop];omega
  have hsz:(strOfNums (joinI (rowsOf w i cs))).size ≤ 1000:=by
   rw [strOfNums_len]
   rcases Nat.eq_zero_or_pos i with h0 | h0
   ·subst h0;simp [rowsOf,joinI]
   ·have h1:=joinI_length (rowsOf w i cs) (rowsOf_ne h0)
    have h2:(rowsOf w i cs).flatten.length ≤ 400:=by
     exact Nat.le_trans (flat_len w cs i) (Nat.le_trans (Nat.mul_le_mul (show i ≤ 20 by omega) hw) d_c)
    rw [rowsOf_length] at h1
    omega
  have hnext:strOfNums (joinI (rowsOf w (i + 1) cs)) = if 0 < i then (strOfNums (joinI (rowsOf w i cs)) ++ (⟨#[47]⟩:ByteArray)) ++ strOfNums ((cs.drop (i * w)).take w) else strOfNums (joinI (rowsOf w i cs)) ++ strOfNums ((cs.drop (i * w)).take w):=by
   have hs:rowsOf w (i + 1) cs = rowsOf w i cs ++ [(cs.drop (i * w)).take w]:=map_snoc _ i
   rw [hs]
   rcases Nat.eq_zero_or_pos i with h0 | h0
   ·subst h0
    rw [if_neg o_m]
    rw [← strOfNums_app];rfl
   ·rw [if_pos h0,joinI_snoc _ _ (rowsOf_ne h0),show (47 :: (cs.drop (i * w)).take w:List Int) = [47] ++ (cs.drop (i * w)).take w from rfl,← List.append_assoc,strOfNums_app,strOfNums_app];rfl
  rw [hnext] at ih
  refine Ev.step (fun k=>?_) ih
  have e1:wrap64 ((i:Int) * w) = ((i * w:Nat):Int):=by rw [← Int.natCast_mul];exact w64t o_m
  have e2:wrap64 ((((i + 1:Nat):Int)) * w) = (((i + 1) * w:Nat):Int):=by rw [← Int.natCast_mul];exact w64t (by clear e1;omega)
  have e3:wrap64 ((i:Int) + 1) = ((i + 1:Nat):Int):=w64t (n:=i + 1) (by clear e1 e2;omega)
  rw [spec_tyText.l0,e3,e1,e2]
  clear e1 e2 e3
  rw [if_pos o_m]
  by_cases h0:(i:Int) > 0
  rotate_left
  ·rw [if_neg h0,if_pos o_m,if_pos o_m,if_pos o_m,Int.toNat_natCast,Int.toNat_natCast,hrow,if_pos,if_neg (show ¬ 0 < i by omega)]
   rw [hrl];omega
  rw [if_pos h0,if_pos o_m,if_pos o_m,if_pos o_m,if_pos o_m,Int.toNat_natCast,Int.toNat_natCast,hrow,if_pos,if_pos (show 0 < i by omega)]
  rw [ByteArray.size_append,hrl]
  show (strOfNums (joinI (rowsOf w i cs))).size + 1 + w ≤ _
  omega
theorem spec_text_ev {w h:Nat} {cs:List Int} (hw:w ≤ 20) (hh:h ≤ 20) (hl:cs.length = w * h):Ev (fun k=>spec_tyText.f k w h cs) (textB (w,h,cs)):=by
 have h1:=text_ev_l0 hw hh hl h 0 o_m
 exact Ev.congr (fun k=>by rfl) h1
theorem join_strs:∀ rs:List (List Int),Lib.join ((rs.map strOfNums).map (·.data.toList)) [47] = (joinI rs).map fun n=>UInt8.ofNat n.toNat
 | []=>rfl
 | [a]=>by simp [Lib.join,joinI,strOfNums]
 | a :: b :: rs=>by
  have ih:=join_strs (b :: rs)
  rw [joinI]
  unfold Lib.join List.intercalate at ih ⊢
  simp only [List.map_cons] at ih ⊢
  rw [List.intersperse,List.flatten_cons,List.flatten_cons,ih]
  ·simp [strOfNums]
  all_goals simp
theorem impl_text_eq {g:(Nat × Nat × List Int)} (v:Vg g):impl_tray_text.f g.1 g.2.1 g.2.2 = some (textB g):=by
 obtain ⟨w,h,cs⟩:=g
 have hl:cs.length = w * h:=v.len
 have hw1:1 ≤ w:=v.w1
 have hw7:w ≤ 7:=v.w7
 have hh1:1 ≤ h:=v.h1
 have hs:w * h ≤ 36:=v.small
 have h0:0 < w * h:=Nat.mul_pos hw1 hh1
 have hd:cs.length / w = h:=by rw [hl,Nat.mul_div_cancel_left h o_m]
 have hck:chunksB w cs = (rowsOf w h cs).map strOfNums:=by
  unfold chunksB rowsOf
  rw [hd,List.map_map];rfl
 have htl:=textG_small v
 have hj:=join_strs (rowsOf w h cs)
 have hjl:(joinI (rowsOf w h cs)).length ≤ 42:=htl
 show impl_tray_text.f w h cs = _
 unfold impl_tray_text.f
 rw [if_pos ⟨by omega,by omega,by omega,by rw [Int.toNat_natCast,hl];exact Nat.mul_mod_right w h,by omega⟩,Int.toNat_natCast,hck]
 unfold strings_Join.f
 rw [if_pos]
 ·unfold joinB
  show some (⟨(Lib.join (((rowsOf w h cs).map strOfNums).map (·.data.toList)) [47]).toArray⟩:ByteArray) = _
  rw [hj];rfl
 ·refine ⟨by rw [List.length_map,rowsOf_length];have:=v.h7;simp only at this;omega,?_⟩
  show (Lib.join (((rowsOf w h cs).map strOfNums).map (·.data.toList)) [47]).length ≤ _
  rw [hj,List.length_map]
  omega
end Go.Proofs.YtldhkbiomingbaaGreatDoor.F

namespace Go.Proofs.YtldhkbiomingbaaGreatDoor
open Go
theorem gtr_run (P:Program) (t:TypeId) (a b:ByteArray) (W:World):(binOp .gtr t (.string a) (.string b)).run P W = .ok (.bool (Op.bytesLess b.toList a.toList)) W:=by
 have e:(!(Op.bytesLess a.toList b.toList || (a.toList == b.toList))) = Op.bytesLess b.toList a.toList:=by
  rw [Proofs.bytesLess_eq,Proofs.bytesLess_eq]
  generalize a.toList = x
  generalize b.toList = y
  by_cases h1:x < y
  ·rw [decide_eq_true h1,decide_eq_false (fun h2=>List.lt_irrefl _ (List.lt_trans h1 h2))];rfl
  by_cases h2:y < x
  ·rw [decide_eq_false h1,decide_eq_true h2,beq_eq_false_iff_ne.2 (fun e=>by subst e;exact h1 h2)];rfl
  have:x = y:=List.le_antisymm (List.not_lt.1 h2) (List.not_lt.1 h1)
  rw [decide_eq_false h1,decide_eq_false h2,this,beq_self_eq_true];rfl
 rw [← e]
 simp only [binOp,Op.stringOp]
 rfl
end Go.Proofs.YtldhkbiomingbaaGreatDoor

namespace Go.Proofs.YtldhkbiomingbaaGreatDoor.F
open Go.Proofs.YtldhkbiomingbaaGreatDoor
open Go.RowKit Go.YW.PrintWords Go.YW.PrintLast Go.YW.PrintMore
attribute [local go_sem] max2_int min2_int max_two min_two max_three min_three max_four min_four
def spec_l1OwnS.f (l0:List ByteArray):Option (List ByteArray):=(some (([]:List ByteArray):List ByteArray)).bind fun y101=>(if y101.length + l0.length < 8796093022208 then (some (y101 ++ l0)) else (none))
theorem spec_l1OwnS.calls (A0:Option Addr) (c0:Nat) (l0:List ByteArray) (r:List ByteArray) (w:World) (hr0:Kd.C Kd.string w A0 l0.length l0) (hc0:l0.length ≤ c0) (h:spec_l1OwnS.f l0 = some r) :
  Calls Tryz.prog 84 #[.slice A0 l0.length c0] w fun e w'=>∃ v0_:Value,e = .returned (v0_) ∧ Kd.R Kd.string 9 w' w.heap.size (fun _=>True) v0_ r ∧ Below w.heap.size w w':=by
 have HR0:=am hr0
 have HC0:=am hc0
 clear hr0 hc0
 have HB:=am (Below.refl w.heap.size w)
 have H:((some (([]:List ByteArray):List ByteArray)).bind fun y101=>(if y101.length + l0.length < 8796093022208 then (some (y101 ++ l0)) else (none))) = some r:=h
 clear h
 obtain ⟨y101,hy_⟩:∃ y_:List ByteArray,y_ = (([]:List ByteArray)):=⟨_,rfl⟩
 replace H:(if y101.length + l0.length < 8796093022208 then (some (y101 ++ l0)) else (none)) = some r:=aq3
 have Ny101:=am hy_
 clear hy_
 replace H:=gd H
 obtain ⟨c2,H⟩:=H
 have LMc2:=am c2
 clear c2
 obtain ⟨y104,hy_⟩:∃ y_:List ByteArray,y_ = (y101 ++ l0):=⟨_,rfl⟩
 replace H:(some y104) = some r:=aq3
 have Ny104:=am hy_
 clear hy_
 obtain rfl:=Option.some.inj H
 go_enter Tryz.func84,Tryz.ntmps84
 go_wp2_with (first | ((with_reducible refine gate_dst (N:=3) rfl ?_);refine Kd.R_lit Kd.string _ 9 ?hg (N:=3) ?hd (xs:=([]:List ByteArray)) (inner:=[]) (ok:=fun _=>True) (okp:=fun _=>True) ?hr ?hp (fun _ hk=>hk) trivial (Below.refl _ _) (Nat.le_refl _) (by simp) ?_;(case hd=>rfl);(case hg=>rfl);(case hr=>exact aq12);(case hp=>exact aq79);intro v102 w3 ho4 hb hg_ hnew_;clear hg_ hnew_;(first | rw [← Ny101.out] at ho4 | (simp only [Int.reduceToNat] at ho4;rw [← Ny101.out] at ho4));have HO103:=am (Kd.R_lower ho4 (below_size aq1));replace HB:=am (below_step aq1 hb);clear hb ho4) | ((with_reducible refine gate_builtin (b:=.append) (xs:=#[.tmp 3,.tmp 4]) rfl ?_);at_builtin;refine Kd.R_append_rows Kd.string (w0:=w) w.heap.size rfl (.tmp 3) (.tmp 4) 35 9 (.string ⟨#[]⟩) 16 rfl Tryz.underlying35 info9 rfl d_c o_m v102 y101 l0 _ _ _ (fun _=>True) (fun _=>False) rfl rfl ?aO ?aR (fun _ _ h=>h) (fun _ h=>h.elim) ?aF ?aB ?aS ?aL ?_;(case aR=>repeat (first | exact (Kd.C_below HR0.out HB.out) | (with_reducible refine Kd.C_alloc ?_ _) | (with_reducible refine Kd.C_drewN ?_ _) | (with_reducible refine Kd.C_drew ?_)));(case aB=>exact aq1);(case aF=>exact aq50);(case aO=>exact aq58);(case aS=>exact (below_size aq1));(case aL=>have:=LMc2.out;omega);intro v105 w5 ho hb hg hat;rw [← Ny104.out] at ho;replace HB:=am (hb);have HO106:=am (ho);clear HO103 ho hb hg hat))
 go_ret
 exact ⟨_,aq9,by (with_reducible repeat (first | apply Kd.R_alloc | apply Kd.R_drewN | apply Kd.R_drew));exact HO106.out,aq1⟩
mutual
def spec_reSorted.l0:Nat → List ByteArray → List ByteArray → Int → Int → Option (List ByteArray)
 | 0,_,_,_,_=>none
 | k + 1,x3,x8,x9,x10=>if x10 < x9 then (if 0 ≤ x10 then (if x10 < (x8.length:Int) then (spec_reSorted.l1 k x3 (rdOf ByteArray.empty x8 x10) (x3.length:Int) x8 x9 x10) else (none)) else (none)) else (some x3)
def spec_reSorted.l1:Nat → List ByteArray → ByteArray → Int → List ByteArray → Int → Int → Option (List ByteArray)
 | 0,_,_,_,_,_,_=>none
 | k + 1,x3,x5,x6,x8,x9,x10=>if x6 > 0 then (if 0 ≤ (wrap64 (x6 - 1)) then (if (wrap64 (x6 - 1)) < (x3.length:Int) then (if (Op.bytesLess x5.toList ((rdOf ByteArray.empty x3 (wrap64 (x6 - 1))).toList)) = true then (spec_reSorted.l1 k x3 x5 (wrap64 (x6 - 1)) x8 x9 x10) else (if 0 ≤ x6 then (if x6 ≤ (x3.length:Int) then ((spec_l1OwnS.f (x3.take (x6:Int).toNat)).bind fun t107=>(if t107.length < 8796093022208 then ((some (t107 ++ [x5]:List ByteArray)).bind fun y110=>((some (x3.drop (x6:Int).toNat:List ByteArray)).bind fun y113=>(if y110.length + y113.length < 8796093022208 then (spec_reSorted.l0 k (y110 ++ y113) x8 x9 (wrap64 (x10 + 1))) else (none)))) else (none))) else (none)) else (none))) else (none)) else (none)) else (if 0 ≤ x6 then (if x6 ≤ (x3.length:Int) then ((spec_l1OwnS.f (x3.take (x6:Int).toNat)).bind fun t124=>(if t124.length < 8796093022208 then ((some (t124 ++ [x5]:List ByteArray)).bind fun y127=>((some (x3.drop (x6:Int).toNat:List ByteArray)).bind fun y130=>(if y127.length + y130.length < 8796093022208 then (spec_reSorted.l0 k (y127 ++ y130) x8 x9 (wrap64 (x10 + 1))) else (none)))) else (none))) else (none)) else (none))
end
def spec_reSorted.f (k:Nat) (l0:List ByteArray):Option (List ByteArray):=spec_reSorted.l0 k ([]:List ByteArray) l0 (l0.length:Int) 0
theorem spec_reSorted.mono_l:∀ k,(∀ y0 y1 y2 y3,LeO (spec_reSorted.l0 k y0 y1 y2 y3) (spec_reSorted.l0 (k + 1) y0 y1 y2 y3)) ∧ (∀ y0 y1 y2 y3 y4 y5,LeO (spec_reSorted.l1 k y0 y1 y2 y3 y4 y5) (spec_reSorted.l1 (k + 1) y0 y1 y2 y3 y4 y5))
 | 0=>⟨fun _ _ _ _ r h=>by simp [spec_reSorted.l0] at h,fun _ _ _ _ _ _ r h=>by simp [spec_reSorted.l1] at h⟩
 | k + 1=>by
  obtain ⟨ih0,ih1⟩:=spec_reSorted.mono_l k
  refine ⟨?_,?_⟩
  ·intro y0 y1 y2 y3
   unfold spec_reSorted.l0
   exact mo
  ·intro y0 y1 y2 y3 y4 y5
   unfold spec_reSorted.l1
   exact mo
theorem spec_reSorted.calls (k:Nat) (A0:Option Addr) (c0:Nat) (l0:List ByteArray) (r:List ByteArray) (w:World) (hr0:Kd.C Kd.string w A0 l0.length l0) (hc0:l0.length ≤ c0) (h:spec_reSorted.f k l0 = some r) :
  Calls Tryz.prog 73 #[.slice A0 l0.length c0] w fun e w'=>∃ v0_:Value,e = .returned (v0_) ∧ Kd.R Kd.string 9 w' w.heap.size (fun _=>True) v0_ r ∧ Below w.heap.size w w':=by
 have hgt_:∀ (a b:ByteArray) (W:World),(binOp .gtr 9 (.string a) (.string b)).run Tryz.prog W = .ok (.bool (Op.bytesLess b.toList a.toList)) W:=fun a b W=>gtr_run _ _ a b W
 have HR0:=am hr0
 have HC0:=am hc0
 clear hr0 hc0
 have HB:=am (Below.refl w.heap.size w)
 have H:(spec_reSorted.l0 k ([]:List ByteArray) l0 (l0.length:Int) 0) = some r:=h
 clear h
 have H':=am H
 clear H
 go_enter Tryz.func73,Tryz.ntmps73
 go_wp2
 go_loopg [3,10] k (fun kq v3 v10 w'=>∃ (x3_1:List ByteArray) (x10_1:Int),v10 = .int .i64 x10_1 ∧ Aside0 (spec_reSorted.l0 kq x3_1 l0 (l0.length:Int) x10_1 = some r) ∧ Aside0 (kq ≤ k) ∧ Aside0 (Kd.R Kd.string 9 w' w.heap.size (fun _=>True) v3 x3_1) ∧ Aside0 (Below w.heap.size w w'))
 case atStart=>exact ⟨(([]:List ByteArray)),(0),aq6,H',⟨Nat.le_refl _⟩,⟨aq19⟩,⟨aq1⟩⟩
 case round =>
  clear H'
  obtain ⟨x3_1,x10_1,rfl,HA,HK1,HO_3,HB⟩:=hrel
  cases gk with
  | zero=>exact absurd HA.out (by simp [spec_reSorted.l0])
  | succ k1 =>
   have H:=HA.out
   clear HA
   simp only [spec_reSorted.l0] at H
   by_cases c2:x10_1 < (l0.length:Int)
   rotate_left
   ·rw [if_neg c2] at H
    have c2b0:=decide_eq_false c2
    clear c2
    obtain rfl:=Option.some.inj H
    go_wp2
    go_ret
    exact ⟨_,aq9,aq10,aq1⟩
   rw [if_pos c2] at H
   have c2b0:=decide_eq_true c2
   clear c2
   replace H:=gd H
   obtain ⟨c3,H⟩:=H
   have c3b0:=decide_eq_true c3
   clear c3
   replace H:=gd H
   obtain ⟨c4,H⟩:=H
   have c4b0:=decide_eq_true c4
   clear c4
   have H':=am H
   clear H
   have p101:0 ≤ (x10_1:Int):=of_decide_eq_true aq4
   have q101:x10_1 < (l0.length:Int):=of_decide_eq_true aq4
   obtain ⟨ad101,e101,hx101_0⟩:=Kd.at_string HR0.out x10_1 p101 q101
   cases e101
   try replace hx101_0:=(HB.out.cell (World.block_lt_of_cell? w _ hx101_0)).trans hx101_0
   replace p101:=eq_true p101
   replace q101:=eq_true q101
   obtain ⟨Ao5,co5,eo5⟩:=Kd.R_slice HO_3.out
   subst eo5
   go_wp2
   go_loopg [6] k1 (fun kq v6 w'=>∃ (x6_2:Int),v6 = .int .i64 x6_2 ∧ Aside0 (spec_reSorted.l1 kq x3_1 (rdOf ByteArray.empty l0 x10_1) x6_2 l0 (l0.length:Int) x10_1 = some r) ∧ Aside0 (kq ≤ k1) ∧ Aside0 (Kd.R Kd.string 9 w' w.heap.size (fun _=>True) (.slice Ao5 x3_1.length co5) x3_1) ∧ Aside0 (Below w.heap.size w w'))
   case atStart=>exact ⟨((x3_1.length:Int)),aq6,H',⟨Nat.le_refl _⟩,⟨aq10⟩,⟨aq1⟩⟩
   case round =>
    clear H'
    try clear p1
    try clear q1
    try clear hx1
    try clear c2
    try clear c2b0
    try clear p2
    try clear c3
    try clear c3b0
    try clear c4
    try clear c4b0
    try clear hx101_0
    try clear p101
    try clear q101
    obtain ⟨x6_2,rfl,HA,HK2,HO_3,HB⟩:=hrel
    cases gk with
    | zero=>exact absurd HA.out (by simp [spec_reSorted.l1])
    | succ k2 =>
     have H:=HA.out
     clear HA
     simp only [spec_reSorted.l1] at H
     by_cases c6:x6_2 > 0
     rotate_left
     ·rw [if_neg c6] at H
      have c6b0:=decide_eq_false c6
      clear c6
      replace H:=gd H
      obtain ⟨c23,H⟩:=H
      have c23b0:=eq_true c23
      have c23b1:=decide_eq_true c23
      clear c23
      replace H:=gd H
      obtain ⟨c24,H⟩:=H
      have c24b0:=eq_true c24
      have c24b1:=decide_eq_true c24
      clear c24
      obtain ⟨y120,hy_⟩:∃ y_:List ByteArray,y_ = (x3_1.take (x6_2:Int).toNat):=⟨_,rfl⟩
      replace H:((spec_l1OwnS.f y120).bind fun t124=>(if t124.length < 8796093022208 then ((some (t124 ++ [(rdOf ByteArray.empty l0 x10_1)]:List ByteArray)).bind fun y127=>((some (x3_1.drop (x6_2:Int).toNat:List ByteArray)).bind fun y130=>(if y127.length + y130.length < 8796093022208 then (spec_reSorted.l0 k2 (y127 ++ y130) l0 (l0.length:Int) (wrap64 (x10_1 + 1))) else (none)))) else (none))) = some r:=aq3
      have Ny120:=am hy_
      clear hy_
      obtain ⟨t124,A25,H⟩:=bn H
      replace H:=gd H
      obtain ⟨c26,H⟩:=H
      have LMc26:=am c26
      clear c26
      obtain ⟨y127,hy_⟩:∃ y_:List ByteArray,y_ = (t124 ++ [(rdOf ByteArray.empty l0 x10_1)]):=⟨_,rfl⟩
      replace H:((some (x3_1.drop (x6_2:Int).toNat:List ByteArray)).bind fun y130=>(if y127.length + y130.length < 8796093022208 then (spec_reSorted.l0 k2 (y127 ++ y130) l0 (l0.length:Int) (wrap64 (x10_1 + 1))) else (none))) = some r:=aq3
      have Ny127:=am hy_
      clear hy_
      have c27b0:=eq_true (of_decide_eq_true aq4:0 ≤ x6_2)
      have c28b0:=eq_true (of_decide_eq_true aq4:x6_2 ≤ (x3_1.length:Int))
      obtain ⟨y130,hy_⟩:∃ y_:List ByteArray,y_ = (x3_1.drop (x6_2:Int).toNat):=⟨_,rfl⟩
      replace H:(if y127.length + y130.length < 8796093022208 then (spec_reSorted.l0 k2 (y127 ++ y130) l0 (l0.length:Int) (wrap64 (x10_1 + 1))) else (none)) = some r:=aq3
      have Ny130:=am hy_
      clear hy_
      replace H:=gd H
      obtain ⟨c29,H⟩:=H
      have LMc29:=am c29
      clear c29
      obtain ⟨y134,hy_⟩:∃ y_:List ByteArray,y_ = (y127 ++ y130):=⟨_,rfl⟩
      replace H:(spec_reSorted.l0 k2 y134 l0 (l0.length:Int) (wrap64 (x10_1 + 1))) = some r:=aq3
      have Ny134:=am hy_
      clear hy_
      have H':=am H
      clear H
      have q30:(x6_2:Int) ≤ ((x3_1.length:Int):Int):=of_decide_eq_true aq4
      obtain ⟨i030,hi030,_,hsz30,_⟩:=info_parts info9
      have hroom30:x3_1.length ≤ co5:=(Kd.R_reads' HO_3.out).2.1
      have hC30:Kd.C Kd.string _ Ao5 x3_1.length x3_1:=(Kd.R_reads' HO_3.out).2.2
      have hcut30:=cut_to (P:=Tryz.prog) 35 9 .i64 Tryz.underlying35 hi030 Ao5 x3_1.length co5 x6_2 (of_decide_eq_true aq4) q30 hroom30
      have hr30:=Kd.C_take (m:=(x6_2:Int).toNat) hC30 o_m
      have hy30:y120.length = (x6_2:Int).toNat:=(by rw [Ny120.out,List.length_take];omega)
      rw [← Ny120.out] at hr30
      rw [← hy30] at hcut30
      have HR123:=am hr30
      have HC123:=am (show y120.length ≤ co5 from by omega)
      clear hr30 hC30 hroom30 hi030 hsz30
      have KY30:=am hy30
      clear hy30
      have KL30:=am (show (x6_2:Int).toNat ≤ x3_1.length from by omega)
      replace q30:=eq_true q30
      go_wp2_with (first | ((with_reducible refine gate_callee (f:=84) rfl ?_);refine goesL_ (some 32) rfl rfl Tryz.func84 k_r rfl #[.slice Ao5 y120.length co5] rfl aq8 ?_;(with_reducible refine (spec_l1OwnS.calls _ _ y120 t124 _ ?side1 ?side2 A25.out).mono ?_);(case side1=>repeat (first | exact aq60 | (with_reducible refine Kd.C_alloc ?_ _) | (with_reducible refine Kd.C_drewN ?_ _) | (with_reducible refine Kd.C_drew ?_)));(case side2=>exact HC123.out);rintro e w31 ⟨v125,rfl,ho0,hb⟩;refine ⟨_,rfl,?_⟩;have HO126:=am (Kd.R_lower (Kd.R_new' ho0 (Kd.R_lt aq10)) (below_size aq1));replace HO_3:=am (Kd.R_elder' aq10 (Kd.R_base ho0) hb);replace HR123:=am (Kd.C_below aq60 hb);replace HB:=am (below_step aq1 hb);(try clear hb);(try clear ho0)) | ((with_reducible refine gate_builtin (b:=.append) (xs:=#[.tmp 32,.tmp 34]) rfl ?_);at_builtin;refine Kd.R_append Kd.string (w0:=w) w.heap.size rfl (.tmp 32) (.tmp 34) 35 9 (.string ⟨#[]⟩) 16 rfl Tryz.underlying35 info9 rfl d_c o_m v125 t124 (rdOf ByteArray.empty l0 x10_1) [.string (rdOf ByteArray.empty l0 x10_1)] (fun k_=>some k_ ≠ (.slice Ao5 x3_1.length co5:Value).ownBlock) (fun _=>False) rfl rfl ?aP (fun _ hk=>hk.elim) ?aF ?aO ?aB ?aS ?aL ?_;(case aP=>exact rfl);(case aB=>exact aq1);(case aF=>exact (fun k_ hk=>Kd.fresh' (Kd.R_lt aq10) k_ hk));(case aO=>exact (by (with_reducible repeat (first | apply Kd.R_alloc | apply Kd.R_drewN | apply Kd.R_drew));exact Kd.R_mono HO126.out (fun _ hk=>hk.2)));(case aS=>exact (below_size aq1));(case aL=>have:=LMc26.out;omega);intro v128 w32 ho hb hg hat;rw [← Ny127.out] at ho;replace HB:=am (hb);replace HR123:=am ((show Kd.C Kd.string w32 Ao5 y120.length y120 from by rw [Ny120.out];exact Kd.C_take (m:=(x6_2:Int).toNat) ((Kd.R_reads' (Kd.R_after (ok:=(fun _=>True)) aq10 hg hat)).2.2) KL30.out));replace HO_3:=am (Kd.R_after (ok:=(fun _=>True)) aq10 hg hat);have HO129:=am (ho);clear HO126 ho hb hg hat;have q33:(x6_2:Int) ≤ ((x3_1.length:Int):Int):=of_decide_eq_true aq4;obtain ⟨i033,hi033,_,hsz33,_⟩:=info_parts info9;have hroom33:x3_1.length ≤ co5:=(Kd.R_reads' HO_3.out).2.1;have hC33:Kd.C Kd.string _ Ao5 x3_1.length x3_1:=(Kd.R_reads' HO_3.out).2.2;have q033:(0:Int) ≤ (x6_2:Int):=of_decide_eq_true aq4;have hcut33:=cut_from (P:=Tryz.prog) 35 9 .i64 Tryz.underlying35 hi033 1 hsz33 Ao5 x3_1.length co5 x6_2 q033 q33;have hr33:=Kd.C_drop (m:=(x6_2:Int).toNat) (c:=co5) hC33 o_m hroom33;obtain ⟨A33,hA33⟩:∃ A1,A1 = (if co5 = (x6_2:Int).toNat then Ao5 else (Ao5:Option Addr).map (·.add ((x6_2:Int).toNat * 1))):=⟨_,rfl⟩;obtain ⟨c33,hc33⟩:∃ c1,c1 = co5 - (x6_2:Int).toNat:=⟨_,rfl⟩;have hy33:y130.length = x3_1.length - (x6_2:Int).toNat:=(by rw [Ny130.out,List.length_drop] <;> omega);rw [show (x3_1).drop (x6_2:Int).toNat = y130 from Ny130.out.symm] at hr33;replace hr33:Kd.C Kd.string _ A33 y130.length y130:=(by rw [hA33];exact hr33);rw [← hy33,← hA33,← hc33] at hcut33;have HR133:=am hr33;have HC133:=am (show y130.length ≤ c33 from by rw [hy33,hc33];exact Nat.sub_le_sub_right hroom33 _);clear hr33 hC33 hroom33 hi033 hsz33 hc33;have KY33:=am hy33;have KA33:=am hA33;clear hy33 hA33;have KL33:=am (show (x6_2:Int).toNat ≤ x3_1.length from by omega);replace q33:=eq_true q33) | ((with_reducible refine gate_builtin (b:=.append) (xs:=#[.tmp 36,.tmp 39]) rfl ?_);at_builtin;refine Kd.R_append_rows Kd.string (w0:=w) w.heap.size rfl (.tmp 36) (.tmp 39) 35 9 (.string ⟨#[]⟩) 16 rfl Tryz.underlying35 info9 rfl d_c o_m v128 y127 y130 _ _ _ (fun k_=>some k_ ≠ (.slice Ao5 x3_1.length co5:Value).ownBlock) (fun _=>False) rfl rfl ?aO ?aR (fun _ _ h=>h) (fun _ h=>h.elim) ?aF ?aB ?aS ?aL ?_;(case aR=>repeat (first | exact (by repeat (first | (with_reducible exact HR133.out) | (with_reducible refine Kd.C_alloc ?_ _) | (with_reducible refine Kd.C_drewN ?_ _) | (with_reducible refine Kd.C_drew ?_) | exact HR133.out)) | (with_reducible refine Kd.C_alloc ?_ _) | (with_reducible refine Kd.C_drewN ?_ _) | (with_reducible refine Kd.C_drew ?_)));(case aB=>exact aq1);(case aF=>exact (fun k_ hk=>Kd.fresh' (Kd.R_lt aq10) k_ hk));(case aO=>exact (by (with_reducible repeat (first | apply Kd.R_alloc | apply Kd.R_drewN | apply Kd.R_drew));exact HO129.out));(case aS=>exact (below_size aq1));(case aL=>have:=LMc29.out;omega);intro v135 w34 ho hb hg hat;rw [← Ny134.out] at ho;replace HB:=am (hb);replace HR123:=am ((show Kd.C Kd.string w34 Ao5 y120.length y120 from by rw [Ny120.out];exact Kd.C_take (m:=(x6_2:Int).toNat) ((Kd.R_reads' (Kd.R_after (ok:=(fun _=>True)) aq10 hg hat)).2.2) KL30.out));replace HR133:=am ((show Kd.C Kd.string w34 A33 y130.length y130 from by rw [Ny130.out,KA33.out];exact Kd.C_drop (m:=(x6_2:Int).toNat) (c:=co5) ((Kd.R_reads' (Kd.R_after (ok:=(fun _=>True)) aq10 hg hat)).2.2) KL33.out ((Kd.R_reads' (Kd.R_after (ok:=(fun _=>True)) aq10 hg hat)).2.1)));replace HO_3:=am (Kd.R_after (ok:=(fun _=>True)) aq10 hg hat);have HO136:=am (ho);clear HO129 ho hb hg hat))
      go_roundg k2
      case measure=>have:=HK1.out;have:=HK2.out;omega
      case rel=>exact ⟨(y134),(wrap64 (x10_1 + 1)),aq6,H',⟨aq43⟩,⟨by (with_reducible repeat (first | apply Kd.R_alloc | apply Kd.R_drewN | apply Kd.R_drew));exact Kd.R_mono HO136.out (fun _ hk=>trivial)⟩,⟨aq1⟩⟩
     rw [if_pos c6] at H
     have c6b0:=decide_eq_true c6
     clear c6
     obtain ⟨ji7,hji7⟩:∃ j_:Int,(wrap64 (x6_2 - 1)) = j_:=⟨_,rfl⟩
     first | rw [hji7] at H | simp only [hji7] at H
     have hji7w:(IntKind.i64.wrap (x6_2 - 1)) = ji7:=(i64_w _).trans hji7
     replace H:=gd H
     obtain ⟨c8,H⟩:=H
     have c8b0:=decide_eq_true c8
     clear c8
     replace H:=gd H
     obtain ⟨c9,H⟩:=H
     have c9b0:=decide_eq_true c9
     clear c9
     by_cases c10:(Op.bytesLess (rdOf ByteArray.empty l0 x10_1).toList ((rdOf ByteArray.empty x3_1 (ji7)).toList)) = true
     ·rw [if_pos c10] at H
      have c10b0:(Op.bytesLess (rdOf ByteArray.empty l0 x10_1).toList ((rdOf ByteArray.empty x3_1 (ji7)).toList)) = true:=c10
      clear c10
      have H':=am H
      clear H
      have p102:0 ≤ ((ji7):Int):=of_decide_eq_true aq4
      have q102:(ji7) < (x3_1.length:Int):=of_decide_eq_true aq4
      obtain ⟨ad102,e102,hx102_0⟩:=Kd.at_string (Kd.R_reads' HO_3.out).2.2 (ji7) p102 q102
      cases e102
      replace p102:=eq_true p102
      replace q102:=eq_true q102
      go_wp2
      go_roundg k2
      case measure=>have:=HK1.out;have:=HK2.out;omega
      case rel=>exact ⟨(ji7),(by first | rfl | (simp;done) | (simp only [← hji7] <;> (first | rfl | simp)) | (simp [*];done)),H',⟨aq43⟩,⟨aq10⟩,⟨aq1⟩⟩
     rw [if_neg c10] at H
     have c10b0:(Op.bytesLess (rdOf ByteArray.empty l0 x10_1).toList ((rdOf ByteArray.empty x3_1 (ji7)).toList)) = false:=by simpa using c10
     clear c10
     replace H:=gd H
     obtain ⟨c11,H⟩:=H
     have c11b0:=eq_true c11
     have c11b1:=decide_eq_true c11
     clear c11
     replace H:=gd H
     obtain ⟨c12,H⟩:=H
     have c12b0:=eq_true c12
     have c12b1:=decide_eq_true c12
     clear c12
     obtain ⟨y103,hy_⟩:∃ y_:List ByteArray,y_ = (x3_1.take (x6_2:Int).toNat):=⟨_,rfl⟩
     replace H:((spec_l1OwnS.f y103).bind fun t107=>(if t107.length < 8796093022208 then ((some (t107 ++ [(rdOf ByteArray.empty l0 x10_1)]:List ByteArray)).bind fun y110=>((some (x3_1.drop (x6_2:Int).toNat:List ByteArray)).bind fun y113=>(if y110.length + y113.length < 8796093022208 then (spec_reSorted.l0 k2 (y110 ++ y113) l0 (l0.length:Int) (wrap64 (x10_1 + 1))) else (none)))) else (none))) = some r:=aq3
     have Ny103:=am hy_
     clear hy_
     obtain ⟨t107,A13,H⟩:=bn H
     replace H:=gd H
     obtain ⟨c14,H⟩:=H
     have LMc14:=am c14
     clear c14
     obtain ⟨y110,hy_⟩:∃ y_:List ByteArray,y_ = (t107 ++ [(rdOf ByteArray.empty l0 x10_1)]):=⟨_,rfl⟩
     replace H:((some (x3_1.drop (x6_2:Int).toNat:List ByteArray)).bind fun y113=>(if y110.length + y113.length < 8796093022208 then (spec_reSorted.l0 k2 (y110 ++ y113) l0 (l0.length:Int) (wrap64 (x10_1 + 1))) else (none))) = some r:=aq3
     have Ny110:=am hy_
     clear hy_
     have c15b0:=eq_true (of_decide_eq_true aq4:0 ≤ x6_2)
     have c16b0:=eq_true (of_decide_eq_true aq4:x6_2 ≤ (x3_1.length:Int))
     obtain ⟨y113,hy_⟩:∃ y_:List ByteArray,y_ = (x3_1.drop (x6_2:Int).toNat):=⟨_,rfl⟩
     replace H:(if y110.length + y113.length < 8796093022208 then (spec_reSorted.l0 k2 (y110 ++ y113) l0 (l0.length:Int) (wrap64 (x10_1 + 1))) else (none)) = some r:=aq3
     have Ny113:=am hy_
     clear hy_
     replace H:=gd H
     obtain ⟨c17,H⟩:=H
     have LMc17:=am c17
     clear c17
     obtain ⟨y117,hy_⟩:∃ y_:List ByteArray,y_ = (y110 ++ y113):=⟨_,rfl⟩
     replace H:(spec_reSorted.l0 k2 y117 l0 (l0.length:Int) (wrap64 (x10_1 + 1))) = some r:=aq3
     have Ny117:=am hy_
     clear hy_
     have H':=am H
     clear H
     have p102:0 ≤ ((ji7):Int):=of_decide_eq_true aq4
     have q102:(ji7) < (x3_1.length:Int):=of_decide_eq_true aq4
     obtain ⟨ad102,e102,hx102_0⟩:=Kd.at_string (Kd.R_reads' HO_3.out).2.2 (ji7) p102 q102
     cases e102
     replace p102:=eq_true p102
     replace q102:=eq_true q102
     have q18:(x6_2:Int) ≤ ((x3_1.length:Int):Int):=of_decide_eq_true aq4
     obtain ⟨i018,hi018,_,hsz18,_⟩:=info_parts info9
     have hroom18:x3_1.length ≤ co5:=(Kd.R_reads' HO_3.out).2.1
     have hC18:Kd.C Kd.string _ (some ad102) x3_1.length x3_1:=(Kd.R_reads' HO_3.out).2.2
     have hcut18:=cut_to (P:=Tryz.prog) 35 9 .i64 Tryz.underlying35 hi018 (some ad102) x3_1.length co5 x6_2 (of_decide_eq_true aq4) q18 hroom18
     have hr18:=Kd.C_take (m:=(x6_2:Int).toNat) hC18 o_m
     have hy18:y103.length = (x6_2:Int).toNat:=(by rw [Ny103.out,List.length_take];omega)
     rw [← Ny103.out] at hr18
     rw [← hy18] at hcut18
     have HR106:=am hr18
     have HC106:=am (show y103.length ≤ co5 from by omega)
     clear hr18 hC18 hroom18 hi018 hsz18
     have KY18:=am hy18
     clear hy18
     have KL18:=am (show (x6_2:Int).toNat ≤ x3_1.length from by omega)
     replace q18:=eq_true q18
     go_wp2_with (first | ((with_reducible refine gate_callee (f:=84) rfl ?_);refine goesL_ (some 32) rfl rfl Tryz.func84 k_r rfl #[.slice (some ad102) y103.length co5] rfl aq8 ?_;(with_reducible refine (spec_l1OwnS.calls _ _ y103 t107 _ ?side1 ?side2 A13.out).mono ?_);(case side1=>repeat (first | exact aq61 | (with_reducible refine Kd.C_alloc ?_ _) | (with_reducible refine Kd.C_drewN ?_ _) | (with_reducible refine Kd.C_drew ?_)));(case side2=>exact HC106.out);rintro e w19 ⟨v108,rfl,ho0,hb⟩;refine ⟨_,rfl,?_⟩;have HO109:=am (Kd.R_lower (Kd.R_new' ho0 (Kd.R_lt aq10)) (below_size aq1));replace HO_3:=am (Kd.R_elder' aq10 (Kd.R_base ho0) hb);replace HR106:=am (Kd.C_below aq61 hb);replace HB:=am (below_step aq1 hb);(try clear hb);(try clear ho0)) | ((with_reducible refine gate_builtin (b:=.append) (xs:=#[.tmp 32,.tmp 34]) rfl ?_);at_builtin;refine Kd.R_append Kd.string (w0:=w) w.heap.size rfl (.tmp 32) (.tmp 34) 35 9 (.string ⟨#[]⟩) 16 rfl Tryz.underlying35 info9 rfl d_c o_m v108 t107 (rdOf ByteArray.empty l0 x10_1) [.string (rdOf ByteArray.empty l0 x10_1)] (fun k_=>some k_ ≠ (.slice (some ad102) x3_1.length co5:Value).ownBlock) (fun _=>False) rfl rfl ?aP (fun _ hk=>hk.elim) ?aF ?aO ?aB ?aS ?aL ?_;(case aP=>exact rfl);(case aB=>exact aq1);(case aF=>exact (fun k_ hk=>Kd.fresh' (Kd.R_lt aq10) k_ hk));(case aO=>exact (by (with_reducible repeat (first | apply Kd.R_alloc | apply Kd.R_drewN | apply Kd.R_drew));exact Kd.R_mono HO109.out (fun _ hk=>hk.2)));(case aS=>exact (below_size aq1));(case aL=>have:=LMc14.out;omega);intro v111 w20 ho hb hg hat;rw [← Ny110.out] at ho;replace HB:=am (hb);replace HR106:=am ((show Kd.C Kd.string w20 (some ad102) y103.length y103 from by rw [Ny103.out];exact Kd.C_take (m:=(x6_2:Int).toNat) ((Kd.R_reads' (Kd.R_after (ok:=(fun _=>True)) aq10 hg hat)).2.2) KL18.out));replace HO_3:=am (Kd.R_after (ok:=(fun _=>True)) aq10 hg hat);have HO112:=am (ho);clear HO109 ho hb hg hat;have q21:(x6_2:Int) ≤ ((x3_1.length:Int):Int):=of_decide_eq_true aq4;obtain ⟨i021,hi021,_,hsz21,_⟩:=info_parts info9;have hroom21:x3_1.length ≤ co5:=(Kd.R_reads' HO_3.out).2.1;have hC21:Kd.C Kd.string _ (some ad102) x3_1.length x3_1:=(Kd.R_reads' HO_3.out).2.2;have q021:(0:Int) ≤ (x6_2:Int):=of_decide_eq_true aq4;have hcut21:=cut_from (P:=Tryz.prog) 35 9 .i64 Tryz.underlying35 hi021 1 hsz21 (some ad102) x3_1.length co5 x6_2 q021 q21;have hr21:=Kd.C_drop (m:=(x6_2:Int).toNat) (c:=co5) hC21 o_m hroom21;obtain ⟨A21,hA21⟩:∃ A1,A1 = (if co5 = (x6_2:Int).toNat then (some ad102) else ((some ad102):Option Addr).map (·.add ((x6_2:Int).toNat * 1))):=⟨_,rfl⟩;obtain ⟨c21,hc21⟩:∃ c1,c1 = co5 - (x6_2:Int).toNat:=⟨_,rfl⟩;have hy21:y113.length = x3_1.length - (x6_2:Int).toNat:=(by rw [Ny113.out,List.length_drop] <;> omega);rw [show (x3_1).drop (x6_2:Int).toNat = y113 from Ny113.out.symm] at hr21;replace hr21:Kd.C Kd.string _ A21 y113.length y113:=(by rw [hA21];exact hr21);rw [← hy21,← hA21,← hc21] at hcut21;have HR116:=am hr21;have HC116:=am (show y113.length ≤ c21 from by rw [hy21,hc21];exact Nat.sub_le_sub_right hroom21 _);clear hr21 hC21 hroom21 hi021 hsz21 hc21;have KY21:=am hy21;have KA21:=am hA21;clear hy21 hA21;have KL21:=am (show (x6_2:Int).toNat ≤ x3_1.length from by omega);replace q21:=eq_true q21) | ((with_reducible refine gate_builtin (b:=.append) (xs:=#[.tmp 36,.tmp 39]) rfl ?_);at_builtin;refine Kd.R_append_rows Kd.string (w0:=w) w.heap.size rfl (.tmp 36) (.tmp 39) 35 9 (.string ⟨#[]⟩) 16 rfl Tryz.underlying35 info9 rfl d_c o_m v111 y110 y113 _ _ _ (fun k_=>some k_ ≠ (.slice (some ad102) x3_1.length co5:Value).ownBlock) (fun _=>False) rfl rfl ?aO ?aR (fun _ _ h=>h) (fun _ h=>h.elim) ?aF ?aB ?aS ?aL ?_;(case aR=>repeat (first | exact (by repeat (first | (with_reducible exact HR116.out) | (with_reducible refine Kd.C_alloc ?_ _) | (with_reducible refine Kd.C_drewN ?_ _) | (with_reducible refine Kd.C_drew ?_) | exact HR116.out)) | (with_reducible refine Kd.C_alloc ?_ _) | (with_reducible refine Kd.C_drewN ?_ _) | (with_reducible refine Kd.C_drew ?_)));(case aB=>exact aq1);(case aF=>exact (fun k_ hk=>Kd.fresh' (Kd.R_lt aq10) k_ hk));(case aO=>exact (by (with_reducible repeat (first | apply Kd.R_alloc | apply Kd.R_drewN | apply Kd.R_drew));exact HO112.out));(case aS=>exact (below_size aq1));(case aL=>have:=LMc17.out;omega);intro v118 w22 ho hb hg hat;rw [← Ny117.out] at ho;replace HB:=am (hb);replace HR106:=am ((show Kd.C Kd.string w22 (some ad102) y103.length y103 from by rw [Ny103.out];exact Kd.C_take (m:=(x6_2:Int).toNat) ((Kd.R_reads' (Kd.R_after (ok:=(fun _=>True)) aq10 hg hat)).2.2) KL18.out));replace HR116:=am ((show Kd.C Kd.string w22 A21 y113.length y113 from by rw [Ny113.out,KA21.out];exact Kd.C_drop (m:=(x6_2:Int).toNat) (c:=co5) ((Kd.R_reads' (Kd.R_after (ok:=(fun _=>True)) aq10 hg hat)).2.2) KL21.out ((Kd.R_reads' (Kd.R_after (ok:=(fun _=>True)) aq10 hg hat)).2.1)));replace HO_3:=am (Kd.R_after (ok:=(fun _=>True)) aq10 hg hat);have HO119:=am (ho);clear HO112 ho hb hg hat))
     go_roundg k2
     case measure=>have:=HK1.out;have:=HK2.out;omega
     case rel=>exact ⟨(y117),(wrap64 (x10_1 + 1)),aq6,H',⟨aq43⟩,⟨by (with_reducible repeat (first | apply Kd.R_alloc | apply Kd.R_drewN | apply Kd.R_drew));exact Kd.R_mono HO119.out (fun _ hk=>trivial)⟩,⟨aq1⟩⟩
end Go.Proofs.YtldhkbiomingbaaGreatDoor.F

namespace Go.Proofs.YtldhkbiomingbaaGreatDoor.F
open Go.RowKit Go.Proofs.YtldhkbiomingbaaGreatDoor Go.YW.PrintWords Go.YW.PrintMore
theorem l1OwnS_eq (l:List ByteArray) (h:l.length ≤ 1000):spec_l1OwnS.f l = some l:=by
 unfold spec_l1OwnS.f
 rw [Option.bind_some,if_pos (by rw [List.length_nil];omega),List.nil_append]
theorem sortB_of {l m:List ByteArray} (h1:m.Perm l) (h2:m.Pairwise (fun a b=>kb a ≤ kb b)):m = sortB l:=by
 have hp:(m.map kb).Perm ((l.map kb).mergeSort fun x y=>decide (x ≤ y)):=(h1.map kb).trans (List.mergeSort_perm _ _).symm
 have hs:=List.pairwise_mergeSort (le:=fun (x y:List UInt8)=>decide (x ≤ y)) (fun a b c h1 h2=>decide_eq_true (List.le_trans (of_decide_eq_true h1) (of_decide_eq_true h2))) (fun a b=>by
  rcases List.le_total a b with h | h
  ·rw [decide_eq_true h];rfl
  ·rw [decide_eq_true h,Bool.or_true]) (l.map kb)
 have he:m.map kb = (l.map kb).mergeSort fun x y=>decide (x ≤ y):=by
  refine List.Perm.eq_of_pairwise (le:=fun x y=>x ≤ y) (fun a b _ _ h1 h2=>List.le_antisymm h1 h2) ?_ (hs.imp (fun h=>of_decide_eq_true h)) hp
  rw [List.pairwise_map]
  exact h2
 have hm:∀ L:List ByteArray,(L.map kb).map (fun l=>(⟨l.toArray⟩:ByteArray)) = L:=fun L=>by
  rw [List.map_map]
  conv=>rhs;rw [← List.map_id L]
  rfl
 rw [← hm m,he]
 rfl
theorem sorted_put {x:ByteArray} {out:List ByteArray} {j:Nat} (hs:out.Pairwise (fun a b=>kb a ≤ kb b)) (h1:∀ a ∈ out.take j,kb a ≤ kb x) (h2:∀ q,j ≤ q → ∀ hq:q < out.length,kb x < kb out[q]) :
  ((out.take j ++ [x]) ++ out.drop j).Perm (x :: out) ∧ ((out.take j ++ [x]) ++ out.drop j).Pairwise (fun a b=>kb a ≤ kb b):=by
 constructor
 ·rw [List.append_assoc]
  refine (List.perm_middle (l₁:=out.take j) (a:=x) (l₂:=out.drop j)).trans ?_
  rw [List.take_append_drop]
 ·rw [List.append_assoc,List.pairwise_append]
  have hsd:(out.take j ++ out.drop j).Pairwise (fun a b=>kb a ≤ kb b):=by rw [List.take_append_drop];exact hs
  obtain ⟨p1,p2,p3⟩:=List.pairwise_append.1 hsd
  have hd:∀ z ∈ out.drop j,kb x ≤ kb z:=fun z hz=>by
   obtain ⟨q,hq,rfl⟩:=List.getElem_of_mem hz
   rw [List.getElem_drop]
   rw [List.length_drop] at hq
   exact List.le_of_lt (h2 (j + q) o_m o_m)
  refine ⟨p1,?_,fun a ha b hb=>?_⟩
  ·rw [List.singleton_append,List.pairwise_cons]
   exact ⟨hd,p2⟩
  ·rcases List.mem_append.1 hb with hb | hb
   ·rw [List.mem_singleton.1 hb];exact h1 a ha
   ·exact p3 a ha b hb
theorem re_l1 (x:ByteArray) (out:List ByteArray) (ho:out.length ≤ 1000) (hs:out.Pairwise (fun a b=>kb a ≤ kb b)) (L:List ByteArray) (n i:Int) (r:List ByteArray)
  (cont:∀ m:List ByteArray,m.Perm (x :: out) → m.Pairwise (fun a b=>kb a ≤ kb b) → Ev (fun k=>spec_reSorted.l0 k m L n (wrap64 (i + 1))) r) :
  ∀ j:Nat,j ≤ out.length → (∀ q,j ≤ q → ∀ hq:q < out.length,kb x < kb out[q]) → Ev (fun k=>spec_reSorted.l1 k out x (j:Int) L n i) r
 | 0,hj,h2=>by
  obtain ⟨c1,c2⟩:=sorted_put (x:=x) hs (j:=0) (fun a ha=>by rw [List.take_zero] at ha;cases ha) h2
  refine Ev.step (fun k=>?_) (cont _ c1 c2)
  rw [spec_reSorted.l1,if_neg o_m,if_pos o_m,if_pos o_m,Int.toNat_natCast,l1OwnS_eq _ (by rw [List.length_take];omega),Option.bind_some,if_pos (by rw [List.length_take];omega),Option.bind_some,Option.bind_some,if_pos (by rw [List.length_append,List.length_take,List.length_drop,List.length_singleton];omega)]
 | j + 1,hj,h2=>by
  have hjl:j < out.length:=by omega
  have hW:wrap64 (((j + 1:Nat):Int) - 1) = ((j:Nat):Int):=by rw [w64 o_m o_m];omega
  have hrd:rdOf ByteArray.empty out (j:Int) = out[j]:=by unfold rdOf;rw [Int.toNat_natCast,List.getD_eq_getElem?_getD,List.getElem?_eq_getElem hjl];rfl
  by_cases hl:kb x < kb out[j]
  ·have ih:=re_l1 x out ho hs L n i r cont j o_m (fun q hq hql=>by
    by_cases e:q = j
    ·subst e;exact hl
    ·exact h2 q o_m hql)
   refine Ev.step (fun k=>?_) ih
   rw [spec_reSorted.l1,if_pos o_m,hW,if_pos o_m,if_pos o_m,hrd,if_pos ((less_iff _ _).2 hl)]
  have hle:kb out[j] ≤ kb x:=List.not_lt.1 hl
  obtain ⟨c1,c2⟩:=sorted_put (x:=x) hs (j:=j + 1) (fun a ha=>by
   obtain ⟨q,hq,rfl⟩:=List.getElem_of_mem ha
   rw [List.length_take] at hq
   rw [List.getElem_take]
   by_cases e:q = j
   ·subst e;exact hle
   ·exact List.le_trans (List.pairwise_iff_getElem.1 hs q j o_m hjl o_m) hle) h2
  refine Ev.step (fun k=>?_) (cont _ c1 c2)
  rw [spec_reSorted.l1,if_pos o_m,hW,if_pos o_m,if_pos o_m,hrd,if_neg (fun q=>hl ((less_iff _ _).1 q)),if_pos o_m,if_pos o_m,Int.toNat_natCast,l1OwnS_eq _ (by rw [List.length_take];omega),Option.bind_some,if_pos (by rw [List.length_take];omega),Option.bind_some,Option.bind_some,if_pos (by rw [List.length_append,List.length_take,List.length_drop,List.length_singleton];omega)]
theorem re_l0 (L:List ByteArray) (hL:L.length ≤ 300):∀ (d i:Nat) (out:List ByteArray),i + d = L.length → out.Perm (L.take i) → out.Pairwise (fun a b=>kb a ≤ kb b) → Ev (fun k=>spec_reSorted.l0 k out L (L.length:Int) (i:Int)) (sortB L)
 | 0,i,out,hi,hp,hs=>by
  rw [List.take_of_length_le o_m] at hp
  rw [← sortB_of hp hs]
  exact Ev.step (fun k=>by rw [spec_reSorted.l0,if_neg o_m]) (Ev.now _)
 | d + 1,i,out,hi,hp,hs=>by
  have hil:i < L.length:=by omega
  have hW:wrap64 ((i:Int) + 1) = ((i + 1:Nat):Int):=by rw [w64 o_m o_m];rfl
  have hrd:rdOf ByteArray.empty L (i:Int) = L[i]:=by unfold rdOf;rw [Int.toNat_natCast,List.getD_eq_getElem?_getD,List.getElem?_eq_getElem hil];rfl
  have hol:out.length = i:=by rw [hp.length_eq,List.length_take];omega
  have h1:=re_l1 L[i] out o_m hs L (L.length:Int) (i:Int) (sortB L) (fun m hm hms=>by
   rw [hW]
   refine re_l0 L hL d (i + 1) m o_m ?_ hms
   rw [List.take_succ_eq_append_getElem hil]
   exact hm.trans ((hp.cons _).trans (List.perm_append_singleton _ _).symm)) out.length (Nat.le_refl _) (fun q hq hql=>by omega)
  refine Ev.step (fun k=>?_) h1
  rw [spec_reSorted.l0,if_pos o_m,if_pos o_m,if_pos o_m,hrd]
theorem reSorted_ev {l:List ByteArray} (hl:l.length ≤ 300):Ev (fun k=>spec_reSorted.f k l) (sortB l):=by
 unfold spec_reSorted.f
 exact re_l0 l hl l.length 0 [] o_m (by rw [List.take_zero]) List.Pairwise.nil
end Go.Proofs.YtldhkbiomingbaaGreatDoor.F

namespace Go.Proofs.YtldhkbiomingbaaGreatDoor
open Go.RowKit Go.YW.PrintWords Go.YW.PrintLast Go.YW.PrintMore Go.Lib
structure Node where
 w:Int
 h:Int
 grid:List Int
 text:ByteArray
 far:Int
 words:Int
 before:Int
 dir:Int
 next:List Int
structure NodeM where
 p:Nat
 g:Value
 x:Value
 n:Node
def NodeM.cells (q:NodeM):Array Value:=#[.int .i64 q.n.w,.int .i64 q.n.h,q.g,.string q.n.text,.int .i64 q.n.far,.int .i64 q.n.words,.int .i64 q.n.before,.int .i64 q.n.dir,q.x]
structure NodeAt (tN:TypeId) (W:World) (base:Nat) (q:NodeM):Prop where
 low:base ≤ q.p
 blk:W.heap[q.p]? = some (.cells q.cells tN (0,0))
 grid:Kd.R (Kd.int .u8) 5 W base (fun _=>True) q.g q.n.grid
 next:Kd.R (Kd.int .i64) 3 W base (fun _=>True) q.x q.n.next
structure Nodes (tN:TypeId) (W:World) (base:Nat) (L:List NodeM):Prop where
 at_:∀ q ∈ L,NodeAt tN W base q
 dup:(L.map NodeM.p).Nodup
 own:L.Pairwise fun a b=>∀ k,a.x.ownBlock = some k → b.x.ownBlock ≠ some k
section
variable {tN:TypeId} {W w1:World} {base:Nat} {L:List NodeM} {q:NodeM}
theorem R_true {α:Type} {d:Kd α} {e:TypeId} {ok:Nat → Prop} {v:Value} {xs:List α} (h:d.R e W base ok v xs):d.R e W base (fun _=>True) v xs:=Kd.R_mono h (fun _ _=>trivial)
theorem R_moved {α:Type} {d:Kd α} {e:TypeId} {v:Value} {xs:List α} (hE:d.E = []) (h:d.R e W base (fun _=>True) v xs) (hm:∀ k,v.ownBlock = some k → k < W.heap.size → w1.heap[k]? = W.heap[k]?) (hin:∀ k,(∃ q,q ∈ e :: d.E ∧ ∃ cells,W.heap[k]? = some (.cells cells q (0,0))) → k < W.heap.size → w1.heap[k]? = W.heap[k]?):d.R e w1 base (fun _=>True) v xs :=
 R_true (Kd.R_move (Kd.R_bound h) (fun k hk=>hin k hk.2.2.2 hk.2.2.1))
theorem NodeAt.below (h:NodeAt tN W base q) (hb:Below W.heap.size W w1):NodeAt tN w1 base q :=
 ⟨h.low,(hb.block _ (blk_lt h.blk)).trans h.blk,Kd.R_below h.grid hb,Kd.R_below h.next hb⟩
theorem Nodes.below (h:Nodes tN W base L) (hb:Below W.heap.size W w1):Nodes tN w1 base L:=⟨fun q hq=>(h.at_ q hq).below hb,h.dup,h.own⟩
theorem NodeAt.cell (h:NodeAt tN W base q) (j:Nat):W.cell? ⟨q.p,j,none⟩ = q.cells[j]?:=blk_cell h.blk j
theorem Nodes.push (h:Nodes tN W base L) {g:Value} {n:Node} (hn:n.next = []) (hb:base ≤ W.heap.size) (hg:Kd.R (Kd.int .u8) 5 W base (fun _=>True) g n.grid) :
  Nodes tN (W.alloc (.cells (NodeM.cells ⟨W.heap.size,g,.slice none 0 0,n⟩) tN)) base (L ++ [⟨W.heap.size,g,.slice none 0 0,n⟩]):=by
 have hal:Below W.heap.size W (W.alloc (.cells (NodeM.cells ⟨W.heap.size,g,.slice none 0 0,n⟩) tN)):=(Below.refl _ W).alloc (Nat.le_refl _) _
 refine ⟨fun q hq=>?_,?_,?_⟩
 ·rcases List.mem_append.1 hq with hq | hq
  ·exact (h.at_ q hq).below hal
  ·rw [List.mem_singleton.1 hq]
   exact ⟨hb,heap_alloc_new _ _,Kd.R_below hg hal,by show Kd.R (Kd.int .i64) _ _ _ _ (.slice none 0 0) n.next;rw [hn];exact Kd.R_nil _ _ _ _ _⟩
 ·rw [List.map_append,List.nodup_append]
  refine ⟨h.dup,by simp,fun a ha b hb=>?_⟩
  obtain ⟨q,hq,rfl⟩:=List.mem_map.1 ha
  have:=blk_lt (h.at_ q hq).blk
  rw [List.mem_singleton.1 hb]
  show q.p ≠ W.heap.size
  omega
 ·rw [List.pairwise_append]
  refine ⟨h.own,by simp,fun a ha b hb k hk=>?_⟩
  rw [List.mem_singleton.1 hb]
  exact fun e=>by cases e
theorem pairwise_at {α:Type} {R:α → α → Prop} (hs:∀ a b,R a b → R b a) {L:List α} (h:L.Pairwise R) {i j:Nat} (hi:i < L.length) (hj:j < L.length) (hne:i ≠ j):R L[i] L[j]:=by
 rw [List.pairwise_iff_getElem] at h
 rcases Nat.lt_or_gt_of_ne hne with hl | hl
 ·exact h i j hi hj hl
 ·exact hs _ _ (h j i hj hi hl)
theorem own_symm (a b:NodeM) (h:∀ k,a.x.ownBlock = some k → b.x.ownBlock ≠ some k):∀ k,b.x.ownBlock = some k → a.x.ownBlock ≠ some k:=fun k hk e=>h k e hk
theorem Nodes.put (h:Nodes tN W base L) (t1:tN ≠ 5) (t2:tN ≠ 3) {i:Nat} (hi:i < L.length) {j:Nat} {u:Value} {n':Node} (hg:n'.grid = L[i].n.grid) (hx:n'.next = L[i].n.next)
  (hc:(NodeM.cells ⟨L[i].p,L[i].g,L[i].x,n'⟩) = L[i].cells.setIfInBounds j u):Nodes tN (W.setCell ⟨L[i].p,j,none⟩ u) base (L.set i ⟨L[i].p,L[i].g,L[i].x,n'⟩):=by
 have hq:=h.at_ _ (List.getElem_mem hi)
 have hrow:∀ {α:Type} {d:Kd α} {e:TypeId} {v:Value} {xs:List α},d.E = [] → e ≠ tN → d.R e W base (fun _=>True) v xs → d.R e (W.setCell ⟨L[i].p,j,none⟩ u) base (fun _=>True) v xs:=fun hE he hr =>
  R_true (Kd.R_step (Kd.R_bound hr) (fun k hk _=>Below.heap_setCell W _ u k (fun e=>by
   obtain ⟨q,hq',cells,hc'⟩:=hk.2.2.2
   rw [hE] at hq'
   rw [show k = L[i].p from e,hq.blk] at hc'
   injection hc' with hc'
   injection hc' with _ ht _
   rw [List.mem_singleton.1 hq'] at ht
   exact he ht.symm)))
 have hp:(L.set i ⟨L[i].p,L[i].g,L[i].x,n'⟩).map NodeM.p = L.map NodeM.p:=by
  rw [List.map_set]
  apply List.ext_getElem (by simp)
  intro m h1 h2
  rw [List.getElem_set]
  split
  ·subst_vars;simp
  ·rfl
 refine ⟨fun q hm=>?_,by rw [hp];exact h.dup,?_⟩
 ·obtain ⟨m,hm',rfl⟩:=List.getElem_of_mem hm
  have hml:m < L.length:=by simpa using hm'
  rw [List.getElem_set]
  have hM:=h.at_ _ (List.getElem_mem hml)
  split
  ·rename_i he
   subst he
   exact ⟨hq.low,(blk_set hq.blk j u).trans (by rw [hc]),by show Kd.R _ _ _ _ _ L[i].g n'.grid;rw [hg];exact hrow rfl (Ne.symm t1) hq.grid,by show Kd.R _ _ _ _ _ L[i].x n'.next;rw [hx];exact hrow rfl (Ne.symm t2) hq.next⟩
  ·rename_i hne
   have hpp:L[m].p ≠ L[i].p:=fun e=>by
    have:=(List.nodup_iff_pairwise_ne.1 h.dup)
    rw [List.pairwise_iff_getElem] at this
    rcases Nat.lt_or_gt_of_ne hne with hl | hl
    ·exact this i m (by simpa using hi) (by simpa using hml) hl (by simpa using e.symm)
    ·exact this m i (by simpa using hml) (by simpa using hi) hl (by simpa using e)
   exact ⟨hM.low,(Below.heap_setCell W _ u _ (fun e=>hpp e)).trans hM.blk,hrow rfl (Ne.symm t1) hM.grid,hrow rfl (Ne.symm t2) hM.next⟩
 ·rw [List.pairwise_iff_getElem]
  intro a b ha hb hab
  have ha':a < L.length:=by simpa using ha
  have hb':b < L.length:=by simpa using hb
  have hx:∀ m (hm:m < L.length) (hm2:m < (L.set i ⟨L[i].p,L[i].g,L[i].x,n'⟩).length),((L.set i ⟨L[i].p,L[i].g,L[i].x,n'⟩)[m]).x = L[m].x:=fun m hm hm2=>by
   rw [List.getElem_set]
   split
   ·subst_vars;rfl
   ·rfl
  rw [hx a ha' ha,hx b hb' hb]
  exact pairwise_at own_symm h.own ha' hb' o_m
theorem dup_ne (hd:(L.map NodeM.p).Nodup) {i m:Nat} (hi:i < L.length) (hm:m < L.length) (hne:i ≠ m):L[m].p ≠ L[i].p:=fun e=>by
 have:=List.nodup_iff_pairwise_ne.1 hd
 rw [List.pairwise_iff_getElem] at this
 rcases Nat.lt_or_gt_of_ne hne with hl | hl
 ·exact this i m (by simpa using hi) (by simpa using hm) hl (by simpa using e.symm)
 ·exact this m i (by simpa using hm) (by simpa using hi) hl (by simpa using e)
theorem Nodes.way (h:Nodes tN W base L) (t1:tN ≠ 5) (t2:tN ≠ 3) {i:Nat} (hi:i < L.length) {v':Value} {x:Int} (hr:Kd.R (Kd.int .i64) 3 w1 base (fun _=>True) v' (L[i].n.next ++ [x]))
  (hg:W.grownBy w1 L[i].x.ownBlock) (hat:v'.ownBlock = L[i].x.ownBlock ∨ ∃ b,v'.ownBlock = some b ∧ W.heap.size ≤ b) :
  Nodes tN (w1.setCell ⟨L[i].p,8,none⟩ v') base (L.set i ⟨L[i].p,L[i].g,v',{ L[i].n with next:=L[i].n.next ++ [x] }⟩):=by
 have hq:=h.at_ _ (List.getElem_mem hi)
 have hb1:∀ m (hm:m < L.length),w1.heap[L[m].p]? = some (.cells L[m].cells tN (0,0)):=fun m hm=>by
  have hM:=h.at_ _ (List.getElem_mem hm)
  refine blk_grown hM.blk hg (fun e=>?_)
  obtain ⟨cells,hc⟩:=Kd.R_typed hq.next _ e.symm
  rw [hM.blk] at hc
  injection hc with hc
  injection hc with _ ht _
  exact t2 ht
 have hrow:∀ {α:Type} {d:Kd α} {e:TypeId} {v:Value} {xs:List α},d.E = [] → e ≠ tN → d.R e w1 base (fun _=>True) v xs → d.R e (w1.setCell ⟨L[i].p,8,none⟩ v') base (fun _=>True) v xs:=fun hE he hr =>
  R_true (Kd.R_step (Kd.R_bound hr) (fun k hk _=>Below.heap_setCell w1 _ v' k (fun e=>by
   obtain ⟨q,hq',cells,hc'⟩:=hk.2.2.2
   rw [hE] at hq'
   rw [show k = L[i].p from e,hb1 i hi] at hc'
   injection hc' with hc'
   injection hc' with _ ht _
   rw [List.mem_singleton.1 hq'] at ht
   exact he ht.symm)))
 have hgrid:∀ m (hm:m < L.length),Kd.R (Kd.int .u8) 5 w1 base (fun _=>True) L[m].g L[m].n.grid:=fun m hm =>
  Kd.R_over' (h.at_ _ (List.getElem_mem hm)).grid (fun k hk=>Kd.R_typed hq.next k hk) d_c hg
 refine ⟨fun q hm=>?_,?_,?_⟩
 ·obtain ⟨m,hm',rfl⟩:=List.getElem_of_mem hm
  have hml:m < L.length:=by simpa using hm'
  rw [List.getElem_set]
  have hM:=h.at_ _ (List.getElem_mem hml)
  split
  ·rename_i he
   subst he
   exact ⟨hq.low,(blk_set (hb1 i hi) 8 v').trans rfl,hrow rfl (Ne.symm t1) (hgrid i hi),hrow rfl (Ne.symm t2) hr⟩
  ·rename_i hne
   refine ⟨hM.low,(Below.heap_setCell w1 _ v' _ (fun e=>dup_ne h.dup hi hml hne e)).trans (hb1 m hml),hrow rfl (Ne.symm t1) (hgrid m hml),hrow rfl (Ne.symm t2) ?_⟩
   refine R_true (Kd.R_move (Kd.R_tight rfl hM.next) (fun k e=>hg.block k (Kd.R_lt hM.next k e.symm) (fun e2=>?_)))
   exact pairwise_at own_symm h.own hi hml hne k e2.symm e.symm
 ·have hp:(L.set i ⟨L[i].p,L[i].g,v',{ L[i].n with next:=L[i].n.next ++ [x] }⟩).map NodeM.p = L.map NodeM.p:=by
   rw [List.map_set]
   apply List.ext_getElem (by simp)
   intro m h1 h2
   rw [List.getElem_set]
   split
   ·subst_vars;simp
   ·rfl
  rw [hp];exact h.dup
 ·have hnew:∀ m (hm:m < L.length),i ≠ m → ∀ k,v'.ownBlock = some k → L[m].x.ownBlock ≠ some k:=fun m hm hne k hk e=>by
   rcases hat with ho | ⟨b,ho,hb⟩
   ·exact pairwise_at own_symm h.own hi hm hne k (by rw [← ho];exact hk) e
   ·rw [ho] at hk
    injection hk with hk
    subst hk
    have:=Kd.R_lt (h.at_ _ (List.getElem_mem hm)).next _ e
    omega
  rw [List.pairwise_iff_getElem]
  intro a b ha hb hab
  have ha':a < L.length:=by simpa using ha
  have hb':b < L.length:=by simpa using hb
  rw [List.getElem_set,List.getElem_set]
  split
  ·rename_i he
   subst he
   rw [if_neg o_m]
   exact hnew b hb' o_m
  ·split
   ·rename_i _ he
    subst he
    exact own_symm _ _ (hnew a ha' o_m)
   ·exact pairwise_at own_symm h.own ha' hb' o_m
end
def ptrK {α:Type} (t:TypeId) (d:Kd α):Kd α where
 sz:=1
 E:=t :: d.E
 K:=fun w x cs=>∃ p cells,cs = [.pointer (some ⟨p,0,none⟩)] ∧ w.heap[p]? = some (.cells cells t (0,0)) ∧ d.K w x cells.toList
 M:=fun w base ok x cs=>∃ p cells,cs = [.pointer (some ⟨p,0,none⟩)] ∧ base ≤ p ∧ ok p ∧ w.heap[p]? = some (.cells cells t (0,0)) ∧ d.M w base (fun k=>ok k ∧ k ≠ p) x cells.toList
 K_len:=by
  rintro w x cs ⟨p,cells,rfl,_⟩
  rfl
 K_one:=by
  rintro w x cs ⟨p,cells,rfl,_⟩ u hu
  rw [List.mem_singleton.1 hu]
  rfl
 K_below:=by
  rintro w w1 x cs hb ⟨p,cells,rfl,hp,hd⟩
  exact ⟨p,cells,rfl,(hb.block p (blk_lt hp)).trans hp,d.K_below hb hd⟩
 K_of_M:=by
  rintro w base ok x cs ⟨p,cells,rfl,_,_,hp,hd⟩
  exact ⟨p,cells,rfl,hp,d.K_of_M hd⟩
 M_mono:=by
  rintro w base ok ok' x cs hok ⟨p,cells,rfl,hb,ho,hp,hd⟩
  exact ⟨p,cells,rfl,hb,hok p ho,hp,d.M_mono (fun k hk=>⟨hok k hk.1,hk.2⟩) hd⟩
 M_bound:=by
  rintro w base ok x cs ⟨p,cells,rfl,hb,ho,hp,hd⟩
  refine ⟨p,cells,rfl,hb,⟨ho,hb,blk_lt hp,t,List.mem_cons_self,cells,hp⟩,hp,d.M_mono ?_ (d.M_bound hd)⟩
  rintro k ⟨⟨h1,h2⟩,h3,h4,q,hq,hc⟩
  exact ⟨⟨h1,h3,h4,q,List.mem_cons_of_mem _ hq,hc⟩,h2⟩
 M_move:=by
  rintro w w1 base ok x cs hm ⟨p,cells,rfl,hb,ho,hp,hd⟩
  exact ⟨p,cells,rfl,hb,ho,(hm p ho).trans hp,d.M_move (fun k hk=>hm k hk.1) hd⟩
 M_lower:=by
  rintro w base base' ok x cs hl ⟨p,cells,rfl,hb,ho,hp,hd⟩
  exact ⟨p,cells,rfl,Nat.le_trans hl hb,ho,hp,d.M_lower hl hd⟩
def nodeK:Kd Node:=Kd.iso (Kd.pair (Kd.int .i64) (Kd.pair (Kd.int .i64) (Kd.pair (Kd.slice 5 (Kd.int .u8)) (Kd.pair Kd.string (Kd.pair (Kd.int .i64) (Kd.pair (Kd.int .i64) (Kd.pair (Kd.int .i64) (Kd.pair (Kd.int .i64) (Kd.slice 3 (Kd.int .i64)))))))))) (fun n=>(n.w,n.h,n.grid,n.text,n.far,n.words,n.before,n.dir,n.next))
theorem nodeK_K {w:World} {n:Node} {cs:List Value} (h:nodeK.K w n cs):∃ Ag cg Ax cx,cs = [.int .i64 n.w,.int .i64 n.h,.slice Ag n.grid.length cg,.string n.text,.int .i64 n.far,.int .i64 n.words,.int .i64 n.before,.int .i64 n.dir,.slice Ax n.next.length cx] ∧
  n.grid.length ≤ cg ∧ (Kd.int .u8).C w Ag n.grid.length n.grid ∧ n.next.length ≤ cx ∧ (Kd.int .i64).C w Ax n.next.length n.next:=by
 obtain ⟨_,_,rfl,rfl,_,_,rfl,rfl,_,_,rfl,⟨Ag,cg,rfl,h1,h2⟩,_,_,rfl,rfl,_,_,rfl,rfl,_,_,rfl,rfl,_,_,rfl,rfl,_,_,rfl,rfl,⟨Ax,cx,rfl,h3,h4⟩⟩:=h
 exact ⟨Ag,cg,Ax,cx,rfl,h1,h2,h3,h4⟩
def rdN_ (ns:List Node) (i:Int):Node:=ns.getD i.toNat ⟨0,0,[],ByteArray.empty,0,0,0,0,[]⟩
theorem at_node {tN:TypeId} {w:World} {A:Option Addr} {n:Nat} {ns:List Node} (h:(ptrK tN nodeK).C w A n ns) (i:Int) (h0:0 ≤ i) (h1:i < n):∃ ad p Ag cg Ax cx,A = some ad ∧ w.cell? (ad.add i.toNat) = some (.pointer (some ⟨p,0,none⟩)) ∧
  w.heap[p]? = some (.cells #[.int .i64 (rdN_ ns i).w,.int .i64 (rdN_ ns i).h,.slice Ag (rdN_ ns i).grid.length cg,.string (rdN_ ns i).text,.int .i64 (rdN_ ns i).far,.int .i64 (rdN_ ns i).words,.int .i64 (rdN_ ns i).before,.int .i64 (rdN_ ns i).dir,.slice Ax (rdN_ ns i).next.length cx] tN (0,0)) ∧
  (rdN_ ns i).grid.length ≤ cg ∧ (Kd.int .u8).C w Ag (rdN_ ns i).grid.length (rdN_ ns i).grid ∧ (rdN_ ns i).next.length ≤ cx ∧ (Kd.int .i64).C w Ax (rdN_ ns i).next.length (rdN_ ns i).next:=by
 obtain ⟨ad,c,e,hl,⟨p,cells,rfl,hp,hd⟩,hc⟩:=ReadsRow.get_ h ⟨0,0,[],ByteArray.empty,0,0,0,0,[]⟩ i h0 h1
 obtain ⟨Ag,cg,Ax,cx,ec,q⟩:=nodeK_K hd
 refine ⟨ad,p,Ag,cg,Ax,cx,e,?_,?_,q⟩
 ·have:=hc 0 _ rfl
  rwa [show i.toNat * (ptrK tN nodeK).sz + 0 = i.toNat from by show i.toNat * 1 + 0 = i.toNat;omega] at this
 ·rw [hp]
  congr 2
  exact Array.toList_inj.1 ec
theorem Nodes.reads {tN tP:TypeId} {W:World} {base:Nat} {L:List NodeM} {v:Value} (h:Nodes tN W base L) (hr:Kd.R (Kd.scalar (fun p:Nat=>Value.pointer (some ⟨p,0,none⟩)) (fun _=>rfl)) tP W base (fun _=>True) v (L.map NodeM.p)) (hp:∀ q ∈ L,some q.p ≠ v.ownBlock) (hP1:tP ≠ 5) (hP2:tP ≠ 3) (hN1:tN ≠ 5) (hN2:tN ≠ 3) :
  Kd.R (ptrK tN nodeK) tP W base (fun _=>True) v (L.map NodeM.n):=by
 have hr':=hr
 obtain ⟨h0,inner,ho,hi⟩:=hr
 refine ⟨h0,inner,by rw [List.length_map] at ho ⊢;exact ho,by rw [hi.1,List.length_map,List.length_map];rfl,fun j n hj=>?_⟩
 rw [List.getElem?_map] at hj
 obtain ⟨q,hq,rfl⟩:=Option.map_eq_some_iff.1 hj
 have hc:=hi.2 j q.p (by rw [List.getElem?_map,hq];rfl)
 have hm:=List.mem_of_getElem? hq
 have hN:=h.at_ q hm
 have hne:∀ {α:Type} {d:Kd α} {e:TypeId} {u:Value} {xs:List α},d.E = [] → tP ≠ e → tN ≠ e → Kd.R d e W base (fun _=>True) u xs → Kd.R d e W base (fun k=>(True ∧ some k ≠ v.ownBlock) ∧ k ≠ q.p) u xs:=fun hE h1 h2 hu=>by
  refine Kd.R_mono (Kd.R_bound hu) (fun k hk=>?_)
  obtain ⟨t,ht,cells,hc'⟩:=hk.2.2.2
  rw [hE] at ht
  rw [List.mem_singleton.1 ht] at hc'
  refine ⟨⟨trivial,fun e1=>?_⟩,fun e2=>?_⟩
  ·obtain ⟨c2,hc2⟩:=Kd.R_typed hr' k e1.symm
   rw [hc'] at hc2
   injection hc2 with hc2
   injection hc2 with _ hq _
   exact h1 hq.symm
  ·rw [e2,hN.blk] at hc'
   injection hc' with hc'
   injection hc' with _ hq _
   exact h2 hq
 refine ⟨q.p,q.cells,hc,hN.low,⟨trivial,hp q hm⟩,hN.blk,?_⟩
 refine ⟨[_],_,rfl,rfl,[_],_,rfl,rfl,[_],_,rfl,⟨q.g,rfl,hne rfl hP1 hN1 hN.grid⟩,[_],_,rfl,rfl,[_],_,rfl,rfl,[_],_,rfl,rfl,[_],_,rfl,rfl,[_],[_],rfl,rfl,⟨q.x,rfl,hne rfl hP2 hN2 hN.next⟩⟩
theorem spot_plain {w:World} {a:Addr} {v:Value} (h:w.cell? a = some v):a.spot = none:=by
 cases hs:a.spot with
 | none=>rfl
 | some s =>
  unfold World.cell? at h
  rw [hs] at h
  split at h
  ·simp at h
  ·cases h
def NodeC (W:World) (b o i:Nat) (n:Node):Prop:=∃ p Ag cg Ax cx,W.cell? ⟨b,o + i,none⟩ = some (.pointer (some ⟨p,0,none⟩)) ∧
 W.cell? ⟨p,0,none⟩ = some (.int .i64 n.w) ∧ W.cell? ⟨p,1,none⟩ = some (.int .i64 n.h) ∧ W.cell? ⟨p,2,none⟩ = some (.slice Ag n.grid.length cg) ∧ W.cell? ⟨p,3,none⟩ = some (.string n.text) ∧ W.cell? ⟨p,4,none⟩ = some (.int .i64 n.far) ∧
 W.cell? ⟨p,5,none⟩ = some (.int .i64 n.words) ∧ W.cell? ⟨p,6,none⟩ = some (.int .i64 n.before) ∧ W.cell? ⟨p,7,none⟩ = some (.int .i64 n.dir) ∧ W.cell? ⟨p,8,none⟩ = some (.slice Ax n.next.length cx) ∧
 n.grid.length ≤ cg ∧ (Kd.int .u8).C W Ag n.grid.length n.grid ∧ n.next.length ≤ cx ∧ (Kd.int .i64).C W Ax n.next.length n.next
theorem nodes_open {tN tP:TypeId} {w1:World} {base:Nat} {ok:Nat → Prop} {v:Value} {ns:List Node} (h:Kd.R (ptrK tN nodeK) tP w1 base ok v ns) (hne:ns ≠ []) :
  ∃ b o c,v = .slice (some ⟨b,o,none⟩) ns.length c ∧ ns.length ≤ c ∧ b < w1.heap.size ∧ ∀ W',Below w1.heap.size w1 W' → ∀ i (hi:i < ns.length),NodeC W' b o i (ns[i]'hi):=by
 obtain ⟨A,c,rfl,hc,hC⟩:=Kd.R_reads h
 have hpos:0 < ns.length:=List.length_pos_iff.2 hne
 obtain ⟨ad,p0,_,_,_,_,e0,hq0,_⟩:=at_node hC 0 o_m o_m
 obtain ⟨b,o,sp⟩:=ad
 have esp:sp = none:=by
  have hq0':w1.cell? ((⟨b,o,sp⟩:Addr).add 0) = _:=hq0
  have:(⟨b,o,sp⟩:Addr).add 0 = ⟨b,o,sp⟩:=by unfold Addr.add;split <;> simp_all
  rw [this] at hq0'
  exact spot_plain hq0'
 subst esp
 subst e0
 refine ⟨b,o,c,rfl,hc,World.block_lt_of_cell? w1 _ (by have hq0':w1.cell? ((⟨b,o,none⟩:Addr).add 0) = _:=hq0;exact hq0'),fun W' hB i hi=>?_⟩
 obtain ⟨ad,p,Ag,cg,Ax,cx,e,hq,hp,h1,h2,h3,h4⟩:=at_node (Kd.C_below hC hB) (i:Int) o_m o_m
 obtain rfl:=Option.some.inj e
 have er:rdN_ ns (i:Int) = ns[i]:=by unfold rdN_;rw [Int.toNat_natCast,List.getD_eq_getElem?_getD,List.getElem?_eq_getElem hi];rfl
 rw [er] at hp h1 h2 h3 h4
 rw [Int.toNat_natCast] at hq
 refine ⟨p,Ag,cg,Ax,cx,?_,(blk_cell hp 0).trans rfl,(blk_cell hp 1).trans rfl,(blk_cell hp 2).trans rfl,(blk_cell hp 3).trans rfl,(blk_cell hp 4).trans rfl,(blk_cell hp 5).trans rfl,(blk_cell hp 6).trans rfl,(blk_cell hp 7).trans rfl,(blk_cell hp 8).trans rfl,h1,h2,h3,h4⟩
 have e2:(⟨b,o,none⟩:Addr).add i = ⟨b,o + i,none⟩:=by unfold Addr.add;split <;> simp_all
 rw [e2] at hq
 exact hq
end Go.Proofs.YtldhkbiomingbaaGreatDoor

namespace Go.Proofs.YtldhkbiomingbaaGreatDoor
open Go.Proofs.YtldhkbiomingbaaGreatDoor.F
open Go.RowKit Go.YW.PrintWords Go.YW.PrintLast Go.YW.PrintMore Go.Lib
attribute [local go_sem] max2_int min2_int
theorem R_off {α:Type} {d:Kd α} {e t:TypeId} {w:World} {base:Nat} {v:Value} {xs:List α} {p:Addr} {cells:Array Value} {fr:Nat × Nat} (hE:d.E = []) (h:d.R e w base (fun _=>True) v xs) (hb:w.heap[p.block]? = some (.cells cells t fr)) (hne:e ≠ t) (u:Value):d.R e (w.setCell p u) base (fun _=>True) v xs :=
 R_true (Kd.R_step (Kd.R_bound h) (fun k hk _=>Below.heap_setCell w p u k (fun e2=>by
  obtain ⟨q,hq,cs,hc⟩:=hk.2.2.2
  rw [hE,List.mem_singleton] at hq
  subst hq
  rw [e2,hb] at hc
  injection hc with hc
  injection hc with _ ht _
  exact hne ht.symm)))
theorem rd_int (l:List Nat) {i:Nat} (h:i < l.length):rdOf 0 (l.map Int.ofNat) (i:Int) = ((l[i]'h:Nat):Int):=by
 unfold rdOf
 rw [Int.toNat_natCast,List.getD_eq_getElem?_getD,List.getElem?_map,List.getElem?_eq_getElem h];rfl
theorem rd_bool (l:List Bool) (i:Nat):rdOf false l (i:Int) = l.getD i false:=by
 unfold rdOf;rw [Int.toNat_natCast]
theorem seeB_drop (l:List Nat) (st:List Bool × List Nat) {j:Nat} (hj:j < l.length):seeB (l.drop j) st = seeB (l.drop (j + 1)) (if st.1.getD (l[j]'hj) false = true then st else (st.1.set (l[j]'hj) true,st.2 ++ [l[j]'hj])):=by
 rw [List.drop_eq_getElem_cons hj]
 unfold seeB
 rw [List.foldl_cons]
theorem CloOk.one {N:List (List Nat)} {n i a:Nat} {st:List Bool × List Nat} (o:CloOk N n i st) (ha:a < n) (hw:Way N i a) (hs:st.1.getD a false = false):CloOk N n i (st.1.set a true,st.2 ++ [a]):=by
 have hna:a ∉ st.2:=fun h=>by rw [(o.seen a).2 h] at hs;cases hs
 refine ⟨by rw [List.length_set];exact o.len,by rw [List.nodup_append];exact ⟨o.dup,by simp,fun x hx y hy=>by rw [List.mem_singleton.1 hy];rintro rfl;exact hna hx⟩,fun j=>?_,fun j hj=>?_,fun j hj=>?_,List.mem_append_left _ o.start⟩
 ·have hal:a < st.1.length:=by rw [o.len];exact ha
  rw [List.mem_append,List.mem_singleton,List.getD_eq_getElem?_getD,List.getElem?_set]
  by_cases e:a = j
  ·subst e;simp [hal]
  rw [if_neg e,← List.getD_eq_getElem?_getD,o.seen j]
  exact ⟨fun h=>.inl h,fun h=>h.resolve_right (fun q=>e q.symm)⟩
 ·rcases List.mem_append.1 hj with h | h
  ·exact o.low j h
  ·rw [List.mem_singleton.1 h];exact ha
 ·rcases List.mem_append.1 hj with h | h
  ·exact o.way j h
  ·rw [List.mem_singleton.1 h];exact hw
structure FromAt (base g cap n:Nat) (st:List Bool × List Nat) (v:Value) (w:World):Prop where
 b:Kd.R Kd.bool 4 w base (fun _=>True) (.slice (some ⟨g,0,none⟩) n cap) st.1
 q:Kd.R (Kd.int .i64) 3 w base (fun _=>True) v (st.2.map Int.ofNat)
theorem FromAt.put {base g cap n:Nat} {st:List Bool × List Nat} {v:Value} {w:World} (h:FromAt base g cap n st v w) (hn:0 < n) (a:Nat):FromAt base g cap n (st.1.set a true,st.2) v (w.setCell ⟨g,a,none⟩ (.bool true)):=by
 have h1:=Kd.R_putn h.b (a:Int) true
 rw [Int.toNat_natCast] at h1
 obtain ⟨cells,hc⟩:=Kd.R_typed h.b g rfl
 exact ⟨h1,R_off rfl h.q hc d_c _⟩
def NextC (W:World) (b o i:Nat) (l:List Nat):Prop:=∃ p Ax cx,W.cell? ⟨b,o + i,none⟩ = some (.pointer (some ⟨p,0,none⟩)) ∧ W.cell? ⟨p,8,none⟩ = some (.slice Ax l.length cx) ∧ (Kd.int .i64).C W Ax l.length (l.map Int.ofNat)
theorem NodeC.ways {W:World} {b o i:Nat} {n:Node} {l:List Nat} (h:NodeC W b o i n) (e:n.next = l.map Int.ofNat):NextC W b o i l:=by
 obtain ⟨p,Ag,cg,Ax,cx,zp,_,_,_,_,_,_,_,_,z8,_,_,_,hC⟩:=h
 rw [e,List.length_map] at z8 hC
 exact ⟨p,Ax,cx,zp,z8,hC⟩
theorem reFrom_calls (b o c n i0:Nat) (ns:List Node) (N:List (List Nat)) (W:World) (hc:n ≤ c) (hln:ns.length = n) (hn:n < 65536) (hi0:i0 < n) (hN:∀ l ∈ N,∀ a ∈ l,a < n) (hNl:∀ i,(N.getD i []).length < 65536) (hnx:∀ i (hi:i < ns.length),(ns[i]'hi).next = (N.getD i []).map Int.ofNat) (hat:∀ W',Below W.heap.size W W' → ∀ i (hi:i < ns.length),NodeC W' b o i (ns[i]'hi)) :
  Calls Tryz.prog 76 #[.slice (some ⟨b,o,none⟩) n c,.int .i64 i0] W fun e w'=>∃ v,e = .returned v ∧ Kd.R Kd.bool 4 w' W.heap.size (fun _=>True) v (fromB N n i0) ∧ Below W.heap.size W w':=by
 have HAT:=am (fun W' hB i hi=>(hat W' hB i (by rw [hln];exact hi)).ways (hnx i _):∀ W',Below W.heap.size W W' → ∀ i,i < n → NextC W' b o i (N.getD i []))
 have HN:=am hn
 have HNN:=am hN
 have HNL:=am hNl
 have HI:=am hi0
 have hge0:(0:Int) ≤ (n:Int):=by omega
 have hle:(n:Int).toNat ≤ 281474976710656:=by omega
 have hiI:(i0:Int) < (n:Int):=by omega
 clear hat hnx hn hN hNl hi0 hln
 go_enter Tryz.func76,Tryz.ntmps76
 go_wp2_with (first
  | ((with_reducible refine gate_dst (N:=12) rfl ?_);refine Kd.R_make Kd.bool _ 4 rfl (N:=12) rfl 81 _ _ rfl (n:Int) rfl rfl Tryz.underlying81 (.bool false) 1 info4 rfl d_c o_m false (ok:=fun _=>True) (okp:=fun _=>True) rfl (fun _ hk=>hk) trivial hge0 (Nat.le_trans (Nat.mul_le_mul_right _ hle) o_m) (Below.refl _ _) (Nat.le_refl _) ?_;intro v5 w5 ho5 hb5 hg5 hn5;rw [Int.toNat_natCast] at ho5;obtain ⟨g,cap,hv5,hgb,hgl,_⟩:=Kd.R_form ho5 (by rw [List.length_replicate];have:=HI.out;omega);rw [List.length_replicate] at hv5;subst hv5;obtain ⟨hf5a,hf5b⟩:=Kd.R_celln false ho5 (i0:Int) o_m hiI;rw [Int.toNat_natCast] at hf5a hf5b;have HO5:=am ho5;have HB5:=am hb5;have HG5:=am hgb;clear ho5 hb5 hg5 hn5 hgb hgl)
  | ((with_reducible refine gate_dst (N:=17) rfl ?_);refine Kd.R_lit (Kd.int .i64) _ 3 ?hg (N:=17) ?hd (xs:=([(i0:Int)]:List Int)) (inner:=[.int .i64 i0]) (ok:=fun _=>True) (okp:=fun _=>True) ?hr ?hp (fun _ hk=>hk) trivial (Below.refl _ _) (Nat.le_refl _) (by simp) ?_;(case hd=>rfl);(case hg=>rfl);(case hr=>first | (go_simp;done) | (go_simp;rfl));(case hp=>exact (Reps.one (show Kd.M (Kd.int .i64) _ _ _ (i0:Int) [.int .i64 i0] from rfl) (Reps.none _ _)));intro v6 w6 ho6 hb6 hg6 hn6;have HO6:=am ho6;have HB6:=am hb6;clear ho6 hb6 hg6 hn6))
 have hset0:(List.replicate n false).set i0 true = ((List.replicate n false).set i0 true,[i0]).1:=rfl
 have hcloS:CloOk N n i0 ((List.replicate n false).set i0 true,[i0]):=by
  refine ⟨by rw [List.length_set,List.length_replicate],by simp,fun j=>?_,fun j hj=>?_,fun j hj=>?_,by simp⟩
  ·rw [List.mem_singleton,List.getD_eq_getElem?_getD,List.getElem?_set]
   have:=HI.out
   by_cases e:i0 = j
   ·subst e;simp [this]
   rw [if_neg e]
   refine ⟨fun h=>absurd h ?_,fun h=>absurd h.symm e⟩
   rw [List.getElem?_replicate];split <;> simp
  ·rw [List.mem_singleton.1 hj];exact HI.out
  ·rw [List.mem_singleton.1 hj];exact .here _
 have HS0:Aside0 (FromAt W.heap.size g cap n ((List.replicate n false).set i0 true,[i0]) v6 w6 ∧ Below W.heap.size W w6):=by
  have h1:=Kd.R_putn HO5.out (i0:Int) true
  rw [Int.toNat_natCast] at h1
  have hs:W.heap.size ≤ (w5.setCell ⟨g,i0,none⟩ (.bool true)).heap.size:=by have:=HB5.out.size;simpa using this
  exact ⟨⟨Kd.R_below h1 HB6.out,Kd.R_lower HO6.out hs⟩,below_step (HB5.out.setCell (p:=⟨g,i0,none⟩) HG5.out _) HB6.out⟩
 have HCS:=am hcloS
 have HFIN:=am (show (cloB N (n + 1) 0 ((List.replicate n false).set i0 true,[i0])).1 = fromB N n i0 from rfl)
 have HG:=HG5
 clear HO5 HB5 HO6 HB6 hf5a hf5b hcloS hset0 HG5
 go_loopw [6,7] (fun va6 va7 wr=>∃ (f k:Nat) (st:List Bool × List Nat),va7 = .int .i64 k ∧ k ≤ st.2.length ∧ n + 1 ≤ f + k ∧ Aside0 ((cloB N f k st).1 = fromB N n i0) ∧ Aside0 (CloOk N n i0 st) ∧ Aside0 (FromAt W.heap.size g cap n st va6 wr) ∧ Aside0 (Below W.heap.size W wr)) (fun va6 va7 _=>n - (intOf va7).toNat)
 case atStart=>exact ⟨n + 1,0,_,rfl,Nat.zero_le _,by omega,HFIN,HCS,⟨HS0.out.1⟩,⟨HS0.out.2⟩⟩
 case round =>
  obtain ⟨f,k,st,rfl,hk,hfk,HF,HO,HA,HB⟩:=hrel
  have hlen:=nodup_le HO.out.dup HO.out.low
  obtain ⟨A6,c6,hv6⟩:=Kd.R_slice HA.out.q
  rw [List.length_map] at hv6
  by_cases hlt:k < st.2.length
  rotate_left
  ·have hge:¬ (k:Int) < (st.2.length:Int):=by omega
   subst hv6
   have hF:=HF.out
   have hE:(cloB N f k st).1 = st.1:=by
    cases f with
    | zero=>rfl
    | succ f=>unfold cloB;rw [if_neg hlt]
   rw [hE] at hF
   have HE:=am hF
   clear hF hE HF
   go_wp2
   go_ret
   exact ⟨_,rfl,by rw [← HE.out];exact HA.out.b,HB.out⟩
  have hltI:(k:Int) < (st.2.length:Int):=by omega
  obtain ⟨f',rfl⟩:∃ f',f = f' + 1:=⟨f - 1,by omega⟩
  have hF:=HF.out
  unfold cloB at hF
  rw [if_pos hlt] at hF
  obtain ⟨g6,cap6,hv6',_,_,_⟩:=Kd.R_form HA.out.q (by rw [List.length_map];omega)
  rw [hv6,List.length_map] at hv6'
  injection hv6' with e1 _ e2
  subst e1 e2
  subst hv6
  have hq:=(Kd.R_celln 0 HA.out.q (k:Int) o_m hltI).1
  rw [Int.toNat_natCast,rd_int st.2 hlt] at hq
  have hjl:=HO.out.low _ (List.getElem_mem hlt)
  have hgd:st.2.getD k 0 = st.2[k]:=by rw [List.getD_eq_getElem?_getD,List.getElem?_eq_getElem hlt];rfl
  rw [hgd] at hF
  have hwj:=HO.out.way _ (List.getElem_mem hlt)
  obtain ⟨p,Ax,cx,zp0,z80,hC⟩:=HAT.out W (Below.refl _ _) _ hjl
  have zp:=(HB.out.cell (World.block_lt_of_cell? W _ zp0)).trans zp0
  have z8:=(HB.out.cell (World.block_lt_of_cell? W _ z80)).trans z80
  clear zp0 z80
  have hmem:∀ a ∈ N.getD st.2[k] [],a < n ∧ a ∈ N.getD st.2[k] []:=fun a ha=>⟨by
   rw [List.getD_eq_getElem?_getD] at ha
   cases hx:N[st.2[k]]? with
   | none=>rw [hx] at ha;cases ha
   | some l=>rw [hx] at ha;exact HNN.out l (List.mem_of_getElem? hx) a ha,ha⟩
  have hll:=HNL.out st.2[k]
  have hjlI:((st.2[k]:Nat):Int) < (n:Int):=by omega
  generalize st.2[k] = j0 at *
  generalize hl:N.getD j0 [] = l at *
  have HMEM:=am hmem
  have HLL:=am hll
  have HF2:=am hF
  have HWJ:=am hwj
  have HCX:=am hC
  have HK:=am hlt
  have HLE:=am hlen
  have HFK:=am hfk
  have HLN:=am hl
  clear hmem hll hF hwj hC hgd hlen hfk HF hk hl
  go_wp2
  go_loopw [6,35] (fun va6 va35 wq=>∃ (j:Nat) (sq:List Bool × List Nat),j ≤ l.length ∧ va35 = .int .i64 j ∧ Aside0 (seeB (l.drop j) sq = seeB l st) ∧ Aside0 (CloOk N n i0 sq) ∧ Aside0 (st.2 <+: sq.2) ∧ Aside0 (FromAt W.heap.size g cap n sq va6 wq) ∧ Aside0 (Below W.heap.size W wq)) (fun va6 va35 _=>l.length - (intOf va35).toNat)
  case atStart=>exact ⟨0,st,Nat.zero_le _,rfl,⟨by rw [List.drop_zero]⟩,HO,⟨List.prefix_refl _⟩,HA,HB⟩
  case round =>
   obtain ⟨j,sq,hj,rfl,HSB,HOQ,HPQ,HAQ,HBQ⟩:=hrel
   by_cases hlt2:j < l.length
   rotate_left
   ·have hge:¬ (j:Int) < (l.length:Int):=by omega
    obtain rfl:j = l.length:=by omega
    have hD:=HSB.out
    rw [List.drop_length] at hD
    have hw1:IntKind.i64.wrap ((k:Int) + 1) = ((k + 1:Nat):Int):=by rw [IntKind.wrap_i64];have:=HN.out;have:=HLE.out;have:=HK.out;omega
    go_wp2
    go_roundw
    case rel=>exact ⟨f',k + 1,sq,by first | rfl | simp,Nat.le_trans HK.out HPQ.out.length_le,by have:=HFK.out;omega,⟨by rw [show sq = seeB l st from hD];exact HF2.out⟩,HOQ,HAQ,HBQ⟩
    case measure=>have:=HLE.out;have:=HK.out;simp [intOf];omega
   have hltI2:(j:Int) < (l.length:Int):=by omega
   obtain ⟨ba,oa,rfl,hba,hcs⟩:=C_place (by rw [← List.length_map (f:=Int.ofNat)] at HCX;exact HCX.out) (by rw [List.length_map];omega)
   obtain ⟨a,hae⟩:∃ a,l[j]'hlt2 = a:=⟨_,rfl⟩
   have hD:seeB (l.drop (j + 1)) (if sq.1.getD a false = true then sq else (sq.1.set a true,sq.2 ++ [a])) = seeB l st:=by rw [← hae,← seeB_drop l sq hlt2];exact HSB.out
   have hax:W.cell? ⟨ba,oa + j,none⟩ = some (.int .i64 ((a:Nat):Int)):=hcs j _ (by rw [List.getElem?_map,List.getElem?_eq_getElem hlt2,hae];rfl)
   have ha:=(HBQ.out.cell (p:=⟨ba,oa + j,none⟩) hba).trans hax
   obtain ⟨han,hmem⟩:=HMEM.out a (hae ▸ List.getElem_mem hlt2)
   have haI:((a:Nat):Int) < (n:Int):=by omega
   obtain ⟨hsa,hsf⟩:=Kd.R_celln false HAQ.out.b ((a:Nat):Int) o_m haI
   rw [Int.toNat_natCast] at hsa hsf
   rw [rd_bool] at hsa
   have HAL:=am (show ((sq.2.map Int.ofNat).length + 1) * 8 ≤ 140737488355328 by have h1:=nodup_le HOQ.out.dup HOQ.out.low;have h2:=HN.out;rw [List.length_map];omega)
   have hw1:IntKind.i64.wrap ((j:Int) + 1) = ((j + 1:Nat):Int):=by rw [IntKind.wrap_i64];have:=HLL.out;omega
   have HJ:=am hlt2
   have HAN:=am han
   have HD:=am hD
   have HWA:=am (Way.step HWJ.out (by rw [HLN.out];exact hmem))
   clear hcs hax hba hmem han hD hae hlt2 hj HSB
   cases hb:sq.1.getD a false with
   | true =>
    rw [hb] at hsa
    go_wp2
    go_roundw
    case rel=>exact ⟨j + 1,sq,HJ.out,by first | rfl | simp,⟨by have h:=HD.out;rw [if_pos hb] at h;exact h⟩,HOQ,HPQ,HAQ,HBQ⟩
    case measure=>have:=HJ.out;simp [intOf];omega
   | false =>
    rw [hb] at hsa
    have HAQ2:=am (HAQ.out.put (by have:=HAN.out;omega) a)
    have HBQ2:=am (HBQ.out.setCell (p:=⟨g,a,none⟩) HG.out (.bool true))
    have HOQ2:=am (HOQ.out.one HAN.out HWA.out hb)
    have HD2:=am (show seeB (l.drop (j + 1)) (sq.1.set a true,sq.2 ++ [a]) = seeB l st from by have h:=HD.out;rw [if_neg (by rw [hb];exact Bool.false_ne_true)] at h;exact h)
    clear hb
    go_wp2_with (first
     | ((with_reducible refine gate_store (t:=4) (p:=46) rfl ?_);refine store_event (t:=4) (p:=46) (v:=?vo) (w1:=(wr.setCell ⟨g,a,none⟩ (.bool true))) ?hg ?ho ?hn ?hr ?_;(case ho=>rfl);(case hg=>rfl);(case hn=>rfl);(case hr=>first | (go_simp;done) | (go_simp;rfl));intro wz hwz;rw [← hwz] at HAQ2 HBQ2;clear hwz HAQ HBQ HOQ)
     | ((with_reducible refine gate_builtin (b:=.append) (xs:=#[.tmp 47,.tmp 49]) rfl ?_);at_builtin;refine Kd.R_append (Kd.int .i64) (w0:=W) W.heap.size rfl (.tmp 47) (.tmp 49) 40 3 (.int .i64 0) 8 rfl Tryz.underlying40 info3 rfl d_c o_m u6 (sq.2.map Int.ofNat) (a:Int) [.int .i64 a] (fun _=>True) (fun _=>False) rfl rfl ?aP (fun _ hk=>hk.elim) ?aF ?aO ?aB ?aS ?aL ?_;(case aP=>exact rfl);(case aB=>exact HBQ2.out);(case aF=>exact (fun _ _=>trivial));(case aO=>exact HAQ2.out.q);(case aS=>exact HBQ2.out.size);(case aL=>exact HAL.out);intro v7 w7 ho7 hb7 hg7 hat7;have HO7:=am ho7;have HB7:=am hb7;have HR7:=am (Kd.R_over' HAQ2.out.b (Kd.R_typed HAQ2.out.q) d_c hg7);clear ho7 hb7 hg7 hat7))
    go_roundw
    case rel=>exact ⟨j + 1,(sq.1.set a true,sq.2 ++ [a]),HJ.out,by first | rfl | simp,HD2,HOQ2,⟨HPQ.out.trans (List.prefix_append _ _)⟩,⟨⟨HR7.out,by have h:=HO7.out;rwa [← show (sq.2 ++ [a]).map Int.ofNat = sq.2.map Int.ofNat ++ [(a:Int)] from by rw [List.map_append];rfl] at h⟩⟩,HB7⟩
    case measure=>have:=HJ.out;simp [intOf];omega
end Go.Proofs.YtldhkbiomingbaaGreatDoor

namespace Go.Proofs.YtldhkbiomingbaaGreatDoor
open Go.RowKit Go.YW.PrintWords Go.YW.PrintMore
structure RS where
 T:List (List Int)
 F:List Nat
 W:List (List Nat)
 B:List (Nat × Nat)
 N:List (List Nat)
def RS.start (cs:List Int):RS:=⟨[cs],[0],[[]],[(0,0)],[]⟩
def findT (T:List (List Int)) (c:List Int):Nat:=T.findIdx (· == c)
def seeD (w h i d:Nat) (s:RS):Option (RS × Nat) :=
 let c:=tiltD w h d (s.T.getD i [])
 if findT s.T c < s.T.length then some (s,findT s.T c)
 else if s.T.length = 300 then none
 else some ({ s with T:=s.T ++ [c],F:=s.F ++ [s.F.getD i 0 + 1],W:=s.W ++ [s.W.getD i [] ++ [d]],B:=s.B ++ [(i,d)] },s.T.length)
def seeAll (w h i:Nat):List Nat → RS → List Nat → Option (RS × List Nat)
 | [],s,next=>some (s,next)
 | d :: ds,s,next=>(seeD w h i d s).bind fun q=>seeAll w h i ds q.1 (next ++ [q.2])
def bfsD (w h:Nat):Nat → Nat → RS → Option RS
 | 0,_,_=>none
 | k + 1,i,s=>if i < s.T.length then (seeAll w h i [0,1,2,3] s []).bind fun q=>bfsD w h k (i + 1) { q.1 with N:=q.1.N ++ [q.2] } else some s
def reachD (w h:Nat) (cs:List Int):Option RS:=bfsD w h 301 0 (RS.start cs)
structure RS.Ok (w h:Nat) (cs0:List Int) (s:RS):Prop where
 lF:s.F.length = s.T.length
 lW:s.W.length = s.T.length
 lB:s.B.length = s.T.length
 most:s.T.length ≤ 300
 pos:1 ≤ s.T.length
 tray:∀ c ∈ s.T,Vg (w,h,c)
 nodup:s.T.Nodup
 dirs:∀ u ∈ s.W,∀ d ∈ u,d < 4
 far:∀ i,i < s.T.length → (s.W.getD i []).length = s.F.getD i 0
 run:∀ i,i < s.T.length → runD w h cs0 (s.W.getD i []) = s.T.getD i []
 back:∀ i,i < s.T.length → 0 < i → (s.B.getD i (0,0)).1 < i ∧ (s.B.getD i (0,0)).2 < 4 ∧ s.W.getD i [] = s.W.getD (s.B.getD i (0,0)).1 [] ++ [(s.B.getD i (0,0)).2]
 first:s.W.getD 0 [] = []
theorem getD_lt {α:Type} {l:List α} {i:Nat} {d:α} (h:i < l.length):l.getD i d = l[i]'h:=by rw [List.getD_eq_getElem?_getD,List.getElem?_eq_getElem h];rfl
theorem getD_mem {α:Type} {l:List α} {i:Nat} {d:α} (h:i < l.length):l.getD i d ∈ l:=by rw [getD_lt h];exact List.getElem_mem h
theorem getD_app {α:Type} {l:List α} {i:Nat} {d a:α} (h:i < l.length):(l ++ [a]).getD i d = l.getD i d:=by rw [getD_lt (by simp;omega),getD_lt h,List.getElem_append_left h]
theorem getD_new {α:Type} {l:List α} {d a:α}:(l ++ [a]).getD l.length d = a:=by rw [getD_lt (by simp)];simp
theorem RS.Ok.start {w h:Nat} {cs:List Int} (v:Vg (w,h,cs)):RS.Ok w h cs (RS.start cs):=by
 refine ⟨rfl,rfl,rfl,by show 1 ≤ 300;omega,Nat.le_refl _,fun c hc=>?_,by simp [RS.start],fun u hu d hd=>?_,fun i hi=>?_,fun i hi=>?_,fun i hi h0=>?_,rfl⟩
 ·rw [List.mem_singleton.1 hc];exact v
 ·rw [List.mem_singleton.1 hu] at hd;cases hd
 ·obtain rfl:i = 0:=by simpa [RS.start] using hi
  rfl
 ·obtain rfl:i = 0:=by simpa [RS.start] using hi
  rfl
 ·obtain rfl:i = 0:=by simpa [RS.start] using hi
  omega
section
variable {w h:Nat} {cs0:List Int}
theorem see_ok {i d:Nat} {s s':RS} {k:Nat} (o:RS.Ok w h cs0 s) (hi:i < s.T.length) (hd:d < 4) (hs:seeD w h i d s = some (s',k)) :
  RS.Ok w h cs0 s' ∧ s.T <+: s'.T ∧ s.F <+: s'.F ∧ s.W <+: s'.W ∧ s.B <+: s'.B ∧ s'.N = s.N ∧ k < s'.T.length ∧ s'.T.getD k [] = tiltD w h d (s.T.getD i []):=by
 unfold seeD at hs
 simp only at hs
 have hm:=getD_mem (d:=([]:List Int)) hi
 have vi:=o.tray _ hm
 have vt:Vg (w,h,tiltD w h d (s.T.getD i [])):=tiltG_V vi hd
 by_cases hf:findT s.T (tiltD w h d (s.T.getD i [])) < s.T.length
 ·rw [if_pos hf] at hs
  injection hs with hs
  injection hs with h1 h2
  subst h1 h2
  refine ⟨o,List.prefix_refl _,List.prefix_refl _,List.prefix_refl _,List.prefix_refl _,rfl,hf,?_⟩
  rw [getD_lt hf]
  have:=List.findIdx_getElem (w:=hf)
  simpa [findT] using this
 rw [if_neg hf] at hs
 split at hs
 ·cases hs
 rename_i h300
 injection hs with hs
 injection hs with h1 h2
 subst h1 h2
 have hnot:tiltD w h d (s.T.getD i []) ∉ s.T:=fun hmem=>hf (by
  unfold findT
  rw [List.findIdx_lt_length]
  exact ⟨_,hmem,beq_self_eq_true _⟩)
 refine ⟨⟨by simp [o.lF],by simp [o.lW],by simp [o.lB],?_,by simp,fun c hc=>?_,?_,fun u hu e he=>?_,fun j hj=>?_,fun j hj=>?_,fun j hj h0=>?_,?_⟩,List.prefix_append _ _,List.prefix_append _ _,List.prefix_append _ _,List.prefix_append _ _,rfl,by simp,getD_new⟩
 ·have:=o.most;simp;omega
 ·rcases List.mem_append.1 hc with hc | hc
  ·exact o.tray c hc
  ·rw [List.mem_singleton.1 hc];exact vt
 ·rw [List.nodup_append]
  refine ⟨o.nodup,by simp,fun a ha b hb=>?_⟩
  rw [List.mem_singleton.1 hb]
  rintro rfl
  exact hnot ha
 ·rcases List.mem_append.1 hu with hu | hu
  ·exact o.dirs u hu e he
  ·rw [List.mem_singleton.1 hu] at he
   rcases List.mem_append.1 he with he | he
   ·exact o.dirs _ (getD_mem (by rw [o.lW];exact hi)) e he
   ·rw [List.mem_singleton.1 he];exact hd
 ·simp only [List.length_append,List.length_singleton] at hj
  by_cases e:j = s.T.length
  rotate_left
  ·show ((s.W ++ [_]).getD j []).length = (s.F ++ [_]).getD j 0
   rw [getD_app (by rw [o.lW];omega),getD_app (by rw [o.lF];omega)]
   exact o.far j o_m
  subst e
  show ((s.W ++ [_]).getD s.T.length []).length = (s.F ++ [_]).getD s.T.length 0
  rw [show s.T.length = s.W.length from o.lW.symm,getD_new,o.lW,show s.T.length = s.F.length from o.lF.symm,getD_new,List.length_append,o.far i hi];rfl
 ·simp only [List.length_append,List.length_singleton] at hj
  by_cases e:j = s.T.length
  rotate_left
  ·show runD w h cs0 ((s.W ++ [_]).getD j []) = (s.T ++ [_]).getD j []
   rw [getD_app (by rw [o.lW];omega),getD_app o_m]
   exact o.run j o_m
  subst e
  show runD w h cs0 ((s.W ++ [_]).getD s.T.length []) = (s.T ++ [_]).getD s.T.length []
  rw [show (s.W ++ [s.W.getD i [] ++ [d]]).getD s.T.length [] = s.W.getD i [] ++ [d] from by rw [show s.T.length = s.W.length from o.lW.symm,getD_new],getD_new,runD_snoc,o.run i hi]
 ·simp only [List.length_append,List.length_singleton] at hj
  show ((s.B ++ [(i,d)]).getD j (0,0)).1 < j ∧ ((s.B ++ [(i,d)]).getD j (0,0)).2 < 4 ∧ (s.W ++ [s.W.getD i [] ++ [d]]).getD j [] = (s.W ++ [s.W.getD i [] ++ [d]]).getD ((s.B ++ [(i,d)]).getD j (0,0)).1 [] ++ [((s.B ++ [(i,d)]).getD j (0,0)).2]
  by_cases e:j = s.T.length
  rotate_left
  ·obtain ⟨b1,b2,b3⟩:=o.back j o_m h0
   rw [getD_app (by rw [o.lB];omega),getD_app (by rw [o.lW];omega),getD_app (by rw [o.lW];omega)]
   exact ⟨b1,b2,b3⟩
  subst e
  rw [show (s.B ++ [(i,d)]).getD s.T.length (0,0) = (i,d) from by rw [show s.T.length = s.B.length from o.lB.symm,getD_new],show (s.W ++ [s.W.getD i [] ++ [d]]).getD s.T.length [] = s.W.getD i [] ++ [d] from by rw [show s.T.length = s.W.length from o.lW.symm,getD_new]]
  refine ⟨hi,hd,?_⟩
  show _ = (s.W ++ [s.W.getD i [] ++ [d]]).getD i [] ++ [d]
  rw [getD_app (by rw [o.lW];exact hi)]
 ·show (s.W ++ [_]).getD 0 [] = []
  rw [getD_app (by rw [o.lW];have:=o.pos;omega)]
  exact o.first
theorem seeAll_ok {i:Nat}:∀ (ds:List Nat),(∀ d ∈ ds,d < 4) → ∀ {s s':RS} {next next':List Nat},RS.Ok w h cs0 s → i < s.T.length → (∀ k ∈ next,k < s.T.length) → seeAll w h i ds s next = some (s',next') →
  RS.Ok w h cs0 s' ∧ s.T <+: s'.T ∧ s.F <+: s'.F ∧ s.W <+: s'.W ∧ s.B <+: s'.B ∧ s'.N = s.N ∧ (∀ k ∈ next',k < s'.T.length) ∧ next'.length = next.length + ds.length
 | [],_,s,s',next,next',o,hi,hn,hs=>by
  injection hs with hs
  injection hs with h1 h2
  subst h1 h2
  exact ⟨o,List.prefix_refl _,List.prefix_refl _,List.prefix_refl _,List.prefix_refl _,rfl,hn,rfl⟩
 | d :: ds,hd,s,s',next,next',o,hi,hn,hs=>by
  unfold seeAll at hs
  obtain ⟨⟨s1,k⟩,h1,hs⟩:=Option.bind_eq_some_iff.1 hs
  obtain ⟨o1,p1,p2,p3,p4,p5,p6,_⟩:=see_ok o hi (hd d List.mem_cons_self) h1
  have hi1:i < s1.T.length:=Nat.lt_of_lt_of_le hi p1.length_le
  obtain ⟨o2,q1,q2,q3,q4,q5,q6,q7⟩:=seeAll_ok ds (fun e he=>hd e (List.mem_cons_of_mem _ he)) o1 hi1 (fun x hx=>by
   rcases List.mem_append.1 hx with hx | hx
   ·exact Nat.lt_of_lt_of_le (hn x hx) p1.length_le
   ·rw [List.mem_singleton.1 hx];exact p6) hs
  exact ⟨o2,p1.trans q1,p2.trans q2,p3.trans q3,p4.trans q4,q5.trans p5,q6,by rw [q7];simp;omega⟩
structure RS.Ok2 (w h:Nat) (cs0:List Int) (i:Nat) (s:RS):Prop where
 ok:RS.Ok w h cs0 s
 lN:s.N.length = i
 le:i ≤ s.T.length
 next:∀ l ∈ s.N,l.length = 4 ∧ ∀ k ∈ l,k < s.T.length
theorem bfs_ok:∀ (k i:Nat) {s s':RS},RS.Ok2 w h cs0 i s → bfsD w h k i s = some s' → RS.Ok2 w h cs0 s'.T.length s'
 | 0,_,_,_,_,hs=>by cases hs
 | k + 1,i,s,s',o,hs=>by
  unfold bfsD at hs
  by_cases hi:i < s.T.length
  rotate_left
  ·rw [if_neg hi] at hs
   injection hs with hs
   subst hs
   have:i = s.T.length:=by have:=o.le;omega
   rw [← this]
   exact o
  rw [if_pos hi] at hs
  obtain ⟨⟨s1,next⟩,h1,hs⟩:=Option.bind_eq_some_iff.1 hs
  obtain ⟨o1,p1,_,_,_,p5,p6,p7⟩:=seeAll_ok [0,1,2,3] d_c o.ok hi (by simp) h1
  refine bfs_ok k (i + 1) ?_ hs
  refine ⟨⟨o1.lF,o1.lW,o1.lB,o1.most,o1.pos,o1.tray,o1.nodup,o1.dirs,o1.far,o1.run,o1.back,o1.first⟩,?_,Nat.lt_of_lt_of_le hi p1.length_le,fun l hl=>?_⟩
  ·show (s1.N ++ [next]).length = i + 1
   rw [List.length_append,p5,o.lN];rfl
  ·rcases List.mem_append.1 (show l ∈ s1.N ++ [next] from hl) with hl | hl
   ·rw [p5] at hl
    obtain ⟨a1,a2⟩:=o.next l hl
    exact ⟨a1,fun x hx=>Nat.lt_of_lt_of_le (a2 x hx) p1.length_le⟩
   ·rw [List.mem_singleton.1 hl]
    exact ⟨p7,p6⟩
theorem reach_ok {cs:List Int} (v:Vg (w,h,cs)) {s:RS} (hs:reachD w h cs = some s):RS.Ok2 w h cs s.T.length s :=
 bfs_ok 301 0 ⟨RS.Ok.start v,rfl,Nat.zero_le _,fun l hl=>by cases hl⟩ hs
end
def addW (F:List Nat) (i:Nat) (Q:List Int) (a:Nat):List Int:=if F.getD a 0 = F.getD i 0 + 1 then Q.set a (wrap64 (Q.getD a 0 + Q.getD i 0)) else Q
theorem addW_len (F:List Nat) (i:Nat) (Q:List Int) (a:Nat):(addW F i Q a).length = Q.length:=by
 unfold addW;split <;> simp
theorem getD_pre {α:Type} {a b:List α} {i:Nat} {d:α} (hp:a <+: b) (h:i < a.length):b.getD i d = a.getD i d:=by
 obtain ⟨t,rfl⟩:=hp
 rw [List.getD_eq_getElem?_getD,List.getD_eq_getElem?_getD,List.getElem?_append_left h]
theorem addW_pad {F F':List Nat} (hp:F <+: F') {i a:Nat} {Q Y:List Int} (hQ:Q.length = F.length) (hi:i < F.length) (ha:a < F.length):addW F' i (Q ++ Y) a = addW F i Q a ++ Y:=by
 unfold addW
 rw [getD_pre hp ha,getD_pre hp hi,getD_pre (List.prefix_append Q Y) o_m,getD_pre (List.prefix_append Q Y) o_m]
 split
 ·rw [List.set_append_left _ _ o_m]
 ·rfl
def zerosI (n:Nat):List Int:=List.replicate n 0
theorem zerosI_len (n:Nat):(zerosI n).length = n:=List.length_replicate
theorem zerosI_add (a b:Nat):zerosI (a + b) = zerosI a ++ zerosI b:=by unfold zerosI;rw [List.replicate_append_replicate]
def seeQ (w h i d:Nat) (s:RS) (Q:List Int):Option (RS × List Int × Nat):=(seeD w h i d s).map fun q=>(q.1,addW q.1.F i (if s.T.length < q.1.T.length then Q ++ [0] else Q) q.2,q.2)
def seeAllQ (w h i:Nat):List Nat → RS → List Int → List Nat → Option (RS × List Int × List Nat)
 | [],s,Q,next=>some (s,Q,next)
 | d :: ds,s,Q,next=>(seeQ w h i d s Q).bind fun q=>seeAllQ w h i ds q.1 q.2.1 (next ++ [q.2.2])
def bfsQ (w h:Nat):Nat → Nat → RS → List Int → Option (RS × List Int)
 | 0,_,_,_=>none
 | k + 1,i,s,Q=>if i < s.T.length then (seeAllQ w h i [0,1,2,3] s Q []).bind fun q=>bfsQ w h k (i + 1) { q.1 with N:=q.1.N ++ [q.2.2] } q.2.1 else some (s,Q)
def waysN (F:List Nat):Nat → List (List Nat) → List Int → List Int
 | _,[],Q=>Q
 | i,l :: ls,Q=>waysN F (i + 1) ls (l.foldl (addW F i) Q)
def waysL (s:RS):List Int:=waysN s.F 0 s.N (1 :: zerosI (s.T.length - 1))
theorem seeAll_pre {w h i:Nat}:∀ (ds:List Nat) {s s':RS} {next next':List Nat},seeAll w h i ds s next = some (s',next') → next <+: next'
 | [],s,s',next,next',hs=>by
  injection hs with hs
  injection hs with _ h2
  subst h2
  exact List.prefix_refl _
 | d :: ds,s,s',next,next',hs=>by
  unfold seeAll at hs
  obtain ⟨⟨s1,k⟩,h1,hs⟩:=Option.bind_eq_some_iff.1 hs
  exact (List.prefix_append next [k]).trans (seeAll_pre ds hs)
section
variable {w h:Nat} {cs0:List Int}
theorem seeAllQ_of {i:Nat}:∀ (ds:List Nat),(∀ d ∈ ds,d < 4) → ∀ {s s1:RS} {next n1:List Nat} (Q:List Int),RS.Ok w h cs0 s → i < s.T.length → Q.length = s.T.length → seeAll w h i ds s next = some (s1,n1) →
  ∃ Q1,seeAllQ w h i ds s Q next = some (s1,Q1,n1) ∧ Q1.length = s1.T.length ∧ s.T.length ≤ s1.T.length ∧ ∀ (F':List Nat) (Z:List Int),s1.F <+: F' → Q1 ++ Z = (n1.drop next.length).foldl (addW F' i) (Q ++ (zerosI (s1.T.length - s.T.length) ++ Z))
 | [],_,s,s1,next,n1,Q,o,hi,hQ,hs=>by
  injection hs with hs
  injection hs with h1 h2
  subst h1 h2
  refine ⟨Q,rfl,hQ,Nat.le_refl _,fun F' Z _=>?_⟩
  rw [List.drop_length,Nat.sub_self]
  rfl
 | d :: ds,hd,s,s1,next,n1,Q,o,hi,hQ,hs=>by
  unfold seeAll at hs
  obtain ⟨⟨s2,a⟩,h1,hs⟩:=Option.bind_eq_some_iff.1 hs
  simp only at hs
  obtain ⟨o2,p1,p2,p3,p4,p5,p6,_⟩:=see_ok o hi (hd d List.mem_cons_self) h1
  have hle2:=p1.length_le
  have hi2:i < s2.T.length:=Nat.lt_of_lt_of_le hi hle2
  obtain ⟨Qp,hQp⟩:∃ Qp,Q ++ zerosI (s2.T.length - s.T.length) = Qp:=⟨_,rfl⟩
  have hQpl:Qp.length = s2.T.length:=by rw [← hQp,List.length_append,zerosI_len];omega
  have hnew:s2.T.length = s.T.length ∨ s2.T.length = s.T.length + 1:=by
   unfold seeD at h1
   simp only at h1
   split at h1
   ·injection h1 with h1;injection h1 with h1 _;subst h1;exact .inl rfl
   ·split at h1
    ·cases h1
    ·injection h1 with h1;injection h1 with h1 _;subst h1;exact .inr (by simp)
  have hQe:(if s.T.length < s2.T.length then Q ++ [0] else Q) = Qp:=by
   rw [← hQp]
   rcases hnew with e | e
   ·rw [if_neg o_m,e,Nat.sub_self];exact (List.append_nil Q).symm
   ·rw [if_pos o_m,e,Nat.add_sub_cancel_left];rfl
  obtain ⟨Q1,e1,e2,e3,e4⟩:=seeAllQ_of ds (fun e he=>hd e (List.mem_cons_of_mem _ he)) (addW s2.F i Qp a) o2 hi2 (by rw [addW_len];exact hQpl) hs
  refine ⟨Q1,?_,e2,Nat.le_trans hle2 e3,fun F' Z hF=>?_⟩
  ·unfold seeAllQ seeQ
   rw [h1,Option.map_some,Option.bind_some]
   simp only
   rw [hQe]
   exact e1
  ·rw [e4 F' Z hF]
   have hpre:=seeAll_pre ds hs
   have hdr:n1.drop next.length = a :: n1.drop (next ++ [a]).length:=by
    obtain ⟨t,rfl⟩:=hpre
    rw [List.append_assoc,List.drop_left,show next ++ ([a] ++ t) = (next ++ [a]) ++ t from (List.append_assoc _ _ _).symm,List.drop_left]
    rfl
   rw [hdr,List.foldl_cons]
   congr 1
   have hsplit:Q ++ (zerosI (s1.T.length - s.T.length) ++ Z) = Qp ++ (zerosI (s1.T.length - s2.T.length) ++ Z):=by
    rw [← hQp,show s1.T.length - s.T.length = (s2.T.length - s.T.length) + (s1.T.length - s2.T.length) by omega,zerosI_add]
    simp only [List.append_assoc]
   rw [hsplit]
   obtain ⟨_,_,q2,_⟩:=seeAll_ok ds (fun e he=>hd e (List.mem_cons_of_mem _ he)) (next:=([]:List Nat)) (next':=n1.drop (next ++ [a]).length) o2 hi2 (by simp) (by
    have:∀ (ds:List Nat) (s:RS) (m n:List Nat) (s':RS) (n':List Nat),seeAll w h i ds s (m ++ n) = some (s',n') → seeAll w h i ds s n = some (s',n'.drop m.length):=by
     intro ds
     induction ds with
     | nil =>
      intro s m n s' n' hh
      injection hh with hh
      injection hh with a1 a2
      subst a1 a2
      rw [List.drop_left];rfl
     | cons d ds ih =>
      intro s m n s' n' hh
      unfold seeAll at hh ⊢
      obtain ⟨q,b1,b2⟩:=Option.bind_eq_some_iff.1 hh
      rw [b1,Option.bind_some]
      rw [List.append_assoc] at b2
      exact ih _ _ _ _ _ b2
    have h0:=this ds s2 (next ++ [a]) [] s1 n1 (by rw [List.append_nil];exact hs)
    exact h0)
   exact (addW_pad (q2.trans hF) (by rw [hQpl,o2.lF]) (by rw [o2.lF];exact hi2) (by rw [o2.lF];exact p6)).symm
theorem bfsQ_of:∀ (k i:Nat) {s s':RS} (Q:List Int),RS.Ok2 w h cs0 i s → Q.length = s.T.length → bfsD w h k i s = some s' →
  s.N <+: s'.N ∧ s.T.length ≤ s'.T.length ∧ s.F <+: s'.F ∧ bfsQ w h k i s Q = some (s',waysN s'.F i (s'.N.drop i) (Q ++ zerosI (s'.T.length - s.T.length)))
 | 0,_,_,_,_,_,_,hs=>by cases hs
 | k + 1,i,s,s',Q,o,hQ,hs=>by
  unfold bfsD at hs
  unfold bfsQ
  by_cases hi:i < s.T.length
  rotate_left
  ·rw [if_neg hi] at hs ⊢
   injection hs with hs
   subst hs
   have e:i = s.T.length:=by have:=o.le;omega
   refine ⟨List.prefix_refl _,Nat.le_refl _,List.prefix_refl _,?_⟩
   rw [List.drop_of_length_le (by rw [o.lN];exact Nat.le_refl _),Nat.sub_self]
   show some (s,Q) = some (s,Q ++ zerosI 0)
   rw [show zerosI 0 = [] from rfl,List.append_nil]
  rw [if_pos hi] at hs ⊢
  obtain ⟨⟨s1,next⟩,h1,hs⟩:=Option.bind_eq_some_iff.1 hs
  simp only at hs
  obtain ⟨o1,p1,p2,_,_,p5,p6,p7⟩:=seeAll_ok [0,1,2,3] d_c o.ok hi (by simp) h1
  obtain ⟨Q1,e1,e2,e3,e4⟩:=seeAllQ_of [0,1,2,3] d_c Q o.ok hi hQ h1
  have o2:RS.Ok2 w h cs0 (i + 1) { s1 with N:=s1.N ++ [next] }:=by
   refine ⟨⟨o1.lF,o1.lW,o1.lB,o1.most,o1.pos,o1.tray,o1.nodup,o1.dirs,o1.far,o1.run,o1.back,o1.first⟩,?_,Nat.lt_of_lt_of_le hi p1.length_le,fun l hl=>?_⟩
   ·show (s1.N ++ [next]).length = i + 1
    rw [List.length_append,p5,o.lN];rfl
   ·rcases List.mem_append.1 (show l ∈ s1.N ++ [next] from hl) with hl | hl
    ·rw [p5] at hl
     obtain ⟨a1,a2⟩:=o.next l hl
     exact ⟨a1,fun x hx=>Nat.lt_of_lt_of_le (a2 x hx) p1.length_le⟩
    ·rw [List.mem_singleton.1 hl]
     exact ⟨p7,p6⟩
  obtain ⟨f1,f2,f3,f4⟩:=bfsQ_of k (i + 1) Q1 o2 e2 hs
  have hN1:s1.N ++ [next] <+: s'.N:=f1
  have hdr:s'.N.drop i = next :: s'.N.drop (i + 1):=by
   obtain ⟨t,ht⟩:=hN1
   have hl:s1.N.length = i:=by rw [p5];exact o.lN
   rw [← ht,List.append_assoc,List.drop_left' hl,show s1.N ++ ([next] ++ t) = (s1.N ++ [next]) ++ t from (List.append_assoc _ _ _).symm,List.drop_left' (by rw [List.length_append,hl];rfl)]
   rfl
  refine ⟨?_,Nat.le_trans e3 f2,p2.trans f3,?_⟩
  ·rw [← p5];exact (List.prefix_append _ _).trans hN1
  ·rw [e1,Option.bind_some]
   simp only
   rw [f4,hdr]
   show some (s',waysN s'.F (i + 1) (s'.N.drop (i + 1)) (Q1 ++ zerosI (s'.T.length - s1.T.length))) = some (s',waysN s'.F (i + 1) (s'.N.drop (i + 1)) (next.foldl (addW s'.F i) (Q ++ zerosI (s'.T.length - s.T.length))))
   rw [e4 s'.F (zerosI (s'.T.length - s1.T.length)) f3,← zerosI_add,show s1.T.length - s.T.length + (s'.T.length - s1.T.length) = s'.T.length - s.T.length from by have:s1.T.length ≤ s'.T.length:=f2;omega]
   rfl
theorem reachQ_of {cs:List Int} (v:Vg (w,h,cs)) {s:RS} (hs:reachD w h cs = some s):bfsQ w h 301 0 (RS.start cs) [1] = some (s,waysL s):=by
 obtain ⟨_,f2,_,f4⟩:=bfsQ_of (cs0:=cs) 301 0 [1] ⟨RS.Ok.start v,rfl,Nat.zero_le _,fun l hl=>by cases hl⟩ rfl hs
 rw [f4,List.drop_zero]
 rfl
end
theorem seeAllQ_fst {w h i:Nat}:∀ (ds:List Nat) (s:RS) (Q:List Int) (next:List Nat),(seeAllQ w h i ds s Q next).map (fun q=>(q.1,q.2.2)) = seeAll w h i ds s next
 | [],s,Q,next=>rfl
 | d :: ds,s,Q,next=>by
  unfold seeAllQ seeAll seeQ
  cases hs:seeD w h i d s with
  | none=>rfl
  | some q=>exact seeAllQ_fst ds q.1 _ (next ++ [q.2])
theorem bfsQ_fst {w h:Nat}:∀ (k i:Nat) (s:RS) (Q:List Int),(bfsQ w h k i s Q).map Prod.fst = bfsD w h k i s
 | 0,_,_,_=>rfl
 | k + 1,i,s,Q=>by
  unfold bfsQ bfsD
  split
  ·rw [← seeAllQ_fst [0,1,2,3] s Q []]
   cases hs:seeAllQ w h i [0,1,2,3] s Q [] with
   | none=>rfl
   | some q=>exact bfsQ_fst k (i + 1) _ _
  ·rfl
def nodeF (tx:List Int → ByteArray) (w h:Nat) (s:RS) (Q:List Int) (P:List Nat) (i:Nat):Node :=
 { w:=w,h:=h,grid:=s.T.getD i [],text:=tx (s.T.getD i []),far:=(s.F.getD i 0:Nat),words:=Q.getD i 0,before:=if i = 0 then -1 else ((s.B.getD i (0,0)).1:Nat),dir:=((s.B.getD i (0,0)).2:Nat),next:=castsI (if i < s.N.length then s.N.getD i [] else if i = s.N.length then P else []) }
def nodesL (tx:List Int → ByteArray) (w h:Nat) (s:RS) (Q:List Int) (P:List Nat):List Node:=(List.range s.T.length).map (nodeF tx w h s Q P)
section
variable {tx:List Int → ByteArray} {w h:Nat} {s:RS} {Q:List Int} {P:List Nat}
theorem nodesL_len:(nodesL tx w h s Q P).length = s.T.length:=by unfold nodesL;simp
theorem nodesL_get {i:Nat} (hi:i < (nodesL tx w h s Q P).length):(nodesL tx w h s Q P)[i] = nodeF tx w h s Q P i  := by
 show ((List.range s.T.length).map (nodeF tx w h s Q P))[i]'(by simpa [nodesL] using hi) = _
 rw [List.getElem_map,List.getElem_range]
theorem nodesL_push {c:List Int} {f k d:Nat} {u:List Nat} (lF:s.F.length = s.T.length) (lB:s.B.length = s.T.length) (lQ:Q.length = s.T.length) (hk:s.N.length < s.T.length) (h0:0 < s.T.length) :
  nodesL tx w h { s with T:=s.T ++ [c],F:=s.F ++ [f],W:=s.W ++ [u],B:=s.B ++ [(k,d)] } (Q ++ [0]) P = nodesL tx w h s Q P ++ [{ w:=w,h:=h,grid:=c,text:=tx c,far:=(f:Nat),words:=0,before:=(k:Nat),dir:=(d:Nat),next:=[] }]:=by
 unfold nodesL
 rw [show (s.T ++ [c]).length = s.T.length + 1 by simp,List.range_succ,List.map_append]
 congr 1
 ·apply List.map_congr_left
  intro i hi
  have hi':=List.mem_range.1 hi
  unfold nodeF
  (try simp only)
  rw [getD_app hi',getD_app o_m,getD_app o_m,getD_app o_m]
 ·show [nodeF _ _ _ _ _ _ _] = _
  unfold nodeF
  (try simp only)
  rw [getD_new,show s.T.length = s.F.length from lF.symm,getD_new,lF,show s.T.length = s.B.length from lB.symm,getD_new,lB,show s.T.length = Q.length from lQ.symm,getD_new,lQ,if_neg o_m,if_neg o_m,if_neg o_m]
  rfl
theorem nodesL_words {a:Nat} {x:Int} (ha:a < (nodesL tx w h s Q P).length) (lQ:Q.length = s.T.length):nodesL tx w h s (Q.set a x) P = (nodesL tx w h s Q P).set a { (nodesL tx w h s Q P)[a] with words:=x }:=by
 have hal:a < s.T.length:=by rw [nodesL_len] at ha;exact ha
 apply List.ext_getElem (by simp [nodesL_len])
 intro i h1 h2
 rw [nodesL_get,List.getElem_set]
 split
 ·rename_i e
  subst e
  rw [nodesL_get]
  unfold nodeF
  (try simp only)
  rw [show (Q.set a x).getD a 0 = x from by rw [getD_lt (by rw [List.length_set];omega),List.getElem_set_self]]
 ·rename_i e
  rw [nodesL_get]
  unfold nodeF
  (try simp only)
  rw [show (Q.set a x).getD i 0 = Q.getD i 0 from by rw [List.getD_eq_getElem?_getD,List.getD_eq_getElem?_getD,List.getElem?_set_ne e]]
theorem nodesL_way {a:Nat} (hk:s.N.length < (nodesL tx w h s Q P).length):nodesL tx w h s Q (P ++ [a]) = (nodesL tx w h s Q P).set s.N.length { (nodesL tx w h s Q P)[s.N.length] with next:=(nodesL tx w h s Q P)[s.N.length].next ++ [((a:Nat):Int)] }:=by
 apply List.ext_getElem (by simp [nodesL_len])
 intro i h1 h2
 rw [nodesL_get,List.getElem_set]
 split
 ·rename_i e
  subst e
  rw [nodesL_get]
  unfold nodeF
  (try simp only)
  simp only [Nat.lt_irrefl,if_false,if_true,castsI,List.map_append]
  rfl
 ·rename_i e
  rw [nodesL_get]
  unfold nodeF
  (try simp only)
  rw [show ∀ X:List Nat,(if i = s.N.length then X else []) = [] from fun X=>if_neg (fun q=>e q.symm),show ∀ X:List Nat,(if i = s.N.length then X else []) = [] from fun X=>if_neg (fun q=>e q.symm)]
theorem nodesL_row:nodesL tx w h { s with N:=s.N ++ [P] } Q [] = nodesL tx w h s Q P:=by
 unfold nodesL
 apply List.map_congr_left
 intro i hi
 unfold nodeF
 (try simp only)
 rw [List.length_append,List.length_singleton]
 congr 2
 by_cases e1:i < s.N.length
 ·rw [if_pos o_m,if_pos e1,getD_app e1]
 by_cases e2:i = s.N.length
 ·rw [if_pos o_m,if_neg e1,if_pos e2,e2,getD_new]
 rw [if_neg o_m,if_neg e1,if_neg e2]
 split <;> rfl
end
end Go.Proofs.YtldhkbiomingbaaGreatDoor

namespace Go.Proofs.YtldhkbiomingbaaGreatDoor.F
open Go.RowKit Go.Proofs.YtldhkbiomingbaaGreatDoor Go.YW.PrintWords Classical
theorem impl_isSize_eq (w h:Int) (hw:0 ≤ w ∧ w ≤ 4294967296) (hh:0 ≤ h ∧ h ≤ 4294967296):impl_isSize.f w h = some (decide ((1 ≤ w ∧ w ≤ 7) ∧ (1 ≤ h ∧ h ≤ 7) ∧ w * h ≤ 36)):=by
 unfold impl_isSize.f impl_within.f
 by_cases h1:1 ≤ w
 rotate_left
 ·simp [h1]
 by_cases h2:w ≤ 7
 rotate_left
 ·simp [h1,h2]
 by_cases h3:1 ≤ h
 rotate_left
 ·simp [h1,h2,h3]
 by_cases h4:h ≤ 7
 rotate_left
 ·simp [h1,h2,h3,h4]
 have h5:w * h ≤ 7 * 7:=Int.mul_le_mul h2 h4 o_m o_m
 have h6:0 ≤ w * h:=Int.mul_nonneg o_m o_m
 simp [h1,h2,h3,h4,w64 (n:=w * h) o_m o_m]
theorem dropWhile_nil {α:Type} (p:α → Bool):∀ l:List α,l.dropWhile p = [] ↔ ∀ a ∈ l,p a = true
 | []=>by simp
 | a :: l=>by
  rw [List.dropWhile_cons]
  by_cases h:p a = true
  rotate_left
  ·rw [if_neg h];simp [h]
  rw [if_pos h,dropWhile_nil p l];simp [h]
theorem trimS_nil_iff (l cs:List UInt8):Lib.trimS l cs = [] ↔ ∀ b ∈ l,b ∈ cs:=by
 unfold Lib.trimS Lib.trimLeftS Lib.trimRightS
 rw [dropWhile_nil]
 constructor
 ·intro h b hb
  rcases Classical.em (∀ b ∈ l,cs.contains b = true) with h1 | h1
  ·simpa using h1 b hb
  ·exfalso
   have h2:¬ l.reverse.dropWhile (cs.contains ·) = []:=by
    rw [dropWhile_nil]
    intro h3;exact h1 (fun b hb=>h3 b (List.mem_reverse.2 hb))
   have h3:=List.head_dropWhile_not (cs.contains ·) (l:=l.reverse) h2
   have h4:=h ((l.reverse.dropWhile (cs.contains ·)).head h2) (List.mem_reverse.2 (List.head_mem h2))
   rw [h3] at h4;cases h4
 ·intro h b hb
  have:b ∈ l:=by
   have h1:=List.mem_reverse.1 hb
   exact List.mem_reverse.1 ((List.dropWhile_sublist _).subset h1)
  simpa using h b this
theorem toList_nil_iff (s:ByteArray):s.toList = [] ↔ s.data.toList = []:=by rw [Lib.toList_data]
theorem trim_nil (s cut t:ByteArray) (hs:s.size ≤ 9223372036854775807) (hc:cut.size < 4294967281) (ha:asciiB cut = true) :
  ∃ t,strings_Trim.f s cut = some t ∧ (t.toList = [] ↔ ∀ c ∈ bytesOf s,c ∈ bytesOf cut):=by
 refine ⟨_,if_pos ⟨hs,hc,ha⟩,?_⟩
 rw [toList_nil_iff]
 simp only [trimS_nil_iff]
 unfold bytesOf
 constructor
 ·intro h c hcm
  obtain ⟨b,hb,rfl⟩:=List.mem_map.1 hcm
  exact List.mem_map.2 ⟨b,h b hb,rfl⟩
 ·intro h b hb
  obtain ⟨b',hb',he⟩:=List.mem_map.1 (h _ (List.mem_map.2 ⟨b,hb,rfl⟩))
  have:b' = b:=UInt8.toNat_inj.1 o_m
  rwa [← this]
theorem cellSet (c:Int):c ∈ bytesOf (⟨#[35,46,111,97,98,99,100,101,102]⟩:ByteArray) ↔ isCellC c = true:=by
 have:bytesOf (⟨#[35,46,111,97,98,99,100,101,102]⟩:ByteArray) = [35,46,111,97,98,99,100,101,102]:=by decide
 rw [this]
 unfold isCellC isBallC isNameC
 simp
 omega
theorem count_rune (s:ByteArray) (n:Nat) (h1:97 ≤ n) (h2:n ≤ 102):strings_Count.f s (Utf8.encode n) = some (((bytesOf s).count (n:Int):Nat):Int):=by
 have he:Utf8.encode (n:Int) = ⟨#[UInt8.ofNat n]⟩:=by
  have:n = 97 ∨ n = 98 ∨ n = 99 ∨ n = 100 ∨ n = 101 ∨ n = 102:=by omega
  rcases this with rfl | rfl | rfl | rfl | rfl | rfl <;> rfl
 rw [he]
 have h3:strings_Count.f s ⟨#[UInt8.ofNat n]⟩ = some ((Lib.countByte s.data.toList (UInt8.ofNat n):Nat):Int):=if_pos rfl
 rw [h3]
 have hco:Lib.countByte s.data.toList (UInt8.ofNat n) = (bytesOf s).count (n:Int):=?_
 ·rw [hco]
 unfold Lib.countByte bytesOf
 have hn:(UInt8.ofNat n).toNat = n:=by
  rw [UInt8.toNat_ofNat'];omega
 rw [List.count_eq_countP,List.count_eq_countP,List.countP_map]
 apply List.countP_congr
 intro b _
 simp only [beq_iff_eq,Function.comp]
 constructor
 ·rintro rfl;omega
 ·intro h;exact UInt8.toNat_inj.1 o_m
theorem IsTray_l1 (s:ByteArray):∀ (d n:Nat),n + d = 103 → 97 ≤ n → 
  Ev (fun k=>impl_IsTray.l1 k s n) (decide (∀ m:Int,n ≤ m → m ≤ 102 → (bytesOf s).count m ≤ 1)):=by
 intro d
 induction d with
 | zero =>
  intro n hn _
  rw [decide_eq_true (by intro m h1 h2;omega)]
  exact Ev.step (f:=fun _=>some true) (fun k=>by rw [impl_IsTray.l1,if_neg o_m]) (Ev.now _)
 | succ d ih =>
  intro n hn h97
  have hih:=ih (n + 1) o_m o_m
  by_cases hc:(bytesOf s).count (n:Int) > 1
  ·rw [decide_eq_false (by intro h;have:=h n (Int.le_refl _) o_m;omega)]
   refine Ev.step (f:=fun _=>some false) (fun k=>?_) (Ev.now _)
   rw [impl_IsTray.l1,if_pos o_m,count_rune s n h97 o_m,Option.bind_some,if_pos o_m]
  have he:(∀ m:Int,n ≤ m → m ≤ 102 → (bytesOf s).count m ≤ 1) ↔ (∀ m:Int,(n + 1:Nat) ≤ m → m ≤ 102 → (bytesOf s).count m ≤ 1):=by
   constructor
   ·intro h m h1 h2;exact h m o_m h2
   ·intro h m h1 h2
    rcases Int.lt_or_le n m with h3 | h3
    ·exact h m o_m h2
    ·obtain rfl:m = n:=by omega
     omega
  simp only [he]
  refine Ev.step (fun k=>?_) hih
  rw [impl_IsTray.l1,if_pos o_m,count_rune s n h97 o_m,Option.bind_some,if_neg o_m,w32 o_m o_m]
  rfl
theorem IsTray_l0 (s:ByteArray) (rows:List ByteArray) (r0:ByteArray) (rest:List ByteArray) (hr:rows = r0 :: rest) (hl:rows.length ≤ 4294967296) (hb:∀ r ∈ rows,r.size ≤ 4294967296):∀ (d i:Nat),i + d = rows.length →
  Ev (fun k=>impl_IsTray.l0 k s rows rows rows.length i) (decide ((∀ r ∈ rows.drop i,r.size = r0.size ∧ ∀ c ∈ bytesOf r,isCellC c = true) ∧ ∀ m:Int,97 ≤ m → m ≤ 102 → (bytesOf s).count m ≤ 1)):=by
 intro d
 induction d with
 | zero =>
  intro i hi
  have hd:rows.drop i = []:=by rw [List.drop_eq_nil_iff];omega
  have h1:=IsTray_l1 s 6 97 o_m o_m
  have he:((∀ r ∈ rows.drop i,r.size = r0.size ∧ ∀ c ∈ bytesOf r,isCellC c = true) ∧ ∀ m:Int,97 ≤ m → m ≤ 102 → (bytesOf s).count m ≤ 1) ↔ (∀ m:Int,(97:Nat) ≤ m → m ≤ 102 → (bytesOf s).count m ≤ 1):=by
   rw [hd];simp
  simp only [he]
  exact Ev.step (fun k=>by rw [impl_IsTray.l0,if_neg o_m];rfl) h1
 | succ d ih =>
  intro i hi
  have hih:=ih (i + 1) o_m
  have hlt:i < rows.length:=by omega
  have hd:rows.drop i = rows[i] :: rows.drop (i + 1):=List.drop_eq_getElem_cons hlt
  have hri:rdOf ByteArray.empty rows (i:Int) = rows[i]:=by
   unfold rdOf;rw [Int.toNat_natCast,List.getD_eq_getElem?_getD,List.getElem?_eq_getElem hlt];rfl
  have hr0:rdOf ByteArray.empty rows 0 = r0:=by unfold rdOf;rw [hr];rfl
  have hsz:rows[i].size ≤ 4294967296:=hb _ (List.getElem_mem ..)
  have hstep:∀ k,impl_IsTray.l0 (k + 1) s rows rows rows.length i = (if ((rows[i]).size:Int) = (r0.size:Int) then ((strings_Trim.f (rows[i]) (⟨#[35,46,111,97,98,99,100,101,102]⟩:ByteArray)).bind fun t141=>(if t141.toList = ([]:List UInt8) then (impl_IsTray.l0 k s rows rows rows.length (i + 1:Nat)) else (some false))) else (some false)):=fun k=>by
   rw [impl_IsTray.l0,if_pos o_m,if_pos o_m,if_pos o_m,if_pos o_m,hri,hr0,w64 o_m o_m]
   rfl
  refine Ev.step hstep ?_
  by_cases hz:rows[i].size = r0.size
  rotate_left
  ·simp only [if_neg (show ¬ (rows[i].size:Int) = r0.size by omega)]
   rw [decide_eq_false]
   ·exact Ev.now _
   ·rintro ⟨h1,_⟩
    exact hz (h1 rows[i] (by rw [hd];exact List.mem_cons_self ..)).1
  simp only [if_pos (show (rows[i].size:Int) = r0.size by omega)]
  obtain ⟨t,ht,hiff⟩:=trim_nil rows[i] (⟨#[35,46,111,97,98,99,100,101,102]⟩:ByteArray) ByteArray.empty o_m d_c d_c
  rw [ht]
  simp only [Option.bind_some]
  by_cases hc:∀ c ∈ bytesOf rows[i],isCellC c = true
  rotate_left
  ·simp only [if_neg (fun e=>hc fun c hcm=>(cellSet c).1 (hiff.1 e c hcm))]
   rw [decide_eq_false]
   ·exact Ev.now _
   ·rintro ⟨h1,_⟩
    exact hc (h1 rows[i] (by rw [hd];exact List.mem_cons_self ..)).2
  simp only [if_pos (hiff.2 fun c hcm=>(cellSet c).2 (hc c hcm))]
  have he:((∀ r ∈ rows.drop i,r.size = r0.size ∧ ∀ c ∈ bytesOf r,isCellC c = true) ∧ ∀ m:Int,97 ≤ m → m ≤ 102 → (bytesOf s).count m ≤ 1) ↔ ((∀ r ∈ rows.drop (i + 1),r.size = r0.size ∧ ∀ c ∈ bytesOf r,isCellC c = true) ∧ ∀ m:Int,97 ≤ m → m ≤ 102 → (bytesOf s).count m ≤ 1):=by
   rw [hd];simp only [List.mem_cons,forall_eq_or_imp]
   constructor
   ·rintro ⟨⟨_,h2⟩,h3⟩;exact ⟨h2,h3⟩
   ·rintro ⟨h2,h3⟩;exact ⟨⟨⟨hz,hc⟩,h2⟩,h3⟩
  simp only [he]
  exact hih
theorem impl_IsTray_ev (s:ByteArray) (hs:s.size < 4294967281):Ev (fun k=>impl_IsTray.f k s) (tyGrid (bytesOf s)).isSome:=by
 have hsp:strings_Split.f s (⟨#[47]⟩:ByteArray) = some (rowsB 47 s):=if_pos ⟨hs,rfl⟩
 have hmap:(rowsB 47 s).map bytesOf = rowsI 47 (bytesOf s):=rowsB_bytes 47 s
 cases hr:rowsI 47 (bytesOf s) with
 | nil=>exact absurd hr (rowsI_ne _ _)
 | cons q qs =>
  have hlen:=rowsI_length 47 (bytesOf s) q qs hr
  rw [bytesOf_length] at hlen
  rw [hr] at hmap
  cases hrb:rowsB 47 s with
  | nil=>rw [hrb] at hmap;cases hmap
  | cons r0 rest =>
   rw [hrb,List.map_cons,List.cons.injEq] at hmap
   obtain ⟨hq,hqs⟩:=hmap
   have hq0:q.length = r0.size:=by rw [← hq,bytesOf_length]
   have hql:qs.length = rest.length:=by rw [← hqs,List.length_map]
   have hrow:∀ r ∈ r0 :: rest,r.size ≤ 4294967296:=by
    intro r hm
    rcases List.mem_cons.1 hm with rfl | hm
    ·omega
    ·have h1:bytesOf r ∈ qs:=by rw [← hqs];exact List.mem_map.2 ⟨r,hm,rfl⟩
     have h2:=(List.sublist_flatten_of_mem h1).length_le
     rw [bytesOf_length] at h2;omega
   have hiff:(tyGrid (bytesOf s)).isSome = decide (((1 ≤ (r0.size:Int) ∧ (r0.size:Int) ≤ 7) ∧ (1 ≤ ((r0 :: rest).length:Int) ∧ ((r0 :: rest).length:Int) ≤ 7) ∧ (r0.size:Int) * ((r0 :: rest).length:Int) ≤ 36) ∧
     (∀ r ∈ (r0 :: rest).drop 0,r.size = r0.size ∧ ∀ c ∈ bytesOf r,isCellC c = true) ∧ ∀ m:Int,97 ≤ m → m ≤ 102 → (bytesOf s).count m ≤ 1):=by
    rw [Bool.eq_iff_iff,tyGrid_iff,decide_eq_true_iff]
    unfold rowsTray
    rw [hr]
    simp only [List.headD_cons,List.length_cons,List.drop_zero,hq0,hql]
    have hg:rowsGood r0.size (q :: qs) ↔ (∀ r ∈ r0 :: rest,r.size = r0.size ∧ ∀ c ∈ bytesOf r,isCellC c = true):=by
     unfold rowsGood
     have e:q :: qs = (r0 :: rest).map bytesOf:=by rw [List.map_cons,hq,hqs]
     rw [e]
     constructor
     ·intro h r hm
      have:=h (bytesOf r) (List.mem_map.2 ⟨r,hm,rfl⟩)
      rwa [bytesOf_length] at this
     ·intro h z hz
      obtain ⟨r,hm,rfl⟩:=List.mem_map.1 hz
      have:=h r hm
      rwa [bytesOf_length]
    rw [hg]
    have hmul:(r0.size:Int) * ((rest.length + 1:Nat):Int) ≤ 36 ↔ r0.size * (rest.length + 1) ≤ 36:=by
     rw [← Int.natCast_mul];omega
    rw [hmul]
    constructor
    ·rintro ⟨h1,h2,h3,h4,h5⟩;exact ⟨⟨by omega,by omega,h3⟩,h4,h5⟩
    ·rintro ⟨⟨h1,h2,h3⟩,h4,h5⟩;exact ⟨by omega,by omega,h3,h4,h5⟩
   rw [hiff]
   unfold impl_IsTray.f
   rw [hsp,hrb]
   simp only [Option.bind_some]
   have h00:rdOf ByteArray.empty (r0 :: rest) 0 = r0:=rfl
   have hln:(r0 :: rest).length ≤ 4294967296:=by simp only [List.length_cons];omega
   simp only [if_pos (show (0:Int) < ((r0 :: rest).length:Int) by simp only [List.length_cons];omega),h00,impl_isSize_eq (r0.size:Int) ((r0 :: rest).length:Int) o_m o_m,Option.bind_some]
   by_cases hsize:(1 ≤ (r0.size:Int) ∧ (r0.size:Int) ≤ 7) ∧ (1 ≤ ((r0 :: rest).length:Int) ∧ ((r0 :: rest).length:Int) ≤ 7) ∧ (r0.size:Int) * ((r0 :: rest).length:Int) ≤ 36
   rotate_left
   ·simp only [decide_eq_false hsize]
    rw [decide_eq_false (fun e=>hsize e.1)]
    exact Ev.now _
   simp only [decide_eq_true hsize,if_true]
   have h0:=IsTray_l0 s (r0 :: rest) r0 rest rfl hln hrow (r0 :: rest).length 0 o_m
   simp only [hsize,true_and]
   exact h0
end Go.Proofs.YtldhkbiomingbaaGreatDoor.F

namespace Go.Proofs.YtldhkbiomingbaaGreatDoor.F
open Go.Proofs.YtldhkbiomingbaaGreatDoor
open Go.RowKit Go.YW.PrintWords Go.YW.PrintLast Go.YW.PrintMore
attribute [local go_sem] max2_int min2_int max_two min_two max_three min_three max_four min_four
def impl_read.f (a0:ByteArray):Option (Int × Int × List Int):=(strings_Split.f a0 (⟨#[47]⟩:ByteArray)).bind fun t102=>(if 0 < (t102.length:Int) then ((strings_Join.f t102 (⟨#[]⟩:ByteArray)).bind fun t106=>((conv_bytes.f t106).bind fun t107=>(some (((rdOf ByteArray.empty t102 0).size:Int),(t102.length:Int),t107)))) else (none))
def impl_read.T2:Bool × List (List Nat × List Nat):=(true,[([],[]),([0],[0]),([1],[1]),([2],[2]),([],[]),([4],[4]),([],[]),([6],[6]),([7],[7]),([3,5,8],[3,5,8]),([9,7,0,1,2,3,4,5,6,7,8,9],[9])])
def impl_read.B2:List Nat:=[0,1,3,7,0,16,0,64,192,511,1023]
theorem impl_read.tab2:rtab .any (opsOf Tryz.f51 2) = impl_read.T2:=by kernel_rfl
theorem impl_read.bits2:waitsOk impl_read.T2.2 impl_read.B2 = true:=by kernel_rfl
end Go.Proofs.YtldhkbiomingbaaGreatDoor.F

namespace Go.Proofs.YtldhkbiomingbaaGreatDoor.F
open Go.RowKit Go.Proofs.YtldhkbiomingbaaGreatDoor Go.YW.PrintWords
theorem tyGrid_some {l:List Int} {w h:Nat} {cs:List Int} (hg:tyGrid l = some (w,h,cs)) :
  (1 ≤ w ∧ w ≤ 7) ∧ (1 ≤ h ∧ h ≤ 7) ∧ cs.length = w * h ∧ w * h ≤ 36 ∧ l.length ≤ 42 ∧ cs = (rowsI 47 l).flatten ∧ w = ((rowsI 47 l).headD []).length ∧ h = (rowsI 47 l).length:=by
 have hs:rowsTray l:=(tyGrid_iff l).1 (by rw [hg];rfl)
 unfold tyGrid at hg
 split at hg
 ·cases hg
 rename_i h42
 cases hr:rowsI 47 l with
 | nil=>exact absurd hr (rowsI_ne _ _)
 | cons r rs =>
  rw [tyGo_start l r rs hr] at hg
  unfold rowsTray at hs
  rw [hr] at hs
  by_cases hc:0 < r.length ∧ rowsGood r.length (r :: rs)
  rotate_left
  ·rw [if_neg hc] at hg
   cases hg
  rw [if_pos hc] at hg
  simp only at hg
  split at hg
  ·rename_i hd
   injection hg with hg
   simp only [Prod.mk.injEq] at hg
   obtain ⟨rfl,rfl,rfl⟩:=hg
   have hf:=rowsGood_flatten hc.2
   simp only [List.length_cons] at hf
   simp only [List.headD_cons,List.length_cons] at hs ⊢
   refine ⟨hs.1,hs.2.1,hf,hs.2.2.1,by omega,?_⟩
   simp
  ·cases hg
theorem join_nil:∀ xs:List (List UInt8),Lib.join xs [] = xs.flatten
 | []=>rfl
 | [a]=>by simp [Lib.join,List.intercalate]
 | a :: b :: l=>by
  have ih:=join_nil (b :: l)
  unfold Lib.join List.intercalate at ih ⊢
  rw [List.intersperse,List.flatten_cons,List.flatten_cons,ih]
  ·simp
  all_goals simp
theorem impl_read_eq (s:ByteArray) {w h:Nat} {cs:List Int} (hg:tyGrid (bytesOf s) = some (w,h,cs)):impl_read.f s = some ((w:Int),(h:Int),cs):=by
 obtain ⟨hw,hh,hl,h36,h42,hcs,hwr,hhr⟩:=tyGrid_some hg
 rw [bytesOf_length] at h42
 have hsp:strings_Split.f s (⟨#[47]⟩:ByteArray) = some (rowsB 47 s):=if_pos ⟨by omega,rfl⟩
 have hmap:(rowsB 47 s).map bytesOf = rowsI 47 (bytesOf s):=rowsB_bytes 47 s
 have hjl:(Lib.join ((rowsB 47 s).map (·.data.toList)) []) = ((rowsB 47 s).map (·.data.toList)).flatten:=join_nil _
 have hbj:bytesOf (joinB (rowsB 47 s) ⟨#[]⟩) = cs:=by
  unfold joinB
  show ((Lib.join ((rowsB 47 s).map (·.data.toList)) []).map fun b:UInt8=>(b.toNat:Int)) = cs
  rw [hjl,List.map_flatten,List.map_map,hcs,← hmap]
  rfl
 have hjs:(joinB (rowsB 47 s) ⟨#[]⟩).size = w * h:=by rw [← bytesOf_length,hbj,hl]
 have hrl:(rowsB 47 s).length = h:=by rw [hhr,← hmap,List.length_map]
 have hjoin:strings_Join.f (rowsB 47 s) (⟨#[]⟩:ByteArray) = some (joinB (rowsB 47 s) ⟨#[]⟩):=by
  refine if_pos ⟨by omega,?_⟩
  have:(Lib.join ((rowsB 47 s).map (·.data.toList)) ([]:List UInt8)).length = w * h:=by
   rw [← hjs];rfl
  show (Lib.join ((rowsB 47 s).map (·.data.toList)) ([]:List UInt8)).length ≤ _
  omega
 have hr0:((rdOf ByteArray.empty (rowsB 47 s) 0).size:Int) = w:=by
  rw [hwr,← hmap]
  cases hrb:rowsB 47 s with
  | nil=>rw [hrb] at hrl;simp at hrl;omega
  | cons a t =>
   show ((a.size:Nat):Int) = _
   simp [bytesOf_length]
 rw [impl_read.f,hsp,Option.bind_some,if_pos o_m,hjoin,Option.bind_some,conv_bytes.f,if_pos o_m,Option.bind_some,hr0,hrl,hbj]
end Go.Proofs.YtldhkbiomingbaaGreatDoor.F

namespace Go.Proofs.YtldhkbiomingbaaGreatDoor.F
open Go.Proofs.YtldhkbiomingbaaGreatDoor
open Go.RowKit Go.YW.PrintWords Go.YW.PrintLast Go.YW.PrintMore
attribute [local go_sem] max2_int min2_int max_two min_two max_three min_three max_four min_four
def slices_Index_byte_byte.l0:Nat → List Int → Int → Int → Int → Option (Int)
 | 0,_,_,_,_=>none
 | k + 1,x0,x1,x7,x8=>if x8 < x7 then (if 0 ≤ x8 then (if x8 < (x0.length:Int) then (if x1 = (rd x0 x8) then (some x8) else (slices_Index_byte_byte.l0 k x0 x1 x7 (wrap64 (x8 + 1)))) else (none)) else (none)) else (some (-1))
def slices_Index_byte_byte.f (k:Nat) (l0:List Int) (a1:Int):Option (Int):=slices_Index_byte_byte.l0 k l0 a1 (l0.length:Int) 0
theorem slices_Index_byte_byte.mono_l:∀ k,(∀ y0 y1 y2 y3,LeO (slices_Index_byte_byte.l0 k y0 y1 y2 y3) (slices_Index_byte_byte.l0 (k + 1) y0 y1 y2 y3))
 | 0=>fun _ _ _ _ r h=>by simp [slices_Index_byte_byte.l0] at h
 | k + 1=>by
  have ih0:=slices_Index_byte_byte.mono_l k
  ·intro y0 y1 y2 y3
   unfold slices_Index_byte_byte.l0
   exact mo
theorem slices_Index_byte_byte.mono:∀ a0 a1 k,LeO (slices_Index_byte_byte.f k a0 a1) (slices_Index_byte_byte.f (k + 1) a0 a1):=by
 intro a0 a1 k
 have ih0:=slices_Index_byte_byte.mono_l k
 unfold slices_Index_byte_byte.f
 exact mo
def impl_cellOf.j0:Nat → ByteArray → ByteArray → Bool → Option (Int × Bool)
 | 0,_,_,_=>none
 | k + 1,x0,x1,x20=>if x20 = true then (some (0,false)) else ((impl_read.f x0).bind fun bt103=>(if 0 < (x1.size:Int) then ((slices_Index_byte_byte.f k bt103.2.2 (bt x1 0)).bind fun t108=>(some (t108,decide (t108 ≥ 0)))) else (none)))
theorem impl_cellOf.mono_l:∀ k,(∀ y0 y1 y2,LeO (impl_cellOf.j0 k y0 y1 y2) (impl_cellOf.j0 (k + 1) y0 y1 y2))
 | 0=>fun _ _ _ r h=>by simp [impl_cellOf.j0] at h
 | k + 1=>by
  have ih0:=impl_cellOf.mono_l k
  ·intro y0 y1 y2
   unfold impl_cellOf.j0
   have im0:=@impl_IsTray.mono;have im1:=@slices_Index_byte_byte.mono;exact mo
end Go.Proofs.YtldhkbiomingbaaGreatDoor.F

namespace Go.Proofs.YtldhkbiomingbaaGreatDoor.F
open Go.RowKit Go.Proofs.YtldhkbiomingbaaGreatDoor Go.YW.PrintWords
def firstAt (cs:List Int) (c:Int):Nat:=cs.findIdx (· == c)
theorem first_split {cs:List Int} {c:Int} {i:Nat} (h:∀ j,j < i → ∀ hj:j < cs.length,cs[j] ≠ c) (hi:i < cs.length) (he:cs[i] = c):firstAt cs c = i:=by
 unfold firstAt
 rw [List.findIdx_eq hi]
 refine ⟨by rw [he];exact beq_self_eq_true _,fun j hj=>?_⟩
 have:=h j hj o_m
 simpa using this
theorem first_none {cs:List Int} {c:Int} (h:∀ j,∀ hj:j < cs.length,cs[j] ≠ c):firstAt cs c = cs.length:=by
 unfold firstAt
 rw [List.findIdx_eq_length]
 intro x hx
 obtain ⟨j,hj,rfl⟩:=List.getElem_of_mem hx
 have:=h j hj
 simpa using this
theorem index_l0 {cs:List Int} (hl:cs.length ≤ 1000) (c:Int):∀ (d i:Nat),i + d = cs.length → (∀ j,j < i → ∀ hj:j < cs.length,cs[j] ≠ c) →
  Ev (fun k=>slices_Index_byte_byte.l0 k cs c (cs.length:Int) i) (if firstAt cs c < cs.length then (firstAt cs c:Int) else -1)
 | 0,i,hi,hn=>by
  obtain rfl:i = cs.length:=by omega
  rw [first_none (fun j hj=>hn j hj hj),if_neg o_m]
  refine Ev.step (f:=fun _=>some (-1)) (fun k=>?_) (Ev.now _)
  rw [slices_Index_byte_byte.l0,if_neg o_m]
 | d + 1,i,hi,hn=>by
  have hlt:i < cs.length:=by omega
  have hrd:rd cs (i:Int) = cs[i]:=by unfold rd;rw [Int.toNat_natCast,List.getD_eq_getElem?_getD,List.getElem?_eq_getElem hlt];rfl
  by_cases he:c = cs[i]
  ·rw [first_split hn hlt he.symm,if_pos hlt]
   refine Ev.step (f:=fun _=>some (i:Int)) (fun k=>?_) (Ev.now _)
   rw [slices_Index_byte_byte.l0,if_pos o_m,if_pos o_m,if_pos o_m,hrd,if_pos he]
  have ih:=index_l0 hl c d (i + 1) o_m (fun j hj hj'=>by
   by_cases e:j = i
   ·subst e;exact fun h=>he h.symm
   ·exact hn j o_m hj')
  refine Ev.step (fun k=>?_) ih
  rw [slices_Index_byte_byte.l0,if_pos o_m,if_pos o_m,if_pos o_m,hrd,if_neg he,show (i:Int) + 1 = ((i + 1:Nat):Int) by omega,w64t o_m]
end Go.Proofs.YtldhkbiomingbaaGreatDoor.F

namespace Go.Proofs.YtldhkbiomingbaaGreatDoor
open Go.RowKit Go.Maps
def litS (b:ByteArray):Lit:=.string b.data.toList
theorem litS_inj {a b:ByteArray} (h:litS a = litS b):a = b:=by
 unfold litS at h
 injection h with h
 apply ByteArray.ext
 exact Array.toList_inj.1 h
theorem litS_key (a:ByteArray):WideAt.IsKeyLit (litS a):=trivial
def placesD (L:List ByteArray):DataW Unit:=L.zipIdx.foldl (fun D p=>D.put (litS p.1) (.lit (litN p.2))) (.map [])
theorem placesD_snoc (L:List ByteArray) (x:ByteArray):placesD (L ++ [x]) = (placesD L).put (litS x) (.lit (litN L.length)):=by
 unfold placesD
 rw [List.zipIdx_append,List.foldl_append,Nat.zero_add];rfl
theorem placesD_isMap (L:List ByteArray):IsMap (placesD L):=by
 refine snoc_ind (P:=fun m=>IsMap (placesD m)) isMap_empty (fun l a h=>?_) L
 show IsMap (placesD (l ++ [a]))
 rw [placesD_snoc];exact h.put _ _
theorem has_places (L:List ByteArray) (x:ByteArray):Maps.has (placesD L) (litS x) = true ↔ x ∈ L:=by
 refine snoc_ind (P:=fun m=>Maps.has (placesD m) (litS x) = true ↔ x ∈ m) ⟨fun h=>(by cases h),fun h=>(by cases h)⟩ (fun l a h=>?_) L
 show Maps.has (placesD (l ++ [a])) (litS x) = true ↔ _
 rw [placesD_snoc]
 by_cases e:x = a
 rotate_left
 ·rw [has_put_other (fun q=>e (litS_inj q)),h];simp [e]
 subst e
 rw [has_put_same (placesD_isMap l) (litS_key _)];simp
theorem at_places {L:List ByteArray} (hn:L.Nodup) {i:Nat} (hi:i < L.length) (z:DataW Unit):(placesD L).atKey (litS (L[i]'hi)) z = .lit (litN i):=by
 revert hn i
 refine snoc_ind (P:=fun m=>m.Nodup → ∀ {i:Nat} (hi:i < m.length),(placesD m).atKey (litS (m[i]'hi)) z = .lit (litN i)) (fun _ i hi=>by simp at hi) (fun l a ih hn i hi=>?_) L
 show (placesD (l ++ [a])).atKey (litS ((l ++ [a])[i]'hi)) z = _
 rw [placesD_snoc]
 rw [List.nodup_append] at hn
 by_cases e:i < l.length
 ·rw [List.getElem_append_left e]
  rw [atKey_put_other (fun q=>hn.2.2 _ (List.getElem_mem e) a (by simp) (litS_inj q))]
  exact ih hn.1 e
 have hi':i = l.length:=by simp at hi;omega
 subst hi'
 rw [List.getElem_append_right (Nat.le_refl _)]
 simp only [Nat.sub_self,List.getElem_singleton]
 exact atKey_put_same (placesD_isMap l) (litS_key _) _ _
end Go.Proofs.YtldhkbiomingbaaGreatDoor

namespace Go.Proofs.YtldhkbiomingbaaGreatDoor
def isDirC (c:Int):Bool:=c == 117 || c == 114 || c == 100 || c == 108
def dirIx (c:Int):Int:=if c = 117 then 0 else if c = 114 then 1 else if c = 100 then 2 else if c = 108 then 3 else -1
def dirB (d:Nat):Int:=if d = 0 then 117 else if d = 1 then 114 else if d = 2 then 100 else 108
theorem dirB_ix {c:Int} (h:isDirC c = true):dirB (dirIx c).toNat = c ∧ (dirIx c).toNat < 4 ∧ 0 ≤ dirIx c:=by
 have:c = 117 ∨ c = 114 ∨ c = 100 ∨ c = 108:=by
  unfold isDirC at h
  simp at h
  omega
 rcases this with rfl | rfl | rfl | rfl <;> exact ⟨rfl,by decide,by decide⟩
end Go.Proofs.YtldhkbiomingbaaGreatDoor

namespace Go.Proofs.YtldhkbiomingbaaGreatDoor.F
open Go.RowKit Go.Proofs.YtldhkbiomingbaaGreatDoor Go.YW.PrintWords Go.YW.PrintMore
def txtW (u:List Nat):ByteArray:=strOfNums (u.map dirB)
theorem txtW_size (u:List Nat):(txtW u).size = u.length:=by unfold txtW;rw [strOfNums_len,List.length_map]
theorem txtW_snoc (u:List Nat) (d:Nat):txtW (u ++ [d]) = txtW u ++ strOfNums [dirB d]:=by
 unfold txtW;rw [List.map_append,strOfNums_app];rfl
def srch (t:ByteArray):Option (Nat × Nat × RS):=match tyGrid (bytesOf t) with
 | none=>none
 | some (w,h,cs)=>(reachD w h cs).map fun s=>(w,h,s)
theorem srch_some {t:ByteArray} {w h:Nat} {s:RS} (e:srch t = some (w,h,s)):∃ cs,tyGrid (bytesOf t) = some (w,h,cs) ∧ Vg (w,h,cs) ∧ textB (w,h,cs) = t ∧ reachD w h cs = some s ∧ RS.Ok2 w h cs s.T.length s:=by
 unfold srch at e
 cases hg:tyGrid (bytesOf t) with
 | none=>rw [hg] at e;cases e
 | some g =>
  obtain ⟨w',h',cs⟩:=g
  rw [hg] at e
  obtain ⟨s',hs,e⟩:=Option.map_eq_some_iff.1 (show (reachD w' h' cs).map (fun s=>(w',h',s)) = some (w,h,s) from e)
  injection e with e1 e2
  injection e2 with e2 e3
  subst e1 e2 e3
  obtain ⟨v,et⟩:=textB_grid hg
  exact ⟨cs,rfl,v,et,hs,reach_ok v hs⟩
def rT (w h:Nat) (s:RS):List ByteArray:=s.T.map fun c=>textB (w,h,c)
def rW (s:RS):List ByteArray:=s.W.map txtW
theorem rT_len (w h:Nat) (s:RS):(rT w h s).length = s.T.length:=by unfold rT;rw [List.length_map]
theorem rW_len (s:RS):(rW s).length = s.W.length:=by unfold rW;rw [List.length_map]
theorem rT_nodup {w h:Nat} {cs:List Int} {s:RS} (o:RS.Ok w h cs s):(rT w h s).Nodup:=by
 unfold rT
 refine List.nodup_iff_pairwise_ne.2 ?_
 rw [List.pairwise_map]
 refine List.Pairwise.imp_of_mem ?_ (List.nodup_iff_pairwise_ne.1 o.nodup)
 intro a b ha hb hne e
 have:=textB_inj (o.tray a ha) (o.tray b hb) e
 injection this with _ this
 injection this with _ this
 exact hne this
theorem rT_mem {w h:Nat} {cs:List Int} {s:RS} (o:RS.Ok w h cs s) {c:List Int} (v:Vg (w,h,c)):textB (w,h,c) ∈ rT w h s ↔ findT s.T c < s.T.length:=by
 unfold rT findT
 rw [List.findIdx_lt_length,List.mem_map]
 constructor
 ·rintro ⟨a,ha,e⟩
  have:=textB_inj (o.tray a ha) v e
  injection this with _ this
  injection this with _ this
  subst this
  exact ⟨a,ha,beq_self_eq_true _⟩
 ·rintro ⟨a,ha,e⟩
  have:a = c:=by simpa using e
  subst this
  exact ⟨a,ha,rfl⟩
theorem findT_get {T:List (List Int)} {c:List Int} (h:findT T c < T.length):T[findT T c]'h = c:=by
 have:=List.findIdx_getElem (p:=(· == c)) (xs:=T) (w:=h)
 exact eq_of_beq this
def placeI (n:Int) (cs:List Int):Int:=if firstAt cs n < cs.length then (firstAt cs n:Int) else -1
def cellsI (s:RS) (n:Int):List Int:=s.T.map (placeI n)
theorem cellsI_len (s:RS) (n:Int):(cellsI s n).length = s.T.length:=by unfold cellsI;rw [List.length_map]
theorem cellsI_get (s:RS) (n:Int) {i:Nat} (hi:i < s.T.length):(cellsI s n).getD i 0 = placeI n (s.T.getD i []):=by
 unfold cellsI
 rw [getD_lt (by rw [List.length_map];exact hi),getD_lt hi,List.getElem_map]
end Go.Proofs.YtldhkbiomingbaaGreatDoor.F

namespace Go.Proofs.YtldhkbiomingbaaGreatDoor.F
open Go.Proofs.YtldhkbiomingbaaGreatDoor
open Go.RowKit Go.YW.PrintWords Go.YW.PrintLast Go.YW.PrintMore Go.Lib
def nodesOf (w h:Nat) (s:RS):List Node:=nodesL (fun c=>textB (w,h,c)) w h s (waysL s) []
theorem nodesOf_len (w h:Nat) (s:RS):(nodesOf w h s).length = s.T.length:=nodesL_len
theorem nodesOf_ne {w h:Nat} {cs:List Int} {s:RS} (o:RS.Ok w h cs s):nodesOf w h s ≠ []:=fun e=>by
 have:=nodesOf_len w h s
 rw [e] at this
 have:=o.pos
 simp at *
 omega
end Go.Proofs.YtldhkbiomingbaaGreatDoor.F

namespace Go.Proofs.YtldhkbiomingbaaGreatDoor
open Go.RowKit Go.YW.PrintWords Go.YW.PrintLast Go.YW.PrintMore Go.Lib Go.Shelf

end Go.Proofs.YtldhkbiomingbaaGreatDoor

namespace Go.Proofs.YtldhkbiomingbaaGreatDoor.F
open Go.Proofs.YtldhkbiomingbaaGreatDoor
open Go.RowKit Go.YW.PrintWords Go.YW.PrintLast Go.YW.PrintMore
attribute [local go_sem] max2_int min2_int max_two min_two max_three min_three max_four min_four

def impl_IsPuzzle.T2:Bool × List (List Nat × List Nat):=(true,[([],[]),([0],[0]),([1],[1]),([2,1],[1,2]),([1],[1]),([4,1],[1,4]),([5,1],[1,5]),([3,6,1,1],[1,3,6]),([1,7],[1,7]),([8,7],[8]),([9],[9]),([10,9],[9,10]),([11,9,9],[9,11]),([12,9],[9,12]),([9],[9]),([14,9],[9,14]),([13,15,9],[9,13,15]),([16,9],[9,16]),([17,9],[9,17]),([9,18],[9,18]),([19,12,0,1,2,3,4,5,6,7,8,9,10,11,12,13,14,15,16,17,18,19],[19])])
def impl_IsPuzzle.B2:List Nat:=[0,1,3,7,3,19,51,127,255,511,1023,2047,4095,8191,1023,17407,65535,131071,262143,524287,1048575]
theorem impl_IsPuzzle.tab2:rtab .any (opsOf Tryz.f94 2) = impl_IsPuzzle.T2:=by kernel_rfl
theorem impl_IsPuzzle.bits2:waitsOk impl_IsPuzzle.T2.2 impl_IsPuzzle.B2 = true:=by kernel_rfl
def spec_tiPlace.l0:Nat → Int → List Int → Int → Int → Option (Int)
 | 0,_,_,_,_=>none
 | k + 1,x1,x8,x9,x10=>if x10 < x9 then (if 0 ≤ x10 then (if x10 < (x8.length:Int) then (if (rd x8 x10) = x1 then (some x10) else (spec_tiPlace.l0 k x1 x8 x9 (wrap64 (x10 + 1)))) else (none)) else (none)) else (some (-1))
theorem spec_tiPlace.mono_l:∀ k,(∀ y0 y1 y2 y3,LeO (spec_tiPlace.l0 k y0 y1 y2 y3) (spec_tiPlace.l0 (k + 1) y0 y1 y2 y3))
 | 0=>fun _ _ _ _ r h=>by simp [spec_tiPlace.l0] at h
 | k + 1=>by
  have ih0:=spec_tiPlace.mono_l k
  ·intro y0 y1 y2 y3
   unfold spec_tiPlace.l0
   exact mo

def spec_l1In.f (a0:Int) (a1:Int) (a2:Int):Option (Bool):=if a0 ≥ a1 then (some (decide (a0 ≤ a2))) else (some false)
theorem spec_l1In.calls (a0:Int) (a1:Int) (a2:Int) (r:Bool) (w:World) (h:spec_l1In.f a0 a1 a2 = some r) :
  Calls Tryz.prog 68 #[.int .i64 a0,.int .i64 a1,.int .i64 a2] w fun e w'=>e = .returned (.bool r) ∧ Drawn0 w w':=by
 have H:(if a0 ≥ a1 then (some (decide (a0 ≤ a2))) else (some false)) = some r:=h
 clear h
 by_cases c4:a0 ≥ a1
 rotate_left
 ·rw [if_neg c4] at H
  have c4b0:=decide_eq_false c4
  clear c4
  obtain rfl:=Option.some.inj H
  go_enter Tryz.func68,Tryz.ntmps68
  go_wp2
  go_ret
  exact ⟨aq6,aq13⟩
 rw [if_pos c4] at H
 have c4b0:=decide_eq_true c4
 clear c4
 obtain rfl:=Option.some.inj H
 go_enter Tryz.func68,Tryz.ntmps68
 go_wp2
 go_ret
 exact ⟨aq6,aq13⟩
def spec_puGood.T2:Bool × List (List Nat × List Nat):=(true,[([],[]),([0],[0]),([1],[1]),([2],[2]),([3,2],[2,3]),([4,2,2],[2,4]),([5,2],[2,5]),([2,6],[2,6]),([7,5],[7]),([8],[8]),([8],[8]),([10,8],[8,10]),([11,8],[8,11]),([9,12,8,8],[8,9,12]),([13,8],[8,13]),([8,14],[8,14])])
def spec_puGood.B2:List Nat:=[0,1,3,7,15,31,63,127,255,511,511,1535,3583,8191,16383,32767]
theorem spec_puGood.tab2:rtab .any (opsOf Tryz.f92 2) = spec_puGood.T2:=by kernel_rfl
theorem spec_puGood.bits2:waitsOk spec_puGood.T2.2 spec_puGood.B2 = true:=by kernel_rfl
end Go.Proofs.YtldhkbiomingbaaGreatDoor.F

namespace Go.Proofs.YtldhkbiomingbaaGreatDoor.F
open Go.RowKit Go.Proofs.YtldhkbiomingbaaGreatDoor Go.YW.PrintWords Go.YW.PrintMore
theorem tray_small {g:(Nat × Nat × List Int)} (v:Vg g):1 ≤ g.2.2.length ∧ g.2.2.length ≤ 36:=by
 rw [show g.2.2.length = g.1 * g.2.1 from v.len]
 exact ⟨Nat.mul_pos v.w1 v.h1,v.small⟩
end Go.Proofs.YtldhkbiomingbaaGreatDoor.F

namespace Go.Proofs.YtldhkbiomingbaaGreatDoor.F
open Go.Proofs.YtldhkbiomingbaaGreatDoor
open Go.RowKit Go.YW.PrintWords Go.YW.PrintMore

end Go.Proofs.YtldhkbiomingbaaGreatDoor.F

namespace Go.Proofs.YtldhkbiomingbaaGreatDoor.F
open Go.Proofs.YtldhkbiomingbaaGreatDoor
open Go.RowKit Go.YW.PrintWords Go.YW.PrintLast Go.YW.PrintMore
attribute [local go_sem] max2_int min2_int max_two min_two max_three min_three max_four min_four
def impl_tray_number.f (a0_0:Int) (a0_1:Int) (l0_2:List Int) (a1:Int) (a2:Int):Option (Int):=some (wrap64 ((wrap64 (a2 * a0_0)) + a1))
theorem impl_tray_number.calls (a0_0:Int) (a0_1:Int) (A0_2:Option Addr) (c0_2:Nat) (l0_2:List Int) (a1:Int) (a2:Int) (r:Int) (w:World) (hr0_2:Kd.C (Kd.int .u8) w A0_2 l0_2.length l0_2) (hc0_2:l0_2.length ≤ c0_2) (h:impl_tray_number.f a0_0 a0_1 l0_2 a1 a2 = some r) :
  Calls Tryz.prog 211 #[.agg #[.int .i64 a0_0,.int .i64 a0_1,.slice A0_2 l0_2.length c0_2],.int .i64 a1,.int .i64 a2] w fun e w'=>e = .returned (.int .i64 r) ∧ Below w.heap.size w w':=by
 have hu65:=Tryz.underlying65
 have HR0_2:=am hr0_2
 have HC0_2:=am hc0_2
 clear hr0_2 hc0_2
 have HB:=am (Below.refl w.heap.size w)
 have H:(some (wrap64 ((wrap64 (a2 * a0_0)) + a1))) = some r:=h
 clear h
 obtain rfl:=Option.some.inj H
 go_enter Tryz.func211,Tryz.ntmps211
 go_wp2_with (first | (refine bx 3 #[.int .i64 a0_0,.int .i64 a0_1,.slice A0_2 l0_2.length c0_2] 65 ?_;intro gb101 hg w4 hbox hb;have BK101:=am (hbox);have GW101:=am ((by rw [hg];exact (below_size aq1):w.heap.size ≤ gb101));have GE101:=GW101;replace HB:=am (below_step aq1 hb);clear hb hbox hg;obtain ⟨hcz5_0,hcz5_1,hcz5_2,hfz5_0,hfz5_1,hfz5_2⟩:=blk3_ BK101.out))
 go_ret
 exact ⟨aq9,aq0⟩
def slices_Reverse_int_int.l0:Nat → List Int → Int → Int → Option (List Int)
 | 0,_,_,_=>none
 | k + 1,x0,x2,x3=>if x2 < x3 then (if 0 ≤ x3 then (if x3 < (x0.length:Int) then (if 0 ≤ x2 then (if x2 < (x0.length:Int) then (slices_Reverse_int_int.l0 k ((x0.set (x2:Int).toNat (rd x0 x3)).set (x3:Int).toNat (rd x0 x2)) (wrap64 (x2 + 1)) (wrap64 (x3 - 1))) else (none)) else (none)) else (none)) else (none)) else (some x0)
def slices_Reverse_int_int.f (k:Nat) (l0:List Int):Option (List Int):=slices_Reverse_int_int.l0 k l0 0 (wrap64 ((l0.length:Int) - 1))
theorem slices_Reverse_int_int.mono_l:∀ k,(∀ y0 y1 y2,LeO (slices_Reverse_int_int.l0 k y0 y1 y2) (slices_Reverse_int_int.l0 (k + 1) y0 y1 y2))
 | 0=>fun _ _ _ r h=>by simp [slices_Reverse_int_int.l0] at h
 | k + 1=>by
  have ih0:=slices_Reverse_int_int.mono_l k
  ·intro y0 y1 y2
   unfold slices_Reverse_int_int.l0
   exact mo
theorem slices_Reverse_int_int.mono:∀ a0 k,LeO (slices_Reverse_int_int.f k a0) (slices_Reverse_int_int.f (k + 1) a0):=by
 intro a0 k
 have ih0:=slices_Reverse_int_int.mono_l k
 unfold slices_Reverse_int_int.f
 exact mo
def slices_Reverse_int_int.T3:Bool × List (List Nat × List Nat):=(true,[([],[]),([],[]),([],[]),([],[]),([],[]),([],[]),([4,5],[4,5]),([6],[6]),([],[]),([],[]),([8,9],[8,9]),([10],[10]),([0,1,0,1,4,5,6,7,11],[0,1]),([12,7,0,1,4,5,6,7,11],[7,12]),([2,3,0,1,2,3,4,5,6,7,8,9,10,11,12,13],[2,3]),([14,11,13,0,1,2,3,4,5,6,7,8,9,10,11,12,13],[11,14])])
def slices_Reverse_int_int.B3:List Nat:=[0,0,0,0,0,0,48,112,0,0,768,1792,4083,8179,16383,32767]
theorem slices_Reverse_int_int.tab3:rtab .any (opsOf Tryz.f212 3) = slices_Reverse_int_int.T3:=by kernel_rfl
theorem slices_Reverse_int_int.bits3:waitsOk slices_Reverse_int_int.T3.2 slices_Reverse_int_int.B3 = true:=by kernel_rfl
theorem slices_Reverse_int_int.calls (k:Nat) (P0_:Nat → Prop) (u9000_:Value) (l0:List Int) (r:List Int) (w0 w:World) (hB:Below w0.heap.size w0 w) (ho0:Kd.R (Kd.int .i64) 3 w w0.heap.size P0_ u9000_ l0) (h:slices_Reverse_int_int.f k l0 = some r) :
  Calls Tryz.prog 212 #[u9000_] w fun e w'=>e = .returned (.tuple #[]) ∧ Kd.R (Kd.int .i64) 3 w' w0.heap.size (fun k_=>(P0_ k_ ∨ w.heap.size ≤ k_)) u9000_ r ∧ Below w0.heap.size w0 w' ∧ Kept w w' (fun k_=>P0_ k_):=by
 have HO0:=am (show Kd.R (Kd.int .i64) 3 w w0.heap.size (fun k_=>(P0_ k_ ∨ w.heap.size ≤ k_)) u9000_ l0 from Kd.R_mono ho0 (fun k_ hk=>(.inl hk)))
 have HK:=am (Kept.refl w (fun k_=>P0_ k_))
 have HW0:=am hB.size
 have HB:=am hB
 clear hB
 have H:(slices_Reverse_int_int.l0 k l0 0 (wrap64 ((l0.length:Int) - 1))) = some r:=h
 clear h
 have H':=am H
 clear H
 obtain ⟨Ao2,co2,eo2⟩:=Kd.R_slice HO0.out
 subst eo2
 go_enter Tryz.func212,Tryz.ntmps212
 go_wp2
 go_loopg [2,3] k (fun kq v2 v3 w'=>∃ (x0_1:List Int) (x2_1:Int) (x3_1:Int),v2 = .int .i64 x2_1 ∧ v3 = .int .i64 x3_1 ∧ Aside0 (slices_Reverse_int_int.l0 kq x0_1 x2_1 x3_1 = some r) ∧ Aside0 (kq ≤ k) ∧ Aside0 (Kd.R (Kd.int .i64) 3 w' w0.heap.size (fun k_=>(P0_ k_ ∨ w.heap.size ≤ k_)) (.slice Ao2 l0.length co2) x0_1) ∧ Aside0 (Kept w w' (fun k_=>P0_ k_)) ∧ Aside0 (Below w0.heap.size w0 w'))
 case atStart=>exact ⟨(l0),(0),(wrap64 ((l0.length:Int) - 1)),aq6,aq6,H',⟨Nat.le_refl _⟩,⟨by (with_reducible repeat (first | apply Kd.R_alloc | apply Kd.R_drewN | apply Kd.R_drew));exact HO0.out⟩,⟨aq24⟩,⟨aq1⟩⟩
 case round =>
  clear H'
  try clear c2
  try clear p2
  obtain ⟨x0_1,x2_1,x3_1,rfl,rfl,HA,HK1,HO_0,HK,HB⟩:=hrel
  have hl0_1:=(Kd.R_reads' HO_0.out).1
  rw [hl0_1] at HO_0
  (try simp only [hl0_1])
  cases gk with
  | zero=>exact absurd HA.out (by simp [slices_Reverse_int_int.l0])
  | succ k1 =>
   have H:=HA.out
   clear HA
   simp only [slices_Reverse_int_int.l0] at H
   by_cases c3:x2_1 < x3_1
   rotate_left
   ·rw [if_neg c3] at H
    have c3b0:=decide_eq_false c3
    clear c3
    obtain rfl:=Option.some.inj H
    go_wp2
    first | go_end0 | ((try simp only [Exit.inBlock,Exit.then]);refine bodyPost_ret (results_none rfl _ _ _) rfl ?_)
    exact ⟨aq9,(by first | exact aq38 | (simp only [hl0_1];exact aq38)),aq1,aq24⟩
   rw [if_pos c3] at H
   have c3b0:=decide_eq_true c3
   clear c3
   replace H:=gd H
   obtain ⟨c4,H⟩:=H
   have c4b0:=decide_eq_true c4
   clear c4
   replace H:=gd H
   obtain ⟨c5,H⟩:=H
   have c5b0:=decide_eq_true c5
   clear c5
   replace H:=gd H
   obtain ⟨c6,H⟩:=H
   have c6b0:=decide_eq_true c6
   clear c6
   replace H:=gd H
   obtain ⟨c7,H⟩:=H
   have c7b0:=decide_eq_true c7
   clear c7
   obtain ⟨y103,hy_⟩:∃ y_:List Int,y_ = (x0_1.set (x2_1:Int).toNat (rd x0_1 x3_1)):=⟨_,rfl⟩
   replace H:(slices_Reverse_int_int.l0 k1 (y103.set (x3_1:Int).toNat (rd x0_1 x2_1)) (wrap64 (x2_1 + 1)) (wrap64 (x3_1 - 1))) = some r:=aq3
   have Ny103:=am hy_
   clear hy_
   obtain ⟨y104,hy_⟩:∃ y_:List Int,y_ = (y103.set (x3_1:Int).toNat (rd x0_1 x2_1)):=⟨_,rfl⟩
   replace H:(slices_Reverse_int_int.l0 k1 y104 (wrap64 (x2_1 + 1)) (wrap64 (x3_1 - 1))) = some r:=aq3
   have Ny104:=am hy_
   clear hy_
   have H':=am H
   clear H
   try go_wp2
   replace HO_0:=am (Kd.R_drew HO_0.out)
   replace HK:=am (Kept.drew HK.out)
   replace HB:=am (below_drew1 HB.out)
   have p101:0 ≤ (x3_1:Int):=of_decide_eq_true aq4
   have q101:x3_1 < (x0_1.length:Int):=of_decide_eq_true aq4
   obtain ⟨ad101,e101,hx101_0⟩:=Kd.at_int (Kd.R_reads' HO_0.out).2.2 x3_1 p101 q101
   cases e101
   replace p101:=eq_true p101
   replace q101:=eq_true q101
   have p102:0 ≤ (x2_1:Int):=of_decide_eq_true aq4
   have q102:x2_1 < (x0_1.length:Int):=of_decide_eq_true aq4
   obtain ⟨ad102,e102,hx102_0⟩:=Kd.at_int (Kd.R_reads' HO_0.out).2.2 x2_1 p102 q102
   obtain rfl:ad101 = ad102:=(by injection e102)
   replace p102:=eq_true p102
   replace q102:=eq_true q102
   have p8:0 ≤ (x2_1:Int):=of_decide_eq_true aq4
   have q8:(x2_1:Int) < ((x0_1.length:Int):Int):=of_decide_eq_true aq4
   obtain ⟨go8,co8,eo8,gb8,gl8,cl8,HG8⟩:=Kd.R_form HO_0.out o_m
   (first | cases eo8 | (injection eo8 with ea_ en_ ec_;(first | subst ea_ | (injection ea_ with ea_;subst ea_));subst ec_;clear en_))
   have GB8:=am gb8
   have GG8:=am HG8
   clear gb8 gl8 HG8
   have HMgo8:=am (show (P0_ go8 ∨ w.heap.size ≤ go8) from (HO_0.out.1 _ rfl))
   (first | simp only [add_plain] at hx101_0 | skip)
   (first | simp only [add_plain] at hx102_0 | skip)
   obtain ⟨hx8_0,hf8_0⟩:=Kd.R_celln 0 HO_0.out (x2_1:Int) p8 q8
   replace p8:=eq_true p8
   replace q8:=eq_true q8
   have HP11:=Kd.R_putn HO_0.out (x2_1:Int) (rd x0_1 x3_1)
   rw [← Ny103.out] at HP11
   have HQ11:=am HP11
   clear HP11
   have p9:0 ≤ (x3_1:Int):=of_decide_eq_true aq4
   have q9:(x3_1:Int) < ((x0_1.length:Int):Int):=of_decide_eq_true aq4
   obtain ⟨hx9_0,hf9_0⟩:=Kd.R_celln 0 HQ11.out (x3_1:Int) p9 q9
   replace p9:=eq_true p9
   replace q9:=eq_true q9
   have HP12:=Kd.R_putn HQ11.out (x3_1:Int) (rd x0_1 x2_1)
   rw [← Ny104.out] at HP12
   have HQ12:=am HP12
   clear HP12
   refine start_ (n:=16) (S:=fun w'=>w'.cell? ⟨go8,(x3_1).toNat,none⟩ = some (.int .i64 (rd x0_1 x3_1)) ∧ w'.cell? ⟨go8,(x2_1).toNat,none⟩ = some (.int .i64 (rd x0_1 x2_1))) (ds:=[13,15]) (bm 16 0) k_r rfl rfl ⟨hx101_0,hx102_0⟩ (fun hHeld=>?_);refine with_tabW slices_Reverse_int_int.tab3 slices_Reverse_int_int.bits3 (fun HT_ HW_=>?_)
   generalize wr.drew = w10 at HO_0 HK HB GG8 HQ11 HQ12 hf8_0 hf9_0 hx101_0 hx102_0 hx8_0 hx9_0 hHeld ⊢
   refine py (i:=0) (N:=some 14) (bm 16 1) ?_
   refine py (i:=1) (N:=some 15) (bm 16 3) ?_
   refine py (i:=2) (N:=some 16) (bm 16 7) ?_
   refine py (i:=3) (N:=some 17) (bm 16 15) ?_
   refine py (i:=4) (N:=some 18) (bm 16 31) ?_
   refine py (i:=5) (N:=some 19) (bm 16 63) ?_
   refine py (i:=6) (N:=some 20) (bm 16 127) ?_
   refine py (i:=8) (N:=some 22) (bm 16 383) ?_
   refine py (i:=9) (N:=some 23) (bm 16 895) ?_
   refine py (i:=10) (N:=some 24) (bm 16 1919) ?_
   refine tk2 (i:=7) (N:=some 21) (bm 16 2047) hHeld ?_
   refine tk2 (i:=11) (N:=some 25) (bm 16 4095) hHeld ?_
   refine py (i:=12) (N:=some 26) (bm 16 8191) ?_
   refine last_ (i:=13) (N:=none) (bm 16 16383) rfl rfl (one_of HT_.out k_r) d_c (fun K hK=>?_)
   refine skip_ (w1:=?_) (by rfl) rfl ?_ ?_
   rotate_left
   ·go_simp
    rfl
   refine hK.out _ _ ?_
   clear hK K
   refine py (i:=14) (N:=some 27) (bm 16 32767) ?_
   refine last_ (i:=15) (N:=none) (bm 16 65535) rfl rfl (one_of HT_.out k_r) d_c (fun K hK=>?_)
   refine skip_ (w1:=?_) (by rfl) rfl ?_ ?_
   rotate_left
   ·go_simp
    rfl
   refine hK.out _ _ ?_
   clear hK K
   refine done_ (done_of HT_.out k_r) ?_
   try go_wp2
   (try simp only [← hl0_1])
   go_roundg k1
   case measure=>have:=HK1.out;omega
   case rel=>exact ⟨(y104),(wrap64 (x2_1 + 1)),(wrap64 (x3_1 - 1)),aq6,aq6,H',⟨aq56⟩,⟨by (try simp only [hl0_1]);(with_reducible repeat (first | apply Kd.R_alloc | apply Kd.R_drewN | apply Kd.R_drew));exact HQ12.out⟩,⟨by repeat (first | (with_reducible first | exact HK.out | apply Kept.alloc | apply Kept.drewN | apply Kept.drew | refine Kept.setCell ?_ HMgo8.out _ | refine Kept.setCell ?_ HMgo8.out _) | exact HK.out)⟩,⟨by repeat (first | (with_reducible first | exact HB.out | apply below_alloc | apply pw_below_drewN | apply below_drew1 | refine below_set ?_ GB8.out | refine below_set ?_ GB8.out) | exact HB.out)⟩⟩
mutual
def impl_tray_lines.j0:Nat → Int → List (List Int) → Int → Int → Bool → Int → Int → List Int → Option ((List (List Int)))
 | 0,_,_,_,_,_,_,_,_=>none
 | k + 1,x1,x5,x6,x7,x21,x102000,x102001,x102002=>if x21 = true then (impl_tray_lines.j1 k x1 x5 x102000 x102001 x102000 x102001 x102002) else (impl_tray_lines.j1 k x1 x5 x6 x7 x102000 x102001 x102002)
def impl_tray_lines.j1:Nat → Int → List (List Int) → Int → Int → Int → Int → List Int → Option ((List (List Int)))
 | 0,_,_,_,_,_,_,_=>none
 | k + 1,x1,x5,x6,x7,x102000,x102001,x102002=>impl_tray_lines.l0 k x1 x5 x7 x6 0 x102000 x102001 x102002
def impl_tray_lines.l0:Nat → Int → List (List Int) → Int → Int → Int → Int → Int → List Int → Option ((List (List Int)))
 | 0,_,_,_,_,_,_,_,_=>none
 | k + 1,x1,x5,x7,x26,x27,x102000,x102001,x102002=>if x27 < x26 then (impl_tray_lines.l1 k x1 x5 x7 x27 (([]:List Int)) x26 x27 x7 0 x102000 x102001 x102002) else (some x5)
def impl_tray_lines.l1:Nat → Int → List (List Int) → Int → Int → List Int → Int → Int → Int → Int → Int → Int → List Int → Option ((List (List Int)))
 | 0,_,_,_,_,_,_,_,_,_,_,_,_=>none
 | k + 1,x1,x5,x7,x8,x9,x26,x27,x31,x32,x102000,x102001,x102002=>if x32 < x31 then (if x1 = 117 then (impl_tray_lines.j4 k x1 x5 x7 x8 x9 x32 x26 x27 x31 x32 true x102000 x102001 x102002) else (impl_tray_lines.j4 k x1 x5 x7 x8 x9 x32 x26 x27 x31 x32 (x1 == 100) x102000 x102001 x102002)) else (if x1 = 114 then ((slices_Reverse_int_int.f k x9).bind fun t108=>(if x5.length < 5864062014805 then (impl_tray_lines.l0 k x1 (x5 ++ [t108]) x7 x26 (wrap64 (x27 + 1)) x102000 x102001 x102002) else (none))) else (if x1 = 100 then ((slices_Reverse_int_int.f k x9).bind fun t112=>(if x5.length < 5864062014805 then (impl_tray_lines.l0 k x1 (x5 ++ [t112]) x7 x26 (wrap64 (x27 + 1)) x102000 x102001 x102002) else (none))) else (if x5.length < 5864062014805 then (impl_tray_lines.l0 k x1 (x5 ++ [x9]) x7 x26 (wrap64 (x27 + 1)) x102000 x102001 x102002) else (none))))
def impl_tray_lines.j4:Nat → Int → List (List Int) → Int → Int → List Int → Int → Int → Int → Int → Int → Bool → Int → Int → List Int → Option ((List (List Int)))
 | 0,_,_,_,_,_,_,_,_,_,_,_,_,_,_=>none
 | k + 1,x1,x5,x7,x8,x9,x10,x26,x27,x31,x32,x40,x102000,x102001,x102002=>if x40 = true then ((impl_tray_number.f x102000 x102001 x102002 x8 x10).bind fun t119=>(if x9.length < 17592186044416 then (impl_tray_lines.l1 k x1 x5 x7 x8 (x9 ++ [t119]) x26 x27 x31 (wrap64 (x32 + 1)) x102000 x102001 x102002) else (none))) else ((impl_tray_number.f x102000 x102001 x102002 x10 x8).bind fun t123=>(if x9.length < 17592186044416 then (impl_tray_lines.l1 k x1 x5 x7 x8 (x9 ++ [t123]) x26 x27 x31 (wrap64 (x32 + 1)) x102000 x102001 x102002) else (none)))
end
def impl_tray_lines.f (k:Nat) (a0_0:Int) (a0_1:Int) (l0_2:List Int) (a1:Int):Option ((List (List Int))):=(some (([]:List (List Int)):List (List Int))).bind fun y102=>(if a1 = 117 then (impl_tray_lines.j0 k a1 y102 a0_1 a0_0 true a0_0 a0_1 l0_2) else (impl_tray_lines.j0 k a1 y102 a0_1 a0_0 (a1 == 100) a0_0 a0_1 l0_2))
theorem impl_tray_lines.mono_l:∀ k,(∀ y0 y1 y2 y3 y4 y5 y6 y7,LeO (impl_tray_lines.j0 k y0 y1 y2 y3 y4 y5 y6 y7) (impl_tray_lines.j0 (k + 1) y0 y1 y2 y3 y4 y5 y6 y7)) ∧ (∀ y0 y1 y2 y3 y4 y5 y6,LeO (impl_tray_lines.j1 k y0 y1 y2 y3 y4 y5 y6) (impl_tray_lines.j1 (k + 1) y0 y1 y2 y3 y4 y5 y6)) ∧ (∀ y0 y1 y2 y3 y4 y5 y6 y7,LeO (impl_tray_lines.l0 k y0 y1 y2 y3 y4 y5 y6 y7) (impl_tray_lines.l0 (k + 1) y0 y1 y2 y3 y4 y5 y6 y7)) ∧ (∀ y0 y1 y2 y3 y4 y5 y6 y7 y8 y9 y10 y11,LeO (impl_tray_lines.l1 k y0 y1 y2 y3 y4 y5 y6 y7 y8 y9 y10 y11) (impl_tray_lines.l1 (k + 1) y0 y1 y2 y3 y4 y5 y6 y7 y8 y9 y10 y11)) ∧ (∀ y0 y1 y2 y3 y4 y5 y6 y7 y8 y9 y10 y11 y12 y13,LeO (impl_tray_lines.j4 k y0 y1 y2 y3 y4 y5 y6 y7 y8 y9 y10 y11 y12 y13) (impl_tray_lines.j4 (k + 1) y0 y1 y2 y3 y4 y5 y6 y7 y8 y9 y10 y11 y12 y13))
 | 0=>⟨fun _ _ _ _ _ _ _ _ r h=>by simp [impl_tray_lines.j0] at h,fun _ _ _ _ _ _ _ r h=>by simp [impl_tray_lines.j1] at h,fun _ _ _ _ _ _ _ _ r h=>by simp [impl_tray_lines.l0] at h,fun _ _ _ _ _ _ _ _ _ _ _ _ r h=>by simp [impl_tray_lines.l1] at h,fun _ _ _ _ _ _ _ _ _ _ _ _ _ _ r h=>by simp [impl_tray_lines.j4] at h⟩
 | k + 1=>by
  obtain ⟨ih0,ih1,ih2,ih3,ih4⟩:=impl_tray_lines.mono_l k
  refine ⟨?_,?_,?_,?_,?_⟩
  ·intro y0 y1 y2 y3 y4 y5 y6 y7
   unfold impl_tray_lines.j0
   have im0:=@slices_Reverse_int_int.mono;exact mo
  ·intro y0 y1 y2 y3 y4 y5 y6
   unfold impl_tray_lines.j1
   have im0:=@slices_Reverse_int_int.mono;exact mo
  ·intro y0 y1 y2 y3 y4 y5 y6 y7
   unfold impl_tray_lines.l0
   have im0:=@slices_Reverse_int_int.mono;exact mo
  ·intro y0 y1 y2 y3 y4 y5 y6 y7 y8 y9 y10 y11
   unfold impl_tray_lines.l1
   have im0:=@slices_Reverse_int_int.mono;exact mo
  ·intro y0 y1 y2 y3 y4 y5 y6 y7 y8 y9 y10 y11 y12 y13
   unfold impl_tray_lines.j4
   have im0:=@slices_Reverse_int_int.mono;exact mo
theorem impl_tray_lines.mono:∀ a0 a1 a2 a3 k,LeO (impl_tray_lines.f k a0 a1 a2 a3) (impl_tray_lines.f (k + 1) a0 a1 a2 a3):=by
 intro a0 a1 a2 a3 k
 obtain ⟨ih0,ih1,ih2,ih3,ih4⟩:=impl_tray_lines.mono_l k
 unfold impl_tray_lines.f
 have im0:=@slices_Reverse_int_int.mono;exact mo
theorem impl_tray_lines.calls (k:Nat) (a0_0:Int) (a0_1:Int) (A0_2:Option Addr) (c0_2:Nat) (l0_2:List Int) (a1:Int) (r:List (List Int)) (w:World) (hr0_2:Kd.C (Kd.int .u8) w A0_2 l0_2.length l0_2) (hc0_2:l0_2.length ≤ c0_2) (h:impl_tray_lines.f k a0_0 a0_1 l0_2 a1 = some r) :
  Calls Tryz.prog 197 #[.agg #[.int .i64 a0_0,.int .i64 a0_1,.slice A0_2 l0_2.length c0_2],.int .u8 a1] w fun e w'=>∃ v0_:Value,e = .returned (v0_) ∧ Kd.S (Kd.slice 3 (Kd.int .i64)) 40 w' w.heap.size (fun _=>True) v0_ r ∧ Below w.heap.size w w':=by
 have hu65:=Tryz.underlying65
 have HR0_2:=am hr0_2
 have HC0_2:=am hc0_2
 clear hr0_2 hc0_2
 have HB:=am (Below.refl w.heap.size w)
 have H:((some (([]:List (List Int)):List (List Int))).bind fun y102=>(if a1 = 117 then (impl_tray_lines.j0 k a1 y102 a0_1 a0_0 true a0_0 a0_1 l0_2) else (impl_tray_lines.j0 k a1 y102 a0_1 a0_0 (a1 == 100) a0_0 a0_1 l0_2))) = some r:=h
 clear h
 obtain ⟨y102,hy_⟩:∃ y_:List (List Int),y_ = (([]:List (List Int))):=⟨_,rfl⟩
 replace H:(if a1 = 117 then (impl_tray_lines.j0 k a1 y102 a0_1 a0_0 true a0_0 a0_1 l0_2) else (impl_tray_lines.j0 k a1 y102 a0_1 a0_0 (a1 == 100) a0_0 a0_1 l0_2)) = some r:=aq3
 have Ny102:=am hy_
 clear hy_
 have HC3:=am H
 clear H
 go_enter Tryz.func197,Tryz.ntmps197
 go_upto_region 3 with (first | (refine bx 2 #[.int .i64 a0_0,.int .i64 a0_1,.slice A0_2 l0_2.length c0_2] 65 ?_;intro gb101 hg w4 hbox hb;have BK101:=am (hbox);have GW101:=am ((by rw [hg];exact (below_size aq1):w.heap.size ≤ gb101));have GE101:=GW101;replace HB:=am (below_step aq1 hb);clear hb hbox hg) | ((with_reducible refine gate_dst (N:=11) rfl ?_);refine Kd.S_lit (Kd.slice 3 (Kd.int .i64)) _ 40 ?hg (N:=11) ?hd (xs:=([]:List (List Int))) (inner:=[]) (ok:=fun _=>True) (okp:=fun _=>True) ?hr ?hp (fun _ hk=>hk) trivial (Below.refl _ _) (Nat.le_refl _) (by simp) ?_;(case hd=>rfl);(case hg=>rfl);(case hr=>exact aq12);(case hp=>exact aq79);intro v103 w5 ho6 hb hg_ hnew_;clear hg_ hnew_;(first | rw [← Ny102.out] at ho6 | (simp only [Int.reduceToNat] at ho6;rw [← Ny102.out] at ho6));have HO104:=am (Kd.S_lower ho6 (below_size aq0));replace BK101:=am (bb BK101 hb);replace HB:=am (below_step aq0 hb);clear hb ho6;obtain ⟨hcz7_0,hcz7_1,hcz7_2,hfz7_0,hfz7_1,hfz7_2⟩:=blk3_ BK101.out))
 repeat (go_quiet (first | (refine bx 2 #[.int .i64 a0_0,.int .i64 a0_1,.slice A0_2 l0_2.length c0_2] 65 ?_;intro gb101 hg w4 hbox hb;have BK101:=am (hbox);have GW101:=am ((by rw [hg];exact (below_size aq1):w.heap.size ≤ gb101));have GE101:=GW101;replace HB:=am (below_step aq1 hb);clear hb hbox hg) | ((with_reducible refine gate_dst (N:=11) rfl ?_);refine Kd.S_lit (Kd.slice 3 (Kd.int .i64)) _ 40 ?hg (N:=11) ?hd (xs:=([]:List (List Int))) (inner:=[]) (ok:=fun _=>True) (okp:=fun _=>True) ?hr ?hp (fun _ hk=>hk) trivial (Below.refl _ _) (Nat.le_refl _) (by simp) ?_;(case hd=>rfl);(case hg=>rfl);(case hr=>exact aq12);(case hp=>exact aq79);intro v103 w5 ho6 hb hg_ hnew_;clear hg_ hnew_;(first | rw [← Ny102.out] at ho6 | (simp only [Int.reduceToNat] at ho6;rw [← Ny102.out] at ho6));have HO104:=am (Kd.S_lower ho6 (below_size aq0));replace BK101:=am (bb BK101 hb);replace HB:=am (below_step aq0 hb);clear hb ho6;obtain ⟨hcz7_0,hcz7_1,hcz7_2,hfz7_0,hfz7_1,hfz7_2⟩:=blk3_ BK101.out));go_upto_region 3 with (first | (refine bx 2 #[.int .i64 a0_0,.int .i64 a0_1,.slice A0_2 l0_2.length c0_2] 65 ?_;intro gb101 hg w4 hbox hb;have BK101:=am (hbox);have GW101:=am ((by rw [hg];exact (below_size aq1):w.heap.size ≤ gb101));have GE101:=GW101;replace HB:=am (below_step aq1 hb);clear hb hbox hg) | ((with_reducible refine gate_dst (N:=11) rfl ?_);refine Kd.S_lit (Kd.slice 3 (Kd.int .i64)) _ 40 ?hg (N:=11) ?hd (xs:=([]:List (List Int))) (inner:=[]) (ok:=fun _=>True) (okp:=fun _=>True) ?hr ?hp (fun _ hk=>hk) trivial (Below.refl _ _) (Nat.le_refl _) (by simp) ?_;(case hd=>rfl);(case hg=>rfl);(case hr=>exact aq12);(case hp=>exact aq79);intro v103 w5 ho6 hb hg_ hnew_;clear hg_ hnew_;(first | rw [← Ny102.out] at ho6 | (simp only [Int.reduceToNat] at ho6;rw [← Ny102.out] at ho6));have HO104:=am (Kd.S_lower ho6 (below_size aq0));replace BK101:=am (bb BK101 hb);replace HB:=am (below_step aq0 hb);clear hb ho6;obtain ⟨hcz7_0,hcz7_1,hcz7_2,hfz7_0,hfz7_1,hfz7_2⟩:=blk3_ BK101.out)))
 (try simp only [Act.put,List.setIfInBounds_toArray,List.set_cons_zero,List.set_cons_succ])
 go_cut [21] (fun v21 wc=>∃ (kq:Nat) (x21_2:Bool),v21 = .bool x21_2 ∧ Aside0 (impl_tray_lines.j0 kq a1 y102 a0_1 a0_0 x21_2 a0_0 a0_1 l0_2 = some r) ∧ Aside0 (kq ≤ k) ∧ Aside0 (Kd.S (Kd.slice 3 (Kd.int .i64)) 40 wc w.heap.size (fun _=>True) v103 y102) ∧ Aside0 (wc.heap[gb101]? = some (.cells #[.int .i64 a0_0,.int .i64 a0_1,(.slice A0_2 l0_2.length c0_2)] 65 (0,0))) ∧ Aside0 (Below w.heap.size w wc))
 case first =>
  have H:=HC3.out
  clear HC3
  by_cases c8:a1 = 117
  rotate_left
  ·rw [if_neg c8] at H
   have c8b0:=beq_eq_false_iff_ne.mpr c8
   have c8b1:=bne_iff_ne.mpr c8
   (first | rw [c8b0] | (simp only [i64_w,i32_w];rw [c8b0]) | skip)
   have H':=am H
   clear H
   go_wp2
   repeat (go_quiet (fail);try go_wp2)
   go_meet
   case rel=>exact ⟨_,((a1 == 100)),aq6,H',⟨by first | omega | exact Nat.le_refl _⟩,⟨aq37⟩,⟨aq2⟩,⟨aq0⟩⟩
  rw [if_pos c8] at H
  have c8b0:=beq_iff_eq.mpr c8
  have c8b1:=bne_eq_false_iff_eq.mpr c8
  clear c8
  (first | rw [c8b0] | (simp only [i64_w,i32_w];rw [c8b0]) | skip)
  have H':=am H
  clear H
  go_wp2
  repeat (go_quiet (fail);try go_wp2)
  go_meet
  case rel=>exact ⟨_,(true),aq6,H',⟨by first | omega | exact Nat.le_refl _⟩,⟨aq37⟩,⟨aq2⟩,⟨aq0⟩⟩
 case rest =>
  clear HC3
  try clear c1
  try clear p2
  try clear c8
  try clear c8b0
  try clear c8b1
  try clear hcz7_0
  try clear hcz7_1
  try clear hcz7_2
  try clear hfz7_0
  try clear hfz7_1
  try clear hfz7_2
  obtain ⟨kq,x21_2,rfl,HA,HJ2,HO_5,BK101,HB⟩:=hcut
  cases kq with
  | zero=>exact absurd HA.out (by simp [impl_tray_lines.j0])
  | succ kj2 =>
   have H:=HA.out
   clear HA
   simp only [impl_tray_lines.j0] at H
   have HC9:=am H
   clear H
   go_upto_if 21 with (fail)
   repeat (go_quiet (fail);go_upto_if 21 with (fail))
   go_cut [6,7] (fun v6 v7 wc=>∃ (kq:Nat) (x6_8:Int) (x7_8:Int),v6 = .int .i64 x6_8 ∧ v7 = .int .i64 x7_8 ∧ Aside0 (impl_tray_lines.j1 kq a1 y102 x6_8 x7_8 a0_0 a0_1 l0_2 = some r) ∧ Aside0 (kq ≤ kj2) ∧ Aside0 (Kd.S (Kd.slice 3 (Kd.int .i64)) 40 wc w.heap.size (fun _=>True) v103 y102) ∧ Aside0 (wc.heap[gb101]? = some (.cells #[.int .i64 a0_0,.int .i64 a0_1,(.slice A0_2 l0_2.length c0_2)] 65 (0,0))) ∧ Aside0 (Below w.heap.size w wc))
   case first =>
    have H:=HC9.out
    clear HC9
    by_cases c10:x21_2 = true
    rotate_left
    ·replace c10:=Bool.eq_false_iff.mpr c10
     subst c10
     rw [if_neg Bool.false_ne_true] at H
     have H':=am H
     clear H
     go_wp2
     repeat (go_quiet (fail);try go_wp2)
     go_meet
     case rel=>exact ⟨_,(a0_1),(a0_0),aq6,aq6,H',⟨by have:=HJ2.out;first | omega | exact Nat.le_refl _⟩,⟨aq18⟩,⟨aq2⟩,⟨aq0⟩⟩
    subst c10
    rw [if_pos rfl] at H
    have H':=am H
    clear H
    obtain ⟨hcz11_0,hcz11_1,hcz11_2,hfz11_0,hfz11_1,hfz11_2⟩:=blk3_ BK101.out
    go_wp2
    repeat (go_quiet (fail);try go_wp2)
    go_meet
    case rel=>exact ⟨_,(a0_0),(a0_1),aq6,aq6,H',⟨by have:=HJ2.out;first | omega | exact Nat.le_refl _⟩,⟨aq18⟩,⟨aq2⟩,⟨aq0⟩⟩
   case rest =>
    clear HC9
    try clear c1
    try clear p2
    try clear c8
    try clear c8b0
    try clear c8b1
    try clear c10
    try clear hcz11_0
    try clear hcz11_1
    try clear hcz11_2
    try clear hcz7_0
    try clear hcz7_1
    try clear hcz7_2
    try clear hfz11_0
    try clear hfz11_1
    try clear hfz11_2
    try clear hfz7_0
    try clear hfz7_1
    try clear hfz7_2
    try clear p2
    obtain ⟨kq,x6_8,x7_8,rfl,rfl,HA,HJ8,HO_5,BK101,HB⟩:=hcut
    cases kq with
    | zero=>exact absurd HA.out (by simp [impl_tray_lines.j1])
    | succ kj8 =>
     have H:=HA.out
     clear HA
     simp only [impl_tray_lines.j1] at H
     have H':=am H
     clear H
     go_wp2
     repeat (go_quiet (fail);try go_wp2)
     go_loopg [5,27] kj8 (fun kq v5 v27 w'=>∃ (x5_3:List (List Int)) (x27_3:Int),v27 = .int .i64 x27_3 ∧ Aside0 (impl_tray_lines.l0 kq a1 x5_3 x7_8 x6_8 x27_3 a0_0 a0_1 l0_2 = some r) ∧ Aside0 (kq ≤ kj8) ∧ Aside0 (Kd.S (Kd.slice 3 (Kd.int .i64)) 40 w' w.heap.size (fun _=>True) v5 x5_3) ∧ Aside0 (w'.heap[gb101]? = some (.cells #[.int .i64 a0_0,.int .i64 a0_1,(.slice A0_2 l0_2.length c0_2)] 65 (0,0))) ∧ Aside0 (Below w.heap.size w w'))
     case atStart=>exact ⟨(y102),(0),aq6,H',⟨Nat.le_refl _⟩,⟨aq18⟩,⟨aq2⟩,⟨aq0⟩⟩
     case round =>
      clear H'
      try clear c1
      try clear p2
      try clear c8
      try clear c8b0
      try clear c8b1
      try clear c10
      try clear hcz11_0
      try clear hcz11_1
      try clear hcz11_2
      try clear hcz7_0
      try clear hcz7_1
      try clear hcz7_2
      try clear hfz11_0
      try clear hfz11_1
      try clear hfz11_2
      try clear hfz7_0
      try clear hfz7_1
      try clear hfz7_2
      try clear p2
      obtain ⟨x5_3,x27_3,rfl,HA,HK3,HO_5,BK101,HB⟩:=hrel
      cases gk with
      | zero=>exact absurd HA.out (by simp [impl_tray_lines.l0])
      | succ k3 =>
       have H:=HA.out
       clear HA
       simp only [impl_tray_lines.l0] at H
       by_cases c12:x27_3 < x6_8
       rotate_left
       ·rw [if_neg c12] at H
        have c12b0:=decide_eq_false c12
        clear c12
        obtain rfl:=Option.some.inj H
        go_wp2
        repeat (go_quiet (fail);try go_wp2)
        go_ret
        exact ⟨_,aq9,aq18,aq0⟩
       rw [if_pos c12] at H
       have c12b0:=decide_eq_true c12
       clear c12
       obtain ⟨y105,hy_⟩:∃ y_:List Int,y_ = (([]:List Int)):=⟨_,rfl⟩
       replace H:(impl_tray_lines.l1 k3 a1 x5_3 x7_8 x27_3 y105 x6_8 x27_3 x7_8 0 a0_0 a0_1 l0_2) = some r:=aq3
       have Ny105:=am hy_
       clear hy_
       have H':=am H
       clear H
       go_wp2_with (first | ((with_reducible refine gate_dst (N:=30) rfl ?_);refine Kd.R_lit (Kd.int .i64) _ 3 ?hg (N:=30) ?hd (xs:=([]:List Int)) (inner:=[]) (ok:=fun _=>True) (okp:=fun _=>True) ?hr ?hp (fun _ hk=>hk) trivial (Below.refl _ _) (Nat.le_refl _) (by simp) ?_;(case hd=>rfl);(case hg=>rfl);(case hr=>exact aq12);(case hp=>exact aq79);intro v106 w13 ho14 hb hg_ hnew_;clear hg_ hnew_;(first | rw [← Ny105.out] at ho14 | (simp only [Int.reduceToNat] at ho14;rw [← Ny105.out] at ho14));replace HO_5:=am (Kd.S_elder' aq18 (Kd.R_base ho14) hb);have HO107:=am (Kd.R_lower ho14 (below_size aq0));replace BK101:=am (bb BK101 hb);replace HB:=am (below_step aq0 hb);clear hb ho14))
       repeat (go_quiet (fail);try go_wp2_with (first | ((with_reducible refine gate_dst (N:=30) rfl ?_);refine Kd.R_lit (Kd.int .i64) _ 3 ?hg (N:=30) ?hd (xs:=([]:List Int)) (inner:=[]) (ok:=fun _=>True) (okp:=fun _=>True) ?hr ?hp (fun _ hk=>hk) trivial (Below.refl _ _) (Nat.le_refl _) (by simp) ?_;(case hd=>rfl);(case hg=>rfl);(case hr=>exact aq12);(case hp=>exact aq79);intro v106 w13 ho14 hb hg_ hnew_;clear hg_ hnew_;(first | rw [← Ny105.out] at ho14 | (simp only [Int.reduceToNat] at ho14;rw [← Ny105.out] at ho14));replace HO_5:=am (Kd.S_elder' aq18 (Kd.R_base ho14) hb);have HO107:=am (Kd.R_lower ho14 (below_size aq0));replace BK101:=am (bb BK101 hb);replace HB:=am (below_step aq0 hb);clear hb ho14)))
       go_loopg [9,32] k3 (fun kq v9 v32 w'=>∃ (x9_4:List Int) (x32_4:Int),v32 = .int .i64 x32_4 ∧ Aside0 (impl_tray_lines.l1 kq a1 x5_3 x7_8 x27_3 x9_4 x6_8 x27_3 x7_8 x32_4 a0_0 a0_1 l0_2 = some r) ∧ Aside0 (kq ≤ k3) ∧ Aside0 (Kd.S (Kd.slice 3 (Kd.int .i64)) 40 w' w.heap.size (fun k_=>some k_ ≠ (v9:Value).ownBlock) u5 x5_3) ∧ Aside0 (Kd.R (Kd.int .i64) 3 w' w.heap.size (fun _=>True) v9 x9_4) ∧ Aside0 (w'.heap[gb101]? = some (.cells #[.int .i64 a0_0,.int .i64 a0_1,(.slice A0_2 l0_2.length c0_2)] 65 (0,0))) ∧ Aside0 (Below w.heap.size w w'))
       case atStart=>exact ⟨(y105),(0),aq6,H',⟨Nat.le_refl _⟩,⟨aq40⟩,⟨aq36⟩,⟨aq2⟩,⟨aq0⟩⟩
       case round =>
        clear H'
        try clear c1
        try clear p2
        try clear c8
        try clear c8b0
        try clear c8b1
        try clear c10
        try clear c12
        try clear c12b0
        try clear hcz11_0
        try clear hcz11_1
        try clear hcz11_2
        try clear hcz7_0
        try clear hcz7_1
        try clear hcz7_2
        try clear hfz11_0
        try clear hfz11_1
        try clear hfz11_2
        try clear hfz7_0
        try clear hfz7_1
        try clear hfz7_2
        try clear p2
        obtain ⟨x9_4,x32_4,rfl,HA,HK4,HO_5,HO_9,BK101,HB⟩:=hrel
        cases gk with
        | zero=>exact absurd HA.out (by simp [impl_tray_lines.l1])
        | succ k4 =>
         have H:=HA.out
         clear HA
         simp only [impl_tray_lines.l1] at H
         by_cases c15:x32_4 < x7_8
         rotate_left
         ·rw [if_neg c15] at H
          have c15b0:=decide_eq_false c15
          clear c15
          by_cases c29:a1 = 114
          ·rw [if_pos c29] at H
           have c29b0:=beq_iff_eq.mpr c29
           have c29b1:=bne_eq_false_iff_eq.mpr c29
           clear c29
           obtain ⟨t108,A30,H⟩:=bn H
           replace H:=gd H
           obtain ⟨c31,H⟩:=H
           have LMc31:=am c31
           clear c31
           obtain ⟨y109,hy_⟩:∃ y_:List (List Int),y_ = (x5_3 ++ [t108]):=⟨_,rfl⟩
           replace H:(impl_tray_lines.l0 k4 a1 y109 x7_8 x6_8 (wrap64 (x27_3 + 1)) a0_0 a0_1 l0_2) = some r:=aq3
           have Ny109:=am hy_
           clear hy_
           have H':=am H
           clear H
           obtain ⟨Ao32,co32,eo32⟩:=Kd.R_slice HO_9.out
           subst eo32
           go_wp2_with (first | (go_at_call 212;(with_reducible refine (slices_Reverse_int_int.calls k4 (fun k_=>some k_ = (.slice Ao32 x9_4.length co32:Value).ownBlock) (.slice Ao32 x9_4.length co32) x9_4 t108 w _ ?side1 ?side2 A30.out).mono ?_);(case side1=>exact aq0);(case side2=>exact Kd.R_tight rfl HO_9.out);rintro e w33 ⟨rfl,hy0,hb,hkp⟩;replace HO_5:=am (Kd.S_mono (ok':=fun k_=>some k_ ≠ (.slice Ao32 x9_4.length co32:Value).ownBlock) (Kd.S_keptB (HO_5.out) hkp (fun k_ hk_ hs_=>(hk_) hs_)) (fun k_ hk_=>hk_.1));replace BK101:=am (blk_kept aq2 hkp (fun hs_=>(fun e_=>(Kd.R_ne HO_9.out BK101.out d_c) e_) hs_));replace HO_9:=am (Kd.R_reok rfl hy0 (fun k_ e_=>HO_9.out.1 k_ e_));replace HB:=am (hb);(try clear hb);(try clear hkp);(try clear hy0)) | ((with_reducible refine gate_builtin (b:=.append) (xs:=#[.tmp 64,.tmp 66]) rfl ?_);at_builtin;refine Kd.S_append (Kd.slice 3 (Kd.int .i64)) (w0:=w) w.heap.size rfl (.tmp 64) (.tmp 66) 57 40 (.slice none 0 0) 24 rfl Tryz.underlying57 info40 rfl d_c o_m u5 x5_3 t108 [.slice Ao32 x9_4.length co32] (fun _=>True) (fun k_=>some k_ = (.slice Ao32 x9_4.length co32:Value).ownBlock) rfl rfl ?aP (fun k_ hk_=>((Kd.R_mono (ok':=fun k_=>((fun _=>True)) k_ ∧ some k_ ≠ (u5:Value).ownBlock) (Kd.R_apart' (HO_9.out) (Kd.S_typed HO_5.out) d_c) (fun k_ hk=>⟨trivial,hk.2⟩))).1 k_ hk_.symm) ?aF ?aO ?aB ?aS ?aL ?_;(case aP=>exact aq21);(case aB=>exact aq0);(case aF=>exact aq50);(case aO=>exact aq23);(case aS=>exact aq51);(case aL=>have:=LMc31.out;omega);intro v110 w34 ho hb hg hat;rw [← Ny109.out] at ho;replace BK101:=am (bg BK101 hg (Kd.S_ne HO_5.out BK101.out d_c));replace HB:=am (hb);have HO111:=am (ho);clear HO_5 HO_9 ho hb hg hat))
           repeat (go_quiet (fail);try go_wp2_with (first | (go_at_call 212;(with_reducible refine (slices_Reverse_int_int.calls k4 (fun k_=>some k_ = (.slice Ao32 x9_4.length co32:Value).ownBlock) (.slice Ao32 x9_4.length co32) x9_4 t108 w _ ?side1 ?side2 A30.out).mono ?_);(case side1=>exact aq0);(case side2=>exact Kd.R_tight rfl HO_9.out);rintro e w33 ⟨rfl,hy0,hb,hkp⟩;replace HO_5:=am (Kd.S_mono (ok':=fun k_=>some k_ ≠ (.slice Ao32 x9_4.length co32:Value).ownBlock) (Kd.S_keptB (HO_5.out) hkp (fun k_ hk_ hs_=>(hk_) hs_)) (fun k_ hk_=>hk_.1));replace BK101:=am (blk_kept aq2 hkp (fun hs_=>(fun e_=>(Kd.R_ne HO_9.out BK101.out d_c) e_) hs_));replace HO_9:=am (Kd.R_reok rfl hy0 (fun k_ e_=>HO_9.out.1 k_ e_));replace HB:=am (hb);(try clear hb);(try clear hkp);(try clear hy0)) | ((with_reducible refine gate_builtin (b:=.append) (xs:=#[.tmp 64,.tmp 66]) rfl ?_);at_builtin;refine Kd.S_append (Kd.slice 3 (Kd.int .i64)) (w0:=w) w.heap.size rfl (.tmp 64) (.tmp 66) 57 40 (.slice none 0 0) 24 rfl Tryz.underlying57 info40 rfl d_c o_m u5 x5_3 t108 [.slice Ao32 x9_4.length co32] (fun _=>True) (fun k_=>some k_ = (.slice Ao32 x9_4.length co32:Value).ownBlock) rfl rfl ?aP (fun k_ hk_=>((Kd.R_mono (ok':=fun k_=>((fun _=>True)) k_ ∧ some k_ ≠ (u5:Value).ownBlock) (Kd.R_apart' (HO_9.out) (Kd.S_typed HO_5.out) d_c) (fun k_ hk=>⟨trivial,hk.2⟩))).1 k_ hk_.symm) ?aF ?aO ?aB ?aS ?aL ?_;(case aP=>exact aq21);(case aB=>exact aq0);(case aF=>exact aq50);(case aO=>exact aq23);(case aS=>exact aq51);(case aL=>have:=LMc31.out;omega);intro v110 w34 ho hb hg hat;rw [← Ny109.out] at ho;replace BK101:=am (bg BK101 hg (Kd.S_ne HO_5.out BK101.out d_c));replace HB:=am (hb);have HO111:=am (ho);clear HO_5 HO_9 ho hb hg hat)))
           go_roundg k4
           case measure=>have:=HJ2.out;have:=HJ8.out;have:=HK3.out;have:=HK4.out;omega
           case rel=>exact ⟨(y109),(wrap64 (x27_3 + 1)),aq6,H',⟨aq75⟩,⟨by (with_reducible repeat (first | apply Kd.S_alloc | apply Kd.S_drewN | apply Kd.S_drew));exact HO111.out⟩,⟨aq2⟩,⟨aq0⟩⟩
          rw [if_neg c29] at H
          have c29b0:=beq_eq_false_iff_ne.mpr c29
          have c29b1:=bne_iff_ne.mpr c29
          by_cases c35:a1 = 100
          rotate_left
          ·rw [if_neg c35] at H
           have c35b0:=beq_eq_false_iff_ne.mpr c35
           have c35b1:=bne_iff_ne.mpr c35
           replace H:=gd H
           obtain ⟨c41,H⟩:=H
           have LMc41:=am c41
           clear c41
           obtain ⟨y116,hy_⟩:∃ y_:List (List Int),y_ = (x5_3 ++ [x9_4]):=⟨_,rfl⟩
           replace H:(impl_tray_lines.l0 k4 a1 y116 x7_8 x6_8 (wrap64 (x27_3 + 1)) a0_0 a0_1 l0_2) = some r:=aq3
           have Ny116:=am hy_
           clear hy_
           have H':=am H
           clear H
           obtain ⟨Ao43,co43,eo43⟩:=Kd.R_slice HO_9.out
           subst eo43
           go_wp2_with (first | ((with_reducible refine gate_builtin (b:=.append) (xs:=#[.tmp 64,.tmp 66]) rfl ?_);at_builtin;refine Kd.S_append (Kd.slice 3 (Kd.int .i64)) (w0:=w) w.heap.size rfl (.tmp 64) (.tmp 66) 57 40 (.slice none 0 0) 24 rfl Tryz.underlying57 info40 rfl d_c o_m u5 x5_3 x9_4 [.slice Ao43 x9_4.length co43] (fun _=>True) (fun k_=>some k_ = (.slice Ao43 x9_4.length co43:Value).ownBlock) rfl rfl ?aP (fun k_ hk_=>((Kd.R_mono (ok':=fun k_=>((fun _=>True)) k_ ∧ some k_ ≠ (u5:Value).ownBlock) (Kd.R_apart' (HO_9.out) (Kd.S_typed HO_5.out) d_c) (fun k_ hk=>⟨trivial,hk.2⟩))).1 k_ hk_.symm) ?aF ?aO ?aB ?aS ?aL ?_;(case aP=>exact aq21);(case aB=>exact aq0);(case aF=>exact aq50);(case aO=>exact aq23);(case aS=>exact aq51);(case aL=>have:=LMc41.out;omega);intro v117 w42 ho hb hg hat;rw [← Ny116.out] at ho;replace BK101:=am (bg BK101 hg (Kd.S_ne HO_5.out BK101.out d_c));replace HB:=am (hb);have HO118:=am (ho);clear HO_5 HO_9 ho hb hg hat))
           repeat (go_quiet (fail);try go_wp2_with (first | ((with_reducible refine gate_builtin (b:=.append) (xs:=#[.tmp 64,.tmp 66]) rfl ?_);at_builtin;refine Kd.S_append (Kd.slice 3 (Kd.int .i64)) (w0:=w) w.heap.size rfl (.tmp 64) (.tmp 66) 57 40 (.slice none 0 0) 24 rfl Tryz.underlying57 info40 rfl d_c o_m u5 x5_3 x9_4 [.slice Ao43 x9_4.length co43] (fun _=>True) (fun k_=>some k_ = (.slice Ao43 x9_4.length co43:Value).ownBlock) rfl rfl ?aP (fun k_ hk_=>((Kd.R_mono (ok':=fun k_=>((fun _=>True)) k_ ∧ some k_ ≠ (u5:Value).ownBlock) (Kd.R_apart' (HO_9.out) (Kd.S_typed HO_5.out) d_c) (fun k_ hk=>⟨trivial,hk.2⟩))).1 k_ hk_.symm) ?aF ?aO ?aB ?aS ?aL ?_;(case aP=>exact aq21);(case aB=>exact aq0);(case aF=>exact aq50);(case aO=>exact aq23);(case aS=>exact aq51);(case aL=>have:=LMc41.out;omega);intro v117 w42 ho hb hg hat;rw [← Ny116.out] at ho;replace BK101:=am (bg BK101 hg (Kd.S_ne HO_5.out BK101.out d_c));replace HB:=am (hb);have HO118:=am (ho);clear HO_5 HO_9 ho hb hg hat)))
           go_roundg k4
           case measure=>have:=HJ2.out;have:=HJ8.out;have:=HK3.out;have:=HK4.out;omega
           case rel=>exact ⟨(y116),(wrap64 (x27_3 + 1)),aq6,H',⟨aq75⟩,⟨by (with_reducible repeat (first | apply Kd.S_alloc | apply Kd.S_drewN | apply Kd.S_drew));exact HO118.out⟩,⟨aq2⟩,⟨aq0⟩⟩
          rw [if_pos c35] at H
          have c35b0:=beq_iff_eq.mpr c35
          have c35b1:=bne_eq_false_iff_eq.mpr c35
          clear c35
          obtain ⟨t112,A36,H⟩:=bn H
          replace H:=gd H
          obtain ⟨c37,H⟩:=H
          have LMc37:=am c37
          clear c37
          obtain ⟨y113,hy_⟩:∃ y_:List (List Int),y_ = (x5_3 ++ [t112]):=⟨_,rfl⟩
          replace H:(impl_tray_lines.l0 k4 a1 y113 x7_8 x6_8 (wrap64 (x27_3 + 1)) a0_0 a0_1 l0_2) = some r:=aq3
          have Ny113:=am hy_
          clear hy_
          have H':=am H
          clear H
          obtain ⟨Ao38,co38,eo38⟩:=Kd.R_slice HO_9.out
          subst eo38
          go_wp2_with (first | (go_at_call 212;(with_reducible refine (slices_Reverse_int_int.calls k4 (fun k_=>some k_ = (.slice Ao38 x9_4.length co38:Value).ownBlock) (.slice Ao38 x9_4.length co38) x9_4 t112 w _ ?side1 ?side2 A36.out).mono ?_);(case side1=>exact aq0);(case side2=>exact Kd.R_tight rfl HO_9.out);rintro e w39 ⟨rfl,hy0,hb,hkp⟩;replace HO_5:=am (Kd.S_mono (ok':=fun k_=>some k_ ≠ (.slice Ao38 x9_4.length co38:Value).ownBlock) (Kd.S_keptB (HO_5.out) hkp (fun k_ hk_ hs_=>(hk_) hs_)) (fun k_ hk_=>hk_.1));replace BK101:=am (blk_kept aq2 hkp (fun hs_=>(fun e_=>(Kd.R_ne HO_9.out BK101.out d_c) e_) hs_));replace HO_9:=am (Kd.R_reok rfl hy0 (fun k_ e_=>HO_9.out.1 k_ e_));replace HB:=am (hb);(try clear hb);(try clear hkp);(try clear hy0)) | ((with_reducible refine gate_builtin (b:=.append) (xs:=#[.tmp 64,.tmp 66]) rfl ?_);at_builtin;refine Kd.S_append (Kd.slice 3 (Kd.int .i64)) (w0:=w) w.heap.size rfl (.tmp 64) (.tmp 66) 57 40 (.slice none 0 0) 24 rfl Tryz.underlying57 info40 rfl d_c o_m u5 x5_3 t112 [.slice Ao38 x9_4.length co38] (fun _=>True) (fun k_=>some k_ = (.slice Ao38 x9_4.length co38:Value).ownBlock) rfl rfl ?aP (fun k_ hk_=>((Kd.R_mono (ok':=fun k_=>((fun _=>True)) k_ ∧ some k_ ≠ (u5:Value).ownBlock) (Kd.R_apart' (HO_9.out) (Kd.S_typed HO_5.out) d_c) (fun k_ hk=>⟨trivial,hk.2⟩))).1 k_ hk_.symm) ?aF ?aO ?aB ?aS ?aL ?_;(case aP=>exact aq21);(case aB=>exact aq0);(case aF=>exact aq50);(case aO=>exact aq23);(case aS=>exact aq51);(case aL=>have:=LMc37.out;omega);intro v114 w40 ho hb hg hat;rw [← Ny113.out] at ho;replace BK101:=am (bg BK101 hg (Kd.S_ne HO_5.out BK101.out d_c));replace HB:=am (hb);have HO115:=am (ho);clear HO_5 HO_9 ho hb hg hat))
          repeat (go_quiet (fail);try go_wp2_with (first | (go_at_call 212;(with_reducible refine (slices_Reverse_int_int.calls k4 (fun k_=>some k_ = (.slice Ao38 x9_4.length co38:Value).ownBlock) (.slice Ao38 x9_4.length co38) x9_4 t112 w _ ?side1 ?side2 A36.out).mono ?_);(case side1=>exact aq0);(case side2=>exact Kd.R_tight rfl HO_9.out);rintro e w39 ⟨rfl,hy0,hb,hkp⟩;replace HO_5:=am (Kd.S_mono (ok':=fun k_=>some k_ ≠ (.slice Ao38 x9_4.length co38:Value).ownBlock) (Kd.S_keptB (HO_5.out) hkp (fun k_ hk_ hs_=>(hk_) hs_)) (fun k_ hk_=>hk_.1));replace BK101:=am (blk_kept aq2 hkp (fun hs_=>(fun e_=>(Kd.R_ne HO_9.out BK101.out d_c) e_) hs_));replace HO_9:=am (Kd.R_reok rfl hy0 (fun k_ e_=>HO_9.out.1 k_ e_));replace HB:=am (hb);(try clear hb);(try clear hkp);(try clear hy0)) | ((with_reducible refine gate_builtin (b:=.append) (xs:=#[.tmp 64,.tmp 66]) rfl ?_);at_builtin;refine Kd.S_append (Kd.slice 3 (Kd.int .i64)) (w0:=w) w.heap.size rfl (.tmp 64) (.tmp 66) 57 40 (.slice none 0 0) 24 rfl Tryz.underlying57 info40 rfl d_c o_m u5 x5_3 t112 [.slice Ao38 x9_4.length co38] (fun _=>True) (fun k_=>some k_ = (.slice Ao38 x9_4.length co38:Value).ownBlock) rfl rfl ?aP (fun k_ hk_=>((Kd.R_mono (ok':=fun k_=>((fun _=>True)) k_ ∧ some k_ ≠ (u5:Value).ownBlock) (Kd.R_apart' (HO_9.out) (Kd.S_typed HO_5.out) d_c) (fun k_ hk=>⟨trivial,hk.2⟩))).1 k_ hk_.symm) ?aF ?aO ?aB ?aS ?aL ?_;(case aP=>exact aq21);(case aB=>exact aq0);(case aF=>exact aq50);(case aO=>exact aq23);(case aS=>exact aq51);(case aL=>have:=LMc37.out;omega);intro v114 w40 ho hb hg hat;rw [← Ny113.out] at ho;replace BK101:=am (bg BK101 hg (Kd.S_ne HO_5.out BK101.out d_c));replace HB:=am (hb);have HO115:=am (ho);clear HO_5 HO_9 ho hb hg hat)))
          go_roundg k4
          case measure=>have:=HJ2.out;have:=HJ8.out;have:=HK3.out;have:=HK4.out;omega
          case rel=>exact ⟨(y113),(wrap64 (x27_3 + 1)),aq6,H',⟨aq75⟩,⟨by (with_reducible repeat (first | apply Kd.S_alloc | apply Kd.S_drewN | apply Kd.S_drew));exact HO115.out⟩,⟨aq2⟩,⟨aq0⟩⟩
         rw [if_pos c15] at H
         have c15b0:=decide_eq_true c15
         clear c15
         have HC16:=am H
         clear H
         go_upto_region 12 with (fail)
         repeat (go_quiet (fail);go_upto_region 12 with (fail))
         go_cut [40] (fun v40 wc=>∃ (kq:Nat) (x40_15:Bool),v40 = .bool x40_15 ∧ Aside0 (impl_tray_lines.j4 kq a1 x5_3 x7_8 x27_3 x9_4 x32_4 x6_8 x27_3 x7_8 x32_4 x40_15 a0_0 a0_1 l0_2 = some r) ∧ Aside0 (kq ≤ k4) ∧ Aside0 (Kd.S (Kd.slice 3 (Kd.int .i64)) 40 wc w.heap.size (fun k_=>some k_ ≠ (u9:Value).ownBlock) u5 x5_3) ∧ Aside0 (Kd.R (Kd.int .i64) 3 wc w.heap.size (fun _=>True) u9 x9_4) ∧ Aside0 (wc.heap[gb101]? = some (.cells #[.int .i64 a0_0,.int .i64 a0_1,(.slice A0_2 l0_2.length c0_2)] 65 (0,0))) ∧ Aside0 (Below w.heap.size w wc))
         case first =>
          have H:=HC16.out
          clear HC16
          by_cases c17:a1 = 117
          rotate_left
          ·rw [if_neg c17] at H
           have c17b0:=beq_eq_false_iff_ne.mpr c17
           have c17b1:=bne_iff_ne.mpr c17
           (first | rw [c17b0] | (simp only [i64_w,i32_w];rw [c17b0]) | skip)
           have H':=am H
           clear H
           go_wp2
           repeat (go_quiet (fail);try go_wp2)
           go_meet
           case rel=>exact ⟨_,((a1 == 100)),aq6,H',⟨by have:=HJ2.out;have:=HJ8.out;have:=HK3.out;have:=HK4.out;first | omega | exact Nat.le_refl _⟩,⟨aq18⟩,⟨aq22⟩,⟨aq2⟩,⟨aq0⟩⟩
          rw [if_pos c17] at H
          have c17b0:=beq_iff_eq.mpr c17
          have c17b1:=bne_eq_false_iff_eq.mpr c17
          clear c17
          (first | rw [c17b0] | (simp only [i64_w,i32_w];rw [c17b0]) | skip)
          have H':=am H
          clear H
          go_wp2
          repeat (go_quiet (fail);try go_wp2)
          go_meet
          case rel=>exact ⟨_,(true),aq6,H',⟨by have:=HJ2.out;have:=HJ8.out;have:=HK3.out;have:=HK4.out;first | omega | exact Nat.le_refl _⟩,⟨aq18⟩,⟨aq22⟩,⟨aq2⟩,⟨aq0⟩⟩
         case rest =>
          clear HC16
          try clear c1
          try clear p2
          try clear c8
          try clear c8b0
          try clear c8b1
          try clear c10
          try clear c12
          try clear c12b0
          try clear c15
          try clear c15b0
          try clear c17
          try clear c17b0
          try clear c17b1
          try clear hcz11_0
          try clear hcz11_1
          try clear hcz11_2
          try clear hcz7_0
          try clear hcz7_1
          try clear hcz7_2
          try clear hfz11_0
          try clear hfz11_1
          try clear hfz11_2
          try clear hfz7_0
          try clear hfz7_1
          try clear hfz7_2
          try clear p2
          obtain ⟨kq,x40_15,rfl,HA,HJ15,HO_5,HO_9,BK101,HB⟩:=hcut
          cases kq with
          | zero=>exact absurd HA.out (by simp [impl_tray_lines.j4])
          | succ kj15 =>
           have H:=HA.out
           clear HA
           simp only [impl_tray_lines.j4] at H
           by_cases c18:x40_15 = true
           ·subst c18
            rw [if_pos rfl] at H
            obtain ⟨t119,A19,H⟩:=bn H
            replace H:=gd H
            obtain ⟨c20,H⟩:=H
            have LMc20:=am c20
            clear c20
            obtain ⟨y120,hy_⟩:∃ y_:List Int,y_ = (x9_4 ++ [t119]):=⟨_,rfl⟩
            replace H:(impl_tray_lines.l1 kj15 a1 x5_3 x7_8 x27_3 y120 x6_8 x27_3 x7_8 (wrap64 (x32_4 + 1)) a0_0 a0_1 l0_2) = some r:=aq3
            have Ny120:=am hy_
            clear hy_
            have H':=am H
            clear H
            obtain ⟨hcz21_0,hcz21_1,hcz21_2,hfz21_0,hfz21_1,hfz21_2⟩:=blk3_ BK101.out
            go_wp2_with (first | (go_at_call 211;(with_reducible refine (impl_tray_number.calls a0_0 a0_1 _ _ l0_2 x27_3 x32_4 t119 _ ?side1 ?side2 A19.out).mono ?_);(case side1=>exact aq7);(case side2=>exact HC0_2.out);rintro e w22 ⟨rfl,hb⟩;replace HO_5:=am (Kd.S_below aq18 hb);replace HO_9:=am (Kd.R_below aq22 hb);replace BK101:=am (bb BK101 hb);replace HB:=am (below_step aq0 hb);(try clear hb)) | ((with_reducible refine gate_builtin (b:=.append) (xs:=#[.tmp 41,.tmp 46]) rfl ?_);at_builtin;refine Kd.R_append (Kd.int .i64) (w0:=w) w.heap.size rfl (.tmp 41) (.tmp 46) 40 3 (.int .i64 0) 8 rfl Tryz.underlying40 info3 rfl d_c o_m u9 x9_4 t119 [.int .i64 t119] (fun _=>True) (fun _=>False) rfl rfl ?aP (fun _ hk=>hk.elim) ?aF ?aO ?aB ?aS ?aL ?_;(case aP=>exact rfl);(case aB=>exact aq0);(case aF=>exact aq50);(case aO=>exact aq22);(case aS=>exact aq51);(case aL=>have:=LMc20.out;omega);intro v121 w23 ho hb hg hat;rw [← Ny120.out] at ho;replace HO_5:=am (Kd.S_after (ok:=(fun _=>True)) aq35 hg hat);replace BK101:=am (bg BK101 hg (Kd.R_ne HO_9.out BK101.out d_c));replace HB:=am (hb);have HO122:=am (ho);clear HO_9 ho hb hg hat))
            repeat (go_quiet (fail);try go_wp2_with (first | (go_at_call 211;(with_reducible refine (impl_tray_number.calls a0_0 a0_1 _ _ l0_2 x27_3 x32_4 t119 _ ?side1 ?side2 A19.out).mono ?_);(case side1=>exact aq7);(case side2=>exact HC0_2.out);rintro e w22 ⟨rfl,hb⟩;replace HO_5:=am (Kd.S_below aq18 hb);replace HO_9:=am (Kd.R_below aq22 hb);replace BK101:=am (bb BK101 hb);replace HB:=am (below_step aq0 hb);(try clear hb)) | ((with_reducible refine gate_builtin (b:=.append) (xs:=#[.tmp 41,.tmp 46]) rfl ?_);at_builtin;refine Kd.R_append (Kd.int .i64) (w0:=w) w.heap.size rfl (.tmp 41) (.tmp 46) 40 3 (.int .i64 0) 8 rfl Tryz.underlying40 info3 rfl d_c o_m u9 x9_4 t119 [.int .i64 t119] (fun _=>True) (fun _=>False) rfl rfl ?aP (fun _ hk=>hk.elim) ?aF ?aO ?aB ?aS ?aL ?_;(case aP=>exact rfl);(case aB=>exact aq0);(case aF=>exact aq50);(case aO=>exact aq22);(case aS=>exact aq51);(case aL=>have:=LMc20.out;omega);intro v121 w23 ho hb hg hat;rw [← Ny120.out] at ho;replace HO_5:=am (Kd.S_after (ok:=(fun _=>True)) aq35 hg hat);replace BK101:=am (bg BK101 hg (Kd.R_ne HO_9.out BK101.out d_c));replace HB:=am (hb);have HO122:=am (ho);clear HO_9 ho hb hg hat)))
            go_roundg kj15
            case measure=>have:=HJ2.out;have:=HJ8.out;have:=HK3.out;have:=HK4.out;have:=HJ15.out;omega
            case rel=>exact ⟨(y120),(wrap64 (x32_4 + 1)),aq6,H',⟨by have:=HJ2.out;have:=HJ8.out;have:=HK3.out;have:=HK4.out;have:=HJ15.out;omega⟩,⟨aq40⟩,⟨by (with_reducible repeat (first | apply Kd.R_alloc | apply Kd.R_drewN | apply Kd.R_drew));exact HO122.out⟩,⟨aq2⟩,⟨aq0⟩⟩
           replace c18:=Bool.eq_false_iff.mpr c18
           subst c18
           rw [if_neg Bool.false_ne_true] at H
           obtain ⟨t123,A24,H⟩:=bn H
           replace H:=gd H
           obtain ⟨c25,H⟩:=H
           have LMc25:=am c25
           clear c25
           obtain ⟨y124,hy_⟩:∃ y_:List Int,y_ = (x9_4 ++ [t123]):=⟨_,rfl⟩
           replace H:(impl_tray_lines.l1 kj15 a1 x5_3 x7_8 x27_3 y124 x6_8 x27_3 x7_8 (wrap64 (x32_4 + 1)) a0_0 a0_1 l0_2) = some r:=aq3
           have Ny124:=am hy_
           clear hy_
           have H':=am H
           clear H
           obtain ⟨hcz26_0,hcz26_1,hcz26_2,hfz26_0,hfz26_1,hfz26_2⟩:=blk3_ BK101.out
           go_wp2_with (first | (go_at_call 211;(with_reducible refine (impl_tray_number.calls a0_0 a0_1 _ _ l0_2 x32_4 x27_3 t123 _ ?side1 ?side2 A24.out).mono ?_);(case side1=>exact aq7);(case side2=>exact HC0_2.out);rintro e w27 ⟨rfl,hb⟩;replace HO_5:=am (Kd.S_below aq18 hb);replace HO_9:=am (Kd.R_below aq22 hb);replace BK101:=am (bb BK101 hb);replace HB:=am (below_step aq0 hb);(try clear hb)) | ((with_reducible refine gate_builtin (b:=.append) (xs:=#[.tmp 48,.tmp 53]) rfl ?_);at_builtin;refine Kd.R_append (Kd.int .i64) (w0:=w) w.heap.size rfl (.tmp 48) (.tmp 53) 40 3 (.int .i64 0) 8 rfl Tryz.underlying40 info3 rfl d_c o_m u9 x9_4 t123 [.int .i64 t123] (fun _=>True) (fun _=>False) rfl rfl ?aP (fun _ hk=>hk.elim) ?aF ?aO ?aB ?aS ?aL ?_;(case aP=>exact rfl);(case aB=>exact aq0);(case aF=>exact aq50);(case aO=>exact aq22);(case aS=>exact aq51);(case aL=>have:=LMc25.out;omega);intro v125 w28 ho hb hg hat;rw [← Ny124.out] at ho;replace HO_5:=am (Kd.S_after (ok:=(fun _=>True)) aq35 hg hat);replace BK101:=am (bg BK101 hg (Kd.R_ne HO_9.out BK101.out d_c));replace HB:=am (hb);have HO126:=am (ho);clear HO_9 ho hb hg hat))
           repeat (go_quiet (fail);try go_wp2_with (first | (go_at_call 211;(with_reducible refine (impl_tray_number.calls a0_0 a0_1 _ _ l0_2 x32_4 x27_3 t123 _ ?side1 ?side2 A24.out).mono ?_);(case side1=>exact aq7);(case side2=>exact HC0_2.out);rintro e w27 ⟨rfl,hb⟩;replace HO_5:=am (Kd.S_below aq18 hb);replace HO_9:=am (Kd.R_below aq22 hb);replace BK101:=am (bb BK101 hb);replace HB:=am (below_step aq0 hb);(try clear hb)) | ((with_reducible refine gate_builtin (b:=.append) (xs:=#[.tmp 48,.tmp 53]) rfl ?_);at_builtin;refine Kd.R_append (Kd.int .i64) (w0:=w) w.heap.size rfl (.tmp 48) (.tmp 53) 40 3 (.int .i64 0) 8 rfl Tryz.underlying40 info3 rfl d_c o_m u9 x9_4 t123 [.int .i64 t123] (fun _=>True) (fun _=>False) rfl rfl ?aP (fun _ hk=>hk.elim) ?aF ?aO ?aB ?aS ?aL ?_;(case aP=>exact rfl);(case aB=>exact aq0);(case aF=>exact aq50);(case aO=>exact aq22);(case aS=>exact aq51);(case aL=>have:=LMc25.out;omega);intro v125 w28 ho hb hg hat;rw [← Ny124.out] at ho;replace HO_5:=am (Kd.S_after (ok:=(fun _=>True)) aq35 hg hat);replace BK101:=am (bg BK101 hg (Kd.R_ne HO_9.out BK101.out d_c));replace HB:=am (hb);have HO126:=am (ho);clear HO_9 ho hb hg hat)))
           go_roundg kj15
           case measure=>have:=HJ2.out;have:=HJ8.out;have:=HK3.out;have:=HK4.out;have:=HJ15.out;omega
           case rel=>exact ⟨(y124),(wrap64 (x32_4 + 1)),aq6,H',⟨by have:=HJ2.out;have:=HJ8.out;have:=HK3.out;have:=HK4.out;have:=HJ15.out;omega⟩,⟨aq40⟩,⟨by (with_reducible repeat (first | apply Kd.R_alloc | apply Kd.R_drewN | apply Kd.R_drew));exact HO126.out⟩,⟨aq2⟩,⟨aq0⟩⟩
end Go.Proofs.YtldhkbiomingbaaGreatDoor.F
