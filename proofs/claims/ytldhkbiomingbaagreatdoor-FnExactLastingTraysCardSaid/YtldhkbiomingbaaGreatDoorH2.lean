/- The proof that the law's row holds, part 2: the kit's words, the printed walks and the plain law. No conditions beyond the card's own. -/
import Derived.Shelf.SlicesE.IndexFunc
import Derived.StillTailTactics
import Derived.Test.YtldhkbiomingbaaGreatDoorH0
import Derived.Test.YtldhkbiomingbaaGreatDoorH1
set_option linter.unusedVariables false
set_option linter.unusedSimpArgs false
set_option maxHeartbeats 8000000
set_option maxRecDepth 100000
namespace Go.Proofs.YtldhkbiomingbaaGreatDoor.F
open Go.Proofs.YtldhkbiomingbaaGreatDoor
open Go.RowKit Go.YW.PrintWords Go.YW.PrintLast Go.YW.PrintMore
attribute [local go_sem] max2_int min2_int max_two min_two max_three min_three max_four min_four
mutual
def spec_tyRead.l0:Nat → ByteArray → Int → Int → Int → Int → List Int → Option (Int × Int × List Int × Bool)
 | 0,_,_,_,_,_,_=>none
 | k + 1,x0,x5,x6,x103000,x103001,x103002=>if x6 ≤ (x0.size:Int) then (if x6 < (x0.size:Int) then (if 0 ≤ x6 then (spec_tyRead.j1 k x0 x5 x6 ((bt x0 x6) != 47) x103000 x103001 x103002) else (none)) else (spec_tyRead.j1 k x0 x5 x6 false x103000 x103001 x103002)) else (if x103000 > 7 then (spec_tyRead.j2 k true x103000 x103001 x103002) else (if x103001 > 7 then (spec_tyRead.j2 k true x103000 x103001 x103002) else (spec_tyRead.j2 k (decide ((x103002.length:Int) > 36)) x103000 x103001 x103002)))
def spec_tyRead.j1:Nat → ByteArray → Int → Int → Bool → Int → Int → List Int → Option (Int × Int × List Int × Bool)
 | 0,_,_,_,_,_,_,_=>none
 | k + 1,x0,x5,x6,x31,x103000,x103001,x103002=>if x31 = true then (if 0 ≤ x6 then (if x6 < (x0.size:Int) then ((spec_tyIs.f (bt x0 x6)).bind fun t103=>(if t103 = true then (if x103002.length < 140737488355328 then (spec_tyRead.l0 k x0 (wrap64 (x5 + 1)) (wrap64 (x6 + 1)) x103000 x103001 (x103002 ++ [bt x0 x6])) else (none)) else (some (0,0,([]:List Int),false)))) else (none)) else (none)) else (if x103001 > 0 then (if x5 = x103000 then (if x5 = 0 then (some (0,0,([]:List Int),false)) else (spec_tyRead.l0 k x0 0 (wrap64 (x6 + 1)) x5 (wrap64 (x103001 + 1)) x103002)) else (some (0,0,([]:List Int),false))) else (if x5 = 0 then (some (0,0,([]:List Int),false)) else (spec_tyRead.l0 k x0 0 (wrap64 (x6 + 1)) x5 (wrap64 (x103001 + 1)) x103002)))
def spec_tyRead.j2:Nat → Bool → Int → Int → List Int → Option (Int × Int × List Int × Bool)
 | 0,_,_,_,_=>none
 | k + 1,x81,x103000,x103001,x103002=>if x81 = true then (some (0,0,([]:List Int),false)) else (spec_tyRead.l1 k x103002 (x103002.length:Int) 0 x103000 x103001 x103002)
def spec_tyRead.l1:Nat → List Int → Int → Int → Int → Int → List Int → Option (Int × Int × List Int × Bool)
 | 0,_,_,_,_,_,_=>none
 | k + 1,x84,x85,x86,x103000,x103001,x103002=>if x86 < x85 then (if 0 ≤ x86 then (if x86 < (x84.length:Int) then (if x86 ≤ (x103002.length:Int) then ((some (x103002.take (x86:Int).toNat:List Int)).bind fun y108=>(spec_tyRead.l2 k (rd x84 x86) x84 x85 x86 y108 (y108.length:Int) 0 x103000 x103001 x103002)) else (none)) else (none)) else (none)) else (some (x103000,x103001,x103002,true))
def spec_tyRead.l2:Nat → Int → List Int → Int → Int → List Int → Int → Int → Int → Int → List Int → Option (Int × Int × List Int × Bool)
 | 0,_,_,_,_,_,_,_,_,_,_=>none
 | k + 1,x8,x84,x85,x86,x94,x95,x96,x103000,x103001,x103002=>if x96 < x95 then (if 0 ≤ x96 then (if x96 < (x94.length:Int) then (if x8 = (rd x94 x96) then (if x8 ≥ 97 then (if x8 ≤ 102 then (some (0,0,([]:List Int),false)) else (spec_tyRead.l2 k x8 x84 x85 x86 x94 x95 (wrap64 (x96 + 1)) x103000 x103001 x103002)) else (spec_tyRead.l2 k x8 x84 x85 x86 x94 x95 (wrap64 (x96 + 1)) x103000 x103001 x103002)) else (spec_tyRead.l2 k x8 x84 x85 x86 x94 x95 (wrap64 (x96 + 1)) x103000 x103001 x103002)) else (none)) else (none)) else (spec_tyRead.l1 k x84 x85 (wrap64 (x86 + 1)) x103000 x103001 x103002)
end
def spec_tyRead.f (k:Nat) (a0:ByteArray):Option (Int × Int × List Int × Bool):=if (a0.size:Int) > 42 then (some (0,0,([]:List Int),false)) else (spec_tyRead.l0 k a0 0 0 0 0 ([]:List Int))
theorem spec_tyRead.mono_l:∀ k,(∀ y0 y1 y2 y3 y4 y5,LeO (spec_tyRead.l0 k y0 y1 y2 y3 y4 y5) (spec_tyRead.l0 (k + 1) y0 y1 y2 y3 y4 y5)) ∧ (∀ y0 y1 y2 y3 y4 y5 y6,LeO (spec_tyRead.j1 k y0 y1 y2 y3 y4 y5 y6) (spec_tyRead.j1 (k + 1) y0 y1 y2 y3 y4 y5 y6)) ∧ (∀ y0 y1 y2 y3,LeO (spec_tyRead.j2 k y0 y1 y2 y3) (spec_tyRead.j2 (k + 1) y0 y1 y2 y3)) ∧ (∀ y0 y1 y2 y3 y4 y5,LeO (spec_tyRead.l1 k y0 y1 y2 y3 y4 y5) (spec_tyRead.l1 (k + 1) y0 y1 y2 y3 y4 y5)) ∧ (∀ y0 y1 y2 y3 y4 y5 y6 y7 y8 y9,LeO (spec_tyRead.l2 k y0 y1 y2 y3 y4 y5 y6 y7 y8 y9) (spec_tyRead.l2 (k + 1) y0 y1 y2 y3 y4 y5 y6 y7 y8 y9))
 | 0=>⟨fun _ _ _ _ _ _ r h=>by simp [spec_tyRead.l0] at h,fun _ _ _ _ _ _ _ r h=>by simp [spec_tyRead.j1] at h,fun _ _ _ _ r h=>by simp [spec_tyRead.j2] at h,fun _ _ _ _ _ _ r h=>by simp [spec_tyRead.l1] at h,fun _ _ _ _ _ _ _ _ _ _ r h=>by simp [spec_tyRead.l2] at h⟩
 | k + 1=>by
  obtain ⟨ih0,ih1,ih2,ih3,ih4⟩:=spec_tyRead.mono_l k
  refine ⟨?_,?_,?_,?_,?_⟩
  ·intro y0 y1 y2 y3 y4 y5
   unfold spec_tyRead.l0
   exact mo
  ·intro y0 y1 y2 y3 y4 y5 y6
   unfold spec_tyRead.j1
   exact mo
  ·intro y0 y1 y2 y3
   unfold spec_tyRead.j2
   exact mo
  ·intro y0 y1 y2 y3 y4 y5
   unfold spec_tyRead.l1
   exact mo
  ·intro y0 y1 y2 y3 y4 y5 y6 y7 y8 y9
   unfold spec_tyRead.l2
   exact mo
def spec_tyRead.T11:Bool × List (List Nat × List Nat):=(true,[([],[]),([0],[0]),([],[]),([],[]),([2,3],[2,3]),([4],[4]),([1,5],[1,5]),([0,1,2,3,4,5,6],[]),([7,6,6,0,1,2,3,4,5,6],[6,7])])
def spec_tyRead.B11:List Nat:=[0,1,0,0,12,28,63,127,255]
theorem spec_tyRead.tab11:rtab .any (opsOf Tryz.f63 11) = spec_tyRead.T11:=by kernel_rfl
theorem spec_tyRead.bits11:waitsOk spec_tyRead.T11.2 spec_tyRead.B11 = true:=by kernel_rfl
theorem spec_tyRead.calls (k:Nat) (a0:ByteArray) (r1:Int) (r2:Int) (r3:List Int) (r4:Bool) (w:World) (h:spec_tyRead.f k a0 = some (r1,r2,r3,r4)) :
  Calls Tryz.prog 63 #[.string a0] w fun e w'=>∃ v2_:Value,e = .returned (.tuple #[.agg #[.int .i64 r1,.int .i64 r2,v2_],.bool r4]) ∧ Kd.R (Kd.int .u8) 5 w' w.heap.size (fun _=>True) v2_ r3 ∧ Below w.heap.size w w':=by
 have hu75:=Tryz.underlying75
 have HB:=am (Below.refl w.heap.size w)
 have H:(if (a0.size:Int) > 42 then (some (0,0,([]:List Int),false)) else (spec_tyRead.l0 k a0 0 0 0 0 ([]:List Int))) = some (r1,r2,r3,r4):=h
 clear h
 by_cases c2:(a0.size:Int) > 42
 ·rw [if_pos c2] at H
  have c2b0:=decide_eq_true c2
  have c2b1:decide (42 < a0.size) = true:=decide_eq_true o_m
  clear c2
  simp only [Option.some.injEq,Prod.mk.injEq] at H
  obtain ⟨rfl,rfl,rfl,rfl⟩:=H
  go_enter Tryz.func63,Tryz.ntmps63
  go_wp2_with (first | ((with_reducible refine gate_dst (N:=2) rfl ?_);(try (refine gate_guard (by rfl) ?_;dsimp only));refine box_event ?hg (N:=2) ?hd (cs:=#[.int .i64 0,.int .i64 0,.slice none 0 0]) (t:=75) ?hr ?_;(case hd=>rfl);(case hg=>rfl);(case hr=>exact aq12);intro gb101 hg w3 hbox hb;have BK101:=am (hbox);have GW101:=am ((by rw [hg];exact (below_size aq1):w.heap.size ≤ gb101));have GE101:=GW101;replace HB:=am (below_step aq1 hb);clear hb hbox hg) | ((with_reducible refine gate_dst (N:=4) rfl ?_);(try (refine gate_guard (by rfl) ?_;dsimp only));refine box_event ?hg (N:=4) ?hd (cs:=#[.int .i64 0,.int .i64 0,.slice none 0 0]) (t:=75) ?hr ?_;(case hd=>rfl);(case hg=>rfl);(case hr=>exact aq12);intro gb102 hg w4 hbox hb;have BK102:=am (hbox);have GW102:=am ((by rw [hg];exact (below_size aq0):w.heap.size ≤ gb102));have GE102:=GW102;replace HB:=am (below_step aq0 hb);have NB101_102:=am ((by rw [hg];exact Nat.ne_of_lt (blk_lt (g:=gb101) (o:=.cells #[.int .i64 0,.int .i64 0,.slice none 0 0] 75 (0,0)) aq2):gb101 ≠ gb102));have NB102_101:=am ((by rw [hg];exact Nat.ne_of_gt (blk_lt (g:=gb101) (o:=.cells #[.int .i64 0,.int .i64 0,.slice none 0 0] 75 (0,0)) aq2):gb102 ≠ gb101));replace BK101:=am (bb BK101 hb);clear hb hbox hg;have hnb5:=NB102_101.out;have hnc5:=NB101_102.out;obtain ⟨hcz6_0,hcz6_1,hcz6_2,hfz6_0,hfz6_1,hfz6_2⟩:=blk3_ BK102.out;obtain ⟨hcz7_0,hcz7_1,hcz7_2,hfz7_0,hfz7_1,hfz7_2⟩:=blk3_ BK101.out))
  refine bodyPost_ret (results_ct rfl _ _ gb101 75 #[.int .i64 0,.int .i64 0,.slice none 0 0] (0,0) _ rfl (by (with_reducible repeat (first | refine blk_drewN ?_ _ | refine blk_drew ?_ | refine blk_alloc ?_ _));refine blk_put (cs:=#[.int .i64 0,.int .i64 0,.slice none 0 0]) ?_ 2 _ rfl;(with_reducible repeat (first | refine blk_drewN ?_ _ | refine blk_drew ?_ | refine blk_alloc ?_ _));refine blk_put (cs:=#[.int .i64 0,.int .i64 0,.slice none 0 0]) ?_ 1 _ rfl;(with_reducible repeat (first | refine blk_drewN ?_ _ | refine blk_drew ?_ | refine blk_alloc ?_ _));refine blk_put (cs:=#[.int .i64 0,.int .i64 0,.slice none 0 0]) ?_ 0 _ rfl;(with_reducible repeat (first | refine blk_drewN ?_ _ | refine blk_drew ?_ | refine blk_alloc ?_ _));refine blk_far ?_ NB101_102.out _;(with_reducible repeat (first | refine blk_drewN ?_ _ | refine blk_drew ?_ | refine blk_alloc ?_ _));refine blk_far ?_ NB101_102.out _;(with_reducible repeat (first | refine blk_drewN ?_ _ | refine blk_drew ?_ | refine blk_alloc ?_ _));refine blk_far ?_ NB101_102.out _;(with_reducible repeat (first | refine blk_drewN ?_ _ | refine blk_drew ?_ | refine blk_alloc ?_ _));exact BK101.out) Tryz.underlying75 rfl k_r) rfl ?_
  exact ⟨_,aq8,aq19,aq5⟩
 rw [if_neg c2] at H
 have c2b0:=decide_eq_false c2
 have c2b1:decide (42 < a0.size) = false:=decide_eq_false o_m
 clear c2
 have H':=am H
 clear H
 go_enter Tryz.func63,Tryz.ntmps63
 go_wp2_with (first | ((with_reducible refine gate_dst (N:=2) rfl ?_);(try (refine gate_guard (by rfl) ?_;dsimp only));refine box_event ?hg (N:=2) ?hd (cs:=#[.int .i64 0,.int .i64 0,.slice none 0 0]) (t:=75) ?hr ?_;(case hd=>rfl);(case hg=>rfl);(case hr=>exact aq12);intro gb101 hg w8 hbox hb;have BK101:=am (hbox);have GW101:=am ((by rw [hg];exact (below_size aq1):w.heap.size ≤ gb101));have GE101:=GW101;replace HB:=am (below_step aq1 hb);clear hb hbox hg) | ((with_reducible refine gate_dst (N:=4) rfl ?_);(try (refine gate_guard (by rfl) ?_;dsimp only));refine box_event ?hg (N:=4) ?hd (cs:=#[.int .i64 0,.int .i64 0,.slice none 0 0]) (t:=75) ?hr ?_;(case hd=>rfl);(case hg=>rfl);(case hr=>exact aq12);intro gb102 hg w9 hbox hb;have BK102:=am (hbox);have GW102:=am ((by rw [hg];exact (below_size aq0):w.heap.size ≤ gb102));have GE102:=GW102;replace HB:=am (below_step aq0 hb);have NB101_102:=am ((by rw [hg];exact Nat.ne_of_lt (blk_lt (g:=gb101) (o:=.cells #[.int .i64 0,.int .i64 0,.slice none 0 0] 75 (0,0)) aq2):gb101 ≠ gb102));have NB102_101:=am ((by rw [hg];exact Nat.ne_of_gt (blk_lt (g:=gb101) (o:=.cells #[.int .i64 0,.int .i64 0,.slice none 0 0] 75 (0,0)) aq2):gb102 ≠ gb101));replace BK101:=am (bb BK101 hb);clear hb hbox hg;have hnb10:=NB102_101.out;have hnc10:=NB101_102.out;obtain ⟨hcz11_0,hcz11_1,hcz11_2,hfz11_0,hfz11_1,hfz11_2⟩:=blk3_ BK102.out))
 go_loopg [5,6] k (fun kq v5 v6 w'=>∃ (x5_1:Int) (x6_1:Int) (x102000_1:Int) (x102001_1:Int) (x103000_1:Int) (x103001_1:Int) (x103002_1:List Int) (u103002:Value),v5 = .int .i64 x5_1 ∧ v6 = .int .i64 x6_1 ∧ Aside0 (spec_tyRead.l0 kq a0 x5_1 x6_1 x103000_1 x103001_1 x103002_1 = some (r1,r2,r3,r4)) ∧ Aside0 (kq ≤ k) ∧ Aside0 (Kd.R (Kd.int .u8) 5 w' w.heap.size (fun _=>True) u103002 x103002_1) ∧ Aside0 (w'.heap[gb101]? = some (.cells #[.int .i64 x102000_1,.int .i64 x102001_1,(.slice none 0 0)] 75 (0,0))) ∧ Aside0 (w'.heap[gb102]? = some (.cells #[.int .i64 x103000_1,.int .i64 x103001_1,u103002] 75 (0,0))) ∧ Aside0 (Below w.heap.size w w'))
 case atStart=>exact ⟨(0),(0),(0),(0),(0),(0),(([]:List Int)),(.slice none 0 0),aq6,aq6,H',⟨Nat.le_refl _⟩,⟨aq19⟩,⟨by (with_reducible repeat (first | refine blk_drewN ?_ _ | refine blk_drew ?_ | refine blk_alloc ?_ _));refine blk_far ?_ NB101_102.out _;(with_reducible repeat (first | refine blk_drewN ?_ _ | refine blk_drew ?_ | refine blk_alloc ?_ _));refine blk_far ?_ NB101_102.out _;(with_reducible repeat (first | refine blk_drewN ?_ _ | refine blk_drew ?_ | refine blk_alloc ?_ _));refine blk_far ?_ NB101_102.out _;(with_reducible repeat (first | refine blk_drewN ?_ _ | refine blk_drew ?_ | refine blk_alloc ?_ _));exact BK101.out⟩,⟨by (with_reducible repeat (first | refine blk_drewN ?_ _ | refine blk_drew ?_ | refine blk_alloc ?_ _));refine blk_put (cs:=#[.int .i64 0,.int .i64 0,.slice none 0 0]) ?_ 2 _ rfl;(with_reducible repeat (first | refine blk_drewN ?_ _ | refine blk_drew ?_ | refine blk_alloc ?_ _));refine blk_put (cs:=#[.int .i64 0,.int .i64 0,.slice none 0 0]) ?_ 1 _ rfl;(with_reducible repeat (first | refine blk_drewN ?_ _ | refine blk_drew ?_ | refine blk_alloc ?_ _));refine blk_put (cs:=#[.int .i64 0,.int .i64 0,.slice none 0 0]) ?_ 0 _ rfl;(with_reducible repeat (first | refine blk_drewN ?_ _ | refine blk_drew ?_ | refine blk_alloc ?_ _));exact BK102.out⟩,⟨aq5⟩⟩
 case round =>
  clear H'
  try clear c1
  try clear c2
  try clear c2b0
  try clear c2b1
  try clear p2
  try clear c5
  try clear c6
  try clear c10
  try clear hcz11_0
  try clear hcz11_1
  try clear hcz11_2
  try clear hcz6_0
  try clear hcz6_1
  try clear hcz6_2
  try clear hcz7_0
  try clear hcz7_1
  try clear hcz7_2
  try clear hfz11_0
  try clear hfz11_1
  try clear hfz11_2
  try clear hfz6_0
  try clear hfz6_1
  try clear hfz6_2
  try clear hfz7_0
  try clear hfz7_1
  try clear hfz7_2
  obtain ⟨x5_1,x6_1,x102000_1,x102001_1,x103000_1,x103001_1,x103002_1,u103002,rfl,rfl,HA,HK1,HO_103002,BK101,BK102,HB⟩:=hrel
  cases gk with
  | zero=>exact absurd HA.out (by simp [spec_tyRead.l0])
  | succ k1 =>
   have H:=HA.out
   clear HA
   simp only [spec_tyRead.l0] at H
   by_cases c12:x6_1 ≤ (a0.size:Int)
   ·rw [if_pos c12] at H
    have c12b0:=decide_eq_true c12
    clear c12
    have HC13:=am H
    clear H
    go_upto_region 8 with (fail)
    go_cut [31] (fun v31 wc=>∃ (kq:Nat) (x31_12:Bool),v31 = .bool x31_12 ∧ Aside0 (spec_tyRead.j1 kq a0 x5_1 x6_1 x31_12 x103000_1 x103001_1 x103002_1 = some (r1,r2,r3,r4)) ∧ Aside0 (kq ≤ k1) ∧ Aside0 (Kd.R (Kd.int .u8) 5 wc w.heap.size (fun _=>True) u103002 x103002_1) ∧ Aside0 (wc.heap[gb101]? = some (.cells #[.int .i64 x102000_1,.int .i64 x102001_1,(.slice none 0 0)] 75 (0,0))) ∧ Aside0 (wc.heap[gb102]? = some (.cells #[.int .i64 x103000_1,.int .i64 x103001_1,u103002] 75 (0,0))) ∧ Aside0 (Below w.heap.size w wc))
    case first =>
     have H:=HC13.out
     clear HC13
     by_cases c14:x6_1 < (a0.size:Int)
     rotate_left
     ·rw [if_neg c14] at H
      have c14b0:=decide_eq_false c14
      clear c14
      (first | rw [c14b0] | (simp only [i64_w,i32_w];rw [c14b0]) | skip)
      have H':=am H
      clear H
      go_wp2
      go_meet
      case rel=>exact ⟨_,(false),aq6,H',⟨aq49⟩,⟨aq15⟩,⟨aq2⟩,⟨aq11⟩,⟨aq5⟩⟩
     rw [if_pos c14] at H
     have c14b0:=decide_eq_true c14
     clear c14
     (first | rw [c14b0] | (simp only [i64_w,i32_w];rw [c14b0]) | skip)
     replace H:=gd H
     obtain ⟨c15,H⟩:=H
     have c15b0:=decide_eq_true c15
     clear c15
     have H':=am H
     clear H
     have p16:0 ≤ (x6_1:Int):=of_decide_eq_true aq4
     have q16:x6_1 < (a0.size:Int):=of_decide_eq_true aq4
     have hx16:=bt_at a0 x6_1
     replace p16:=eq_true p16
     replace q16:=eq_true q16
     go_wp2
     go_meet
     case rel=>exact ⟨_,(((bt a0 x6_1) != 47)),aq6,H',⟨aq49⟩,⟨aq15⟩,⟨aq2⟩,⟨aq11⟩,⟨aq5⟩⟩
    case rest =>
     clear HC13
     try clear c1
     try clear p1
     try clear q1
     try clear hx1
     try clear c2
     try clear c2b0
     try clear c2b1
     try clear p2
     try clear c5
     try clear c6
     try clear c10
     try clear c12
     try clear c12b0
     try clear c14
     try clear c14b0
     try clear c15
     try clear c15b0
     try clear p16
     try clear q16
     try clear hx16
     try clear hcz11_0
     try clear hcz11_1
     try clear hcz11_2
     try clear hcz6_0
     try clear hcz6_1
     try clear hcz6_2
     try clear hcz7_0
     try clear hcz7_1
     try clear hcz7_2
     try clear hfz11_0
     try clear hfz11_1
     try clear hfz11_2
     try clear hfz6_0
     try clear hfz6_1
     try clear hfz6_2
     try clear hfz7_0
     try clear hfz7_1
     try clear hfz7_2
     try clear p16
     try clear p2
     try clear q16
     obtain ⟨kq,x31_12,rfl,HA,HJ12,HO_103002,BK101,BK102,HB⟩:=hcut
     cases kq with
     | zero=>exact absurd HA.out (by simp [spec_tyRead.j1])
     | succ kj12 =>
      have H:=HA.out
      clear HA
      simp only [spec_tyRead.j1] at H
      by_cases c17:x31_12 = true
      rotate_left
      ·replace c17:=Bool.eq_false_iff.mpr c17
       subst c17
       rw [if_neg Bool.false_ne_true] at H
       by_cases c31:x103001_1 > 0
       rotate_left
       ·rw [if_neg c31] at H
        have c31b0:=decide_eq_false c31
        clear c31
        by_cases c42:x5_1 = 0
        rotate_left
        ·rw [if_neg c42] at H
         have c42b0:=beq_eq_false_iff_ne.mpr c42
         have c42b1:=bne_iff_ne.mpr c42
         have H':=am H
         clear H
         have hnb46:=NB102_101.out
         have hnc46:=NB101_102.out
         obtain ⟨hcz47_0,hcz47_1,hcz47_2,hfz47_0,hfz47_1,hfz47_2⟩:=blk3_ BK102.out
         go_wp2
         go_roundg kj12
         case measure=>have:=HK1.out;have:=HJ12.out;omega
         case rel=>exact ⟨(0),(wrap64 (x6_1 + 1)),(x102000_1),(x102001_1),(x5_1),(wrap64 (x103001_1 + 1)),(x103002_1),(u103002),aq6,aq6,H',⟨by have:=HK1.out;have:=HJ12.out;omega⟩,⟨aq46⟩,⟨aq43⟩,⟨aq33⟩,⟨aq5⟩⟩
        rw [if_pos c42] at H
        have c42b0:=beq_iff_eq.mpr c42
        have c42b1:=bne_eq_false_iff_eq.mpr c42
        clear c42
        simp only [Option.some.injEq,Prod.mk.injEq] at H
        obtain ⟨rfl,rfl,rfl,rfl⟩:=H
        have hnb43:=NB102_101.out
        have hnc43:=NB101_102.out
        obtain ⟨hcz44_0,hcz44_1,hcz44_2,hfz44_0,hfz44_1,hfz44_2⟩:=blk3_ BK102.out
        obtain ⟨hcz45_0,hcz45_1,hcz45_2,hfz45_0,hfz45_1,hfz45_2⟩:=blk3_ BK101.out
        go_wp2
        refine bodyPost_ret (results_ct rfl _ _ gb101 75 #[.int .i64 0,.int .i64 0,.slice none 0 0] (0,0) _ rfl aq30 Tryz.underlying75 rfl k_r) rfl ?_
        exact ⟨_,aq8,aq19,aq5⟩
       rw [if_pos c31] at H
       have c31b0:=decide_eq_true c31
       clear c31
       by_cases c32:x5_1 = x103000_1
       rotate_left
       ·rw [if_neg c32] at H
        have c32b0:=beq_eq_false_iff_ne.mpr c32
        have c32b1:=bne_iff_ne.mpr c32
        simp only [Option.some.injEq,Prod.mk.injEq] at H
        obtain ⟨rfl,rfl,rfl,rfl⟩:=H
        have hnb39:=NB102_101.out
        have hnc39:=NB101_102.out
        obtain ⟨hcz40_0,hcz40_1,hcz40_2,hfz40_0,hfz40_1,hfz40_2⟩:=blk3_ BK102.out
        obtain ⟨hcz41_0,hcz41_1,hcz41_2,hfz41_0,hfz41_1,hfz41_2⟩:=blk3_ BK101.out
        go_wp2
        refine bodyPost_ret (results_ct rfl _ _ gb101 75 #[.int .i64 0,.int .i64 0,.slice none 0 0] (0,0) _ rfl aq30 Tryz.underlying75 rfl k_r) rfl ?_
        exact ⟨_,aq8,aq19,aq5⟩
       rw [if_pos c32] at H
       have c32b0:=beq_iff_eq.mpr c32
       have c32b1:=bne_eq_false_iff_eq.mpr c32
       clear c32
       by_cases c33:x5_1 = 0
       rotate_left
       ·rw [if_neg c33] at H
        have c33b0:=beq_eq_false_iff_ne.mpr c33
        have c33b1:=bne_iff_ne.mpr c33
        have H':=am H
        clear H
        have hnb37:=NB102_101.out
        have hnc37:=NB101_102.out
        obtain ⟨hcz38_0,hcz38_1,hcz38_2,hfz38_0,hfz38_1,hfz38_2⟩:=blk3_ BK102.out
        go_wp2
        go_roundg kj12
        case measure=>have:=HK1.out;have:=HJ12.out;omega
        case rel=>exact ⟨(0),(wrap64 (x6_1 + 1)),(x102000_1),(x102001_1),(x5_1),(wrap64 (x103001_1 + 1)),(x103002_1),(u103002),aq6,aq6,H',⟨by have:=HK1.out;have:=HJ12.out;omega⟩,⟨aq46⟩,⟨aq43⟩,⟨aq33⟩,⟨aq5⟩⟩
       rw [if_pos c33] at H
       have c33b0:=beq_iff_eq.mpr c33
       have c33b1:=bne_eq_false_iff_eq.mpr c33
       clear c33
       simp only [Option.some.injEq,Prod.mk.injEq] at H
       obtain ⟨rfl,rfl,rfl,rfl⟩:=H
       have hnb34:=NB102_101.out
       have hnc34:=NB101_102.out
       obtain ⟨hcz35_0,hcz35_1,hcz35_2,hfz35_0,hfz35_1,hfz35_2⟩:=blk3_ BK102.out
       obtain ⟨hcz36_0,hcz36_1,hcz36_2,hfz36_0,hfz36_1,hfz36_2⟩:=blk3_ BK101.out
       go_wp2
       refine bodyPost_ret (results_ct rfl _ _ gb101 75 #[.int .i64 0,.int .i64 0,.slice none 0 0] (0,0) _ rfl aq30 Tryz.underlying75 rfl k_r) rfl ?_
       exact ⟨_,aq8,aq19,aq5⟩
      subst c17
      rw [if_pos rfl] at H
      replace H:=gd H
      obtain ⟨c18,H⟩:=H
      have c18b0:=decide_eq_true c18
      clear c18
      replace H:=gd H
      obtain ⟨c19,H⟩:=H
      have c19b0:=decide_eq_true c19
      clear c19
      obtain ⟨t103,A21,H⟩:=bn H
      by_cases c22:t103 = true
      rotate_left
      ·replace c22:=Bool.eq_false_iff.mpr c22
       subst c22
       rw [if_neg Bool.false_ne_true] at H
       simp only [Option.some.injEq,Prod.mk.injEq] at H
       obtain ⟨rfl,rfl,rfl,rfl⟩:=H
       have p20:0 ≤ (x6_1:Int):=of_decide_eq_true aq4
       have q20:x6_1 < (a0.size:Int):=of_decide_eq_true aq4
       have hx20:=bt_at a0 x6_1
       replace p20:=eq_true p20
       replace q20:=eq_true q20
       go_wp2_with (first | ((with_reducible refine gate_callee (f:=97) rfl ?_);refine goesL_ (some 35) rfl rfl Tryz.func97 k_r rfl #[.int .u8 (bt a0 x6_1)] rfl aq7 ?_;(with_reducible refine (spec_tyIs.calls (bt a0 x6_1) false _ A21.out).mono ?_);rintro e w' ⟨rfl,⟨nd,rfl⟩⟩;refine ⟨_,rfl,?_⟩;(try (rw [drewN_self wc];generalize hq_:World.drewN wc _ = wc;have n0_:Aside0 (Kd.R (Kd.int .u8) 5 wc w.heap.size (fun _=>True) u103002 x103002_1):=⟨by rw [← hq_];exact aq15⟩;have n1_:Aside0 (wc.heap[gb101]? = some (.cells #[.int .i64 x102000_1,.int .i64 x102001_1,.slice none 0 0] 75 (0,0))):=⟨by rw [← hq_];exact aq2⟩;have n2_:Aside0 (wc.heap[gb102]? = some (.cells #[.int .i64 x103000_1,.int .i64 x103001_1,u103002] 75 (0,0))):=⟨by rw [← hq_];exact aq11⟩;have n3_:Aside0 (Below w.heap.size w wc):=⟨by rw [← hq_];exact aq5⟩;clear HO_103002 BK101 BK102 HB hq_;have HO_103002:=n0_;have BK101:=n1_;have BK102:=n2_;have HB:=n3_;clear n0_ n1_ n2_ n3_));have hnb29:=NB101_102.out;have hnc29:=NB102_101.out;obtain ⟨hcz30_0,hcz30_1,hcz30_2,hfz30_0,hfz30_1,hfz30_2⟩:=blk3_ BK101.out))
       refine bodyPost_ret (results_ct rfl _ _ gb101 75 #[.int .i64 0,.int .i64 0,.slice none 0 0] (0,0) _ rfl aq30 Tryz.underlying75 rfl k_r) rfl ?_
       exact ⟨_,aq8,aq19,aq5⟩
      subst c22
      rw [if_pos rfl] at H
      replace H:=gd H
      obtain ⟨c24,H⟩:=H
      have LMc24:=am c24
      clear c24
      obtain ⟨y104,hy_⟩:∃ y_:List Int,y_ = (x103002_1 ++ [bt a0 x6_1]):=⟨_,rfl⟩
      replace H:(spec_tyRead.l0 kj12 a0 (wrap64 (x5_1 + 1)) (wrap64 (x6_1 + 1)) x103000_1 x103001_1 y104) = some (r1,r2,r3,r4):=aq3
      have Ny104:=am hy_
      clear hy_
      have H':=am H
      clear H
      have p20:0 ≤ (x6_1:Int):=of_decide_eq_true aq4
      have q20:x6_1 < (a0.size:Int):=of_decide_eq_true aq4
      have hx20:=bt_at a0 x6_1
      replace p20:=eq_true p20
      replace q20:=eq_true q20
      try go_wp2_with (first | ((with_reducible refine gate_callee (f:=97) rfl ?_);refine goesL_ (some 35) rfl rfl Tryz.func97 k_r rfl #[.int .u8 (bt a0 x6_1)] rfl aq7 ?_;(with_reducible refine (spec_tyIs.calls (bt a0 x6_1) true _ A21.out).mono ?_);rintro e w' ⟨rfl,⟨nd,rfl⟩⟩;refine ⟨_,rfl,?_⟩;(try (rw [drewN_self wc];generalize hq_:World.drewN wc _ = wc;have n0_:Aside0 (Kd.R (Kd.int .u8) 5 wc w.heap.size (fun _=>True) u103002 x103002_1):=⟨by rw [← hq_];exact aq15⟩;have n1_:Aside0 (wc.heap[gb101]? = some (.cells #[.int .i64 x102000_1,.int .i64 x102001_1,.slice none 0 0] 75 (0,0))):=⟨by rw [← hq_];exact aq2⟩;have n2_:Aside0 (wc.heap[gb102]? = some (.cells #[.int .i64 x103000_1,.int .i64 x103001_1,u103002] 75 (0,0))):=⟨by rw [← hq_];exact aq11⟩;have n3_:Aside0 (Below w.heap.size w wc):=⟨by rw [← hq_];exact aq5⟩;clear HO_103002 BK101 BK102 HB hq_;have HO_103002:=n0_;have BK101:=n1_;have BK102:=n2_;have HB:=n3_;clear n0_ n1_ n2_ n3_))))
      replace HO_103002:=am (Kd.R_drew HO_103002.out)
      replace BK101:=am (blk_drew BK101.out)
      replace BK102:=am (blk_drew BK102.out)
      replace HB:=am (below_drew1 HB.out)
      have p23:0 ≤ (x6_1:Int):=of_decide_eq_true aq4
      have q23:x6_1 < (a0.size:Int):=of_decide_eq_true aq4
      have hx23:=bt_at a0 x6_1
      replace p23:=eq_true p23
      replace q23:=eq_true q23
      refine start_ (n:=9) (S:=fun w'=>w'.cell? ⟨gb102,0,none⟩ = some (.int .i64 x103000_1) ∧ w'.cell? ⟨gb102,1,none⟩ = some (.int .i64 x103001_1) ∧ w'.cell? ⟨gb102,2,none⟩ = some (u103002)) (ds:=[8]) (bm 9 0) k_r rfl rfl ⟨bk BK102 0,bk BK102 1,bk BK102 2⟩ (fun hHeld=>?_);refine with_tabW spec_tyRead.tab11 spec_tyRead.bits11 (fun HT_ HW_=>?_)
      generalize wc.drew = w25 at HO_103002 BK101 BK102 HB hHeld ⊢
      refine py (i:=0) (N:=some 38) (bm 9 1) ?_
      refine py (i:=2) (N:=some 40) (bm 9 5) ?_
      refine py (i:=3) (N:=some 41) (bm 9 13) ?_
      refine tk3 (i:=1) (N:=some 39) (bm 9 15) hHeld ?_
      refine tk3 (i:=4) (N:=some 42) (bm 9 31) hHeld ?_
      refine one_ (i:=5) (N:=some 43) (bm 9 63) rfl rfl (one_of HT_.out k_r) d_c (fun K hK=>?_)
      refine value_ (w1:=?_) (v:=?_) (by rfl) rfl ?_ ?_
      rotate_left 2
      ·go_simp
       constructor
       ·rfl
       ·rfl
      refine hK.out _ _ ⟨(blk_cell (blk_alloc BK102.out _) 0).trans rfl,(blk_cell (blk_alloc BK102.out _) 1).trans rfl,(blk_cell (blk_alloc BK102.out _) 2).trans rfl⟩ (fun hHeld=>?_)
      clear hK K
      refine nm (some 43) ?_
      refine one_ (i:=6) (N:=some 44) (bm 9 127) rfl rfl (one_of HT_.out k_r) d_c (fun K hK=>?_)
      refine Kd.R_append_step (Kd.int .u8) (w0:=w) w.heap.size (by rfl) (.tmp 39) (.tmp 43) 63 5 (.int .u8 0) 1 rfl Tryz.underlying63 info5 rfl d_c o_m u103002 x103002_1 (bt a0 x6_1) [.int .u8 (bt a0 x6_1)] (fun _=>True) (fun _=>False) rfl rfl ?aP (fun _ hk=>hk.elim) ?aF ?aO ?aB ?aS ?aL ?_
      (case aP=>exact rfl)
      (case aB=>exact aq5)
      (case aF=>exact aq51)
      (case aO=>exact aq15)
      (case aS=>exact (below_size aq5))
      (case aL=>have:=LMc24.out;omega)
      intro v105 w26 ho hb hg hat
      rw [← Ny104.out] at ho
      replace BK101:=am (bg BK101 hg (Kd.R_ne HO_103002.out BK101.out d_c))
      replace BK102:=am (bg BK102 hg (Kd.R_ne HO_103002.out BK102.out d_c))
      replace HB:=am (hb)
      have HO106:=am (ho)
      clear HO_103002 ho hb hg hat
      obtain ⟨Ao27,co27,eo27⟩:=Kd.R_slice HO106.out
      (first | subst eo27 | (injection eo27 with f1_ f2_ f3_;have f4_:=f1_.symm;have f5_:=f3_.symm;clear f1_ f2_ f3_;subst f4_;subst f5_))
      refine hK.out _ _ ⟨bk BK102 0,bk BK102 1,bk BK102 2⟩ (fun hHeld=>?_)
      clear hK K
      refine nm (some 44) ?_
      refine py (i:=7) (N:=some 45) (bm 9 255) ?_
      refine last_ (i:=8) (N:=none) (bm 9 511) rfl rfl (one_of HT_.out k_r) d_c (fun K hK=>?_)
      have hs28:w26.cell? ⟨gb102,2,none⟩ = some (u103002):=(blk_cell BK102.out 2).trans rfl
      have hfs28:=blk_frozen BK102.out 2
      have hns28_0:=NB101_102.out
      have hms28_0:=NB102_101.out
      refine skip_ (w1:=?_) (by rfl) rfl ?_ ?_
      rotate_left
      ·go_simp
       rfl
      refine hK.out _ _ ?_
      clear hK K
      refine done_ (done_of HT_.out k_r) ?_
      try go_wp2
      go_roundg kj12
      case measure=>have:=HK1.out;have:=HJ12.out;omega
      case rel=>exact ⟨(wrap64 (x5_1 + 1)),(wrap64 (x6_1 + 1)),(x102000_1),(x102001_1),(x103000_1),(x103001_1),(y104),(.slice Ao27 y104.length co27),aq6,aq6,H',⟨by have:=HK1.out;have:=HJ12.out;omega⟩,⟨by (with_reducible repeat (first | apply Kd.R_alloc | apply Kd.R_drewN | apply Kd.R_drew));exact Kd.R_mono (Kd.R_far (p:=⟨gb102,2,none⟩) (Kd.R_types HO106.out BK102.out d_c) (fun _ hk=>hk.2) (.slice Ao27 y104.length co27)) (fun _ hk=>trivial)⟩,⟨by (with_reducible repeat (first | refine blk_drewN ?_ _ | refine blk_drew ?_ | refine blk_alloc ?_ _));refine blk_far ?_ NB101_102.out _;(with_reducible repeat (first | refine blk_drewN ?_ _ | refine blk_drew ?_ | refine blk_alloc ?_ _));exact BK101.out⟩,⟨by (with_reducible repeat (first | refine blk_drewN ?_ _ | refine blk_drew ?_ | refine blk_alloc ?_ _));refine blk_put (cs:=#[.int .i64 x103000_1,.int .i64 x103001_1,u103002]) ?_ 2 _ rfl;(with_reducible repeat (first | refine blk_drewN ?_ _ | refine blk_drew ?_ | refine blk_alloc ?_ _));exact BK102.out⟩,⟨aq5⟩⟩
   rw [if_neg c12] at H
   have c12b0:=decide_eq_false c12
   clear c12
   have HC48:=am H
   clear H
   go_upto_region 18 with (fail)
   go_cut [81] (fun v81 wc=>∃ (kq:Nat) (x81_47:Bool),v81 = .bool x81_47 ∧ Aside0 (spec_tyRead.j2 kq x81_47 x103000_1 x103001_1 x103002_1 = some (r1,r2,r3,r4)) ∧ Aside0 (kq ≤ k1) ∧ Aside0 (Kd.R (Kd.int .u8) 5 wc w.heap.size (fun _=>True) u103002 x103002_1) ∧ Aside0 (wc.heap[gb101]? = some (.cells #[.int .i64 x102000_1,.int .i64 x102001_1,(.slice none 0 0)] 75 (0,0))) ∧ Aside0 (wc.heap[gb102]? = some (.cells #[.int .i64 x103000_1,.int .i64 x103001_1,u103002] 75 (0,0))) ∧ Aside0 (Below w.heap.size w wc))
   case first =>
    have H:=HC48.out
    clear HC48
    by_cases c49:x103000_1 > 7
    ·rw [if_pos c49] at H
     have c49b0:=decide_eq_true c49
     clear c49
     (first | rw [c49b0] | (simp only [i64_w,i32_w];rw [c49b0]) | skip)
     have H':=am H
     clear H
     have hnb50:=NB102_101.out
     have hnc50:=NB101_102.out
     obtain ⟨hcz51_0,hcz51_1,hcz51_2,hfz51_0,hfz51_1,hfz51_2⟩:=blk3_ BK102.out
     go_wp2
     go_meet
     case rel=>exact ⟨_,(true),aq6,H',⟨aq49⟩,⟨aq15⟩,⟨aq2⟩,⟨aq11⟩,⟨aq5⟩⟩
    rw [if_neg c49] at H
    have c49b0:=decide_eq_false c49
    clear c49
    (first | rw [c49b0] | (simp only [i64_w,i32_w];rw [c49b0]) | skip)
    by_cases c52:x103001_1 > 7
    ·rw [if_pos c52] at H
     have c52b0:=decide_eq_true c52
     clear c52
     have H':=am H
     clear H
     have hnb53:=NB102_101.out
     have hnc53:=NB101_102.out
     obtain ⟨hcz54_0,hcz54_1,hcz54_2,hfz54_0,hfz54_1,hfz54_2⟩:=blk3_ BK102.out
     go_wp2
     go_meet
     case rel=>exact ⟨_,(true),aq6,H',⟨aq49⟩,⟨aq15⟩,⟨aq2⟩,⟨aq11⟩,⟨aq5⟩⟩
    rw [if_neg c52] at H
    have c52b0:=decide_eq_false c52
    clear c52
    have H':=am H
    clear H
    have hnb55:=NB102_101.out
    have hnc55:=NB101_102.out
    obtain ⟨hcz56_0,hcz56_1,hcz56_2,hfz56_0,hfz56_1,hfz56_2⟩:=blk3_ BK102.out
    obtain ⟨Ao57,co57,eo57⟩:=Kd.R_slice HO_103002.out
    subst eo57
    go_wp2
    go_meet
    case rel=>exact ⟨_,(decide ((x103002_1.length:Int) > 36)),aq6,H',⟨aq49⟩,⟨aq15⟩,⟨aq2⟩,⟨aq11⟩,⟨aq5⟩⟩
   case rest =>
    clear HC48
    try clear c1
    try clear p1
    try clear q1
    try clear hx1
    try clear c2
    try clear c2b0
    try clear c2b1
    try clear p2
    try clear q2
    try clear hx2
    try clear c3
    try clear c4
    try clear c5
    try clear c6
    try clear p6
    try clear c9
    try clear c10
    try clear c12
    try clear c12b0
    try clear c14
    try clear c14b0
    try clear c15
    try clear c15b0
    try clear p16
    try clear q16
    try clear hx16
    try clear c17
    try clear c18
    try clear c18b0
    try clear c19
    try clear c19b0
    try clear p20
    try clear q20
    try clear hx20
    try clear c22
    try clear p23
    try clear q23
    try clear hx23
    try clear c24
    try clear c29
    try clear c31
    try clear c31b0
    try clear c32
    try clear c32b0
    try clear c32b1
    try clear c33
    try clear c33b0
    try clear c33b1
    try clear c34
    try clear c37
    try clear c39
    try clear c42
    try clear c42b0
    try clear c42b1
    try clear c43
    try clear c46
    try clear c49
    try clear c49b0
    try clear c50
    try clear c52
    try clear c52b0
    try clear c53
    try clear c55
    try clear hcz11_0
    try clear hcz11_1
    try clear hcz11_2
    try clear hcz30_0
    try clear hcz30_1
    try clear hcz30_2
    try clear hcz35_0
    try clear hcz35_1
    try clear hcz35_2
    try clear hcz36_0
    try clear hcz36_1
    try clear hcz36_2
    try clear hcz38_0
    try clear hcz38_1
    try clear hcz38_2
    try clear hcz40_0
    try clear hcz40_1
    try clear hcz40_2
    try clear hcz41_0
    try clear hcz41_1
    try clear hcz41_2
    try clear hcz44_0
    try clear hcz44_1
    try clear hcz44_2
    try clear hcz45_0
    try clear hcz45_1
    try clear hcz45_2
    try clear hcz47_0
    try clear hcz47_1
    try clear hcz47_2
    try clear hcz51_0
    try clear hcz51_1
    try clear hcz51_2
    try clear hcz54_0
    try clear hcz54_1
    try clear hcz54_2
    try clear hcz56_0
    try clear hcz56_1
    try clear hcz56_2
    try clear hcz6_0
    try clear hcz6_1
    try clear hcz6_2
    try clear hcz7_0
    try clear hcz7_1
    try clear hcz7_2
    try clear hfz11_0
    try clear hfz11_1
    try clear hfz11_2
    try clear hfz30_0
    try clear hfz30_1
    try clear hfz30_2
    try clear hfz35_0
    try clear hfz35_1
    try clear hfz35_2
    try clear hfz36_0
    try clear hfz36_1
    try clear hfz36_2
    try clear hfz38_0
    try clear hfz38_1
    try clear hfz38_2
    try clear hfz40_0
    try clear hfz40_1
    try clear hfz40_2
    try clear hfz41_0
    try clear hfz41_1
    try clear hfz41_2
    try clear hfz44_0
    try clear hfz44_1
    try clear hfz44_2
    try clear hfz45_0
    try clear hfz45_1
    try clear hfz45_2
    try clear hfz47_0
    try clear hfz47_1
    try clear hfz47_2
    try clear hfz51_0
    try clear hfz51_1
    try clear hfz51_2
    try clear hfz54_0
    try clear hfz54_1
    try clear hfz54_2
    try clear hfz56_0
    try clear hfz56_1
    try clear hfz56_2
    try clear hfz6_0
    try clear hfz6_1
    try clear hfz6_2
    try clear hfz7_0
    try clear hfz7_1
    try clear hfz7_2
    try clear p1
    try clear p16
    try clear p2
    try clear p20
    try clear p23
    try clear q1
    try clear q16
    try clear q20
    try clear q23
    obtain ⟨kq,x81_47,rfl,HA,HJ47,HO_103002,BK101,BK102,HB⟩:=hcut
    cases kq with
    | zero=>exact absurd HA.out (by simp [spec_tyRead.j2])
    | succ kj47 =>
     have H:=HA.out
     clear HA
     simp only [spec_tyRead.j2] at H
     by_cases c58:x81_47 = true
     ·subst c58
      rw [if_pos rfl] at H
      simp only [Option.some.injEq,Prod.mk.injEq] at H
      obtain ⟨rfl,rfl,rfl,rfl⟩:=H
      have hnb59:=NB101_102.out
      have hnc59:=NB102_101.out
      obtain ⟨hcz60_0,hcz60_1,hcz60_2,hfz60_0,hfz60_1,hfz60_2⟩:=blk3_ BK101.out
      go_wp2
      refine bodyPost_ret (results_ct rfl _ _ gb101 75 #[.int .i64 0,.int .i64 0,.slice none 0 0] (0,0) _ rfl aq30 Tryz.underlying75 rfl k_r) rfl ?_
      exact ⟨_,aq8,aq19,aq5⟩
     replace c58:=Bool.eq_false_iff.mpr c58
     subst c58
     rw [if_neg Bool.false_ne_true] at H
     have H':=am H
     clear H
     have hnb61:=NB102_101.out
     have hnc61:=NB101_102.out
     obtain ⟨hcz62_0,hcz62_1,hcz62_2,hfz62_0,hfz62_1,hfz62_2⟩:=blk3_ BK102.out
     obtain ⟨Ao63,co63,eo63⟩:=Kd.R_slice HO_103002.out
     subst eo63
     go_wp2
     go_loopg [86] kj47 (fun kq v86 w'=>∃ (x86_3:Int) (x102000_3:Int) (x102001_3:Int),v86 = .int .i64 x86_3 ∧ Aside0 (spec_tyRead.l1 kq x103002_1 (x103002_1.length:Int) x86_3 x103000_1 x103001_1 x103002_1 = some (r1,r2,r3,r4)) ∧ Aside0 (kq ≤ kj47) ∧ Aside0 (Kd.R (Kd.int .u8) 5 w' w.heap.size (fun _=>True) (.slice Ao63 x103002_1.length co63) x103002_1) ∧ Aside0 (Kd.R (Kd.int .u8) 5 w' w.heap.size (fun _=>True) (.slice Ao63 x103002_1.length co63) x103002_1) ∧ Aside0 (w'.heap[gb101]? = some (.cells #[.int .i64 x102000_3,.int .i64 x102001_3,(.slice none 0 0)] 75 (0,0))) ∧ Aside0 (w'.heap[gb102]? = some (.cells #[.int .i64 x103000_1,.int .i64 x103001_1,(.slice Ao63 x103002_1.length co63)] 75 (0,0))) ∧ Aside0 (Below w.heap.size w w'))
     case atStart=>exact ⟨(0),(x102000_1),(x102001_1),aq6,H',⟨Nat.le_refl _⟩,⟨aq15⟩,⟨aq15⟩,⟨aq2⟩,⟨aq11⟩,⟨aq5⟩⟩
     case round =>
      clear H'
      try clear c1
      try clear p1
      try clear q1
      try clear hx1
      try clear c2
      try clear c2b0
      try clear c2b1
      try clear p2
      try clear q2
      try clear hx2
      try clear c3
      try clear c4
      try clear c5
      try clear c6
      try clear p6
      try clear c9
      try clear c10
      try clear c12
      try clear c12b0
      try clear c14
      try clear c14b0
      try clear c15
      try clear c15b0
      try clear p16
      try clear q16
      try clear hx16
      try clear c17
      try clear c18
      try clear c18b0
      try clear c19
      try clear c19b0
      try clear p20
      try clear q20
      try clear hx20
      try clear c22
      try clear p23
      try clear q23
      try clear hx23
      try clear c24
      try clear c29
      try clear c31
      try clear c31b0
      try clear c32
      try clear c32b0
      try clear c32b1
      try clear c33
      try clear c33b0
      try clear c33b1
      try clear c34
      try clear c37
      try clear c39
      try clear c42
      try clear c42b0
      try clear c42b1
      try clear c43
      try clear c46
      try clear c49
      try clear c49b0
      try clear c50
      try clear c52
      try clear c52b0
      try clear c53
      try clear c55
      try clear c58
      try clear c59
      try clear c61
      try clear hcz11_0
      try clear hcz11_1
      try clear hcz11_2
      try clear hcz30_0
      try clear hcz30_1
      try clear hcz30_2
      try clear hcz35_0
      try clear hcz35_1
      try clear hcz35_2
      try clear hcz36_0
      try clear hcz36_1
      try clear hcz36_2
      try clear hcz38_0
      try clear hcz38_1
      try clear hcz38_2
      try clear hcz40_0
      try clear hcz40_1
      try clear hcz40_2
      try clear hcz41_0
      try clear hcz41_1
      try clear hcz41_2
      try clear hcz44_0
      try clear hcz44_1
      try clear hcz44_2
      try clear hcz45_0
      try clear hcz45_1
      try clear hcz45_2
      try clear hcz47_0
      try clear hcz47_1
      try clear hcz47_2
      try clear hcz51_0
      try clear hcz51_1
      try clear hcz51_2
      try clear hcz54_0
      try clear hcz54_1
      try clear hcz54_2
      try clear hcz56_0
      try clear hcz56_1
      try clear hcz56_2
      try clear hcz60_0
      try clear hcz60_1
      try clear hcz60_2
      try clear hcz62_0
      try clear hcz62_1
      try clear hcz62_2
      try clear hcz6_0
      try clear hcz6_1
      try clear hcz6_2
      try clear hcz7_0
      try clear hcz7_1
      try clear hcz7_2
      try clear hfz11_0
      try clear hfz11_1
      try clear hfz11_2
      try clear hfz30_0
      try clear hfz30_1
      try clear hfz30_2
      try clear hfz35_0
      try clear hfz35_1
      try clear hfz35_2
      try clear hfz36_0
      try clear hfz36_1
      try clear hfz36_2
      try clear hfz38_0
      try clear hfz38_1
      try clear hfz38_2
      try clear hfz40_0
      try clear hfz40_1
      try clear hfz40_2
      try clear hfz41_0
      try clear hfz41_1
      try clear hfz41_2
      try clear hfz44_0
      try clear hfz44_1
      try clear hfz44_2
      try clear hfz45_0
      try clear hfz45_1
      try clear hfz45_2
      try clear hfz47_0
      try clear hfz47_1
      try clear hfz47_2
      try clear hfz51_0
      try clear hfz51_1
      try clear hfz51_2
      try clear hfz54_0
      try clear hfz54_1
      try clear hfz54_2
      try clear hfz56_0
      try clear hfz56_1
      try clear hfz56_2
      try clear hfz60_0
      try clear hfz60_1
      try clear hfz60_2
      try clear hfz62_0
      try clear hfz62_1
      try clear hfz62_2
      try clear hfz6_0
      try clear hfz6_1
      try clear hfz6_2
      try clear hfz7_0
      try clear hfz7_1
      try clear hfz7_2
      try clear p1
      try clear p16
      try clear p2
      try clear p20
      try clear p23
      try clear p6
      try clear q1
      try clear q16
      try clear q2
      try clear q20
      try clear q23
      obtain ⟨x86_3,x102000_3,x102001_3,rfl,HA,HK3,HO_84,HO_103002,BK101,BK102,HB⟩:=hrel
      cases gk with
      | zero=>exact absurd HA.out (by simp [spec_tyRead.l1])
      | succ k3 =>
       have H:=HA.out
       clear HA
       simp only [spec_tyRead.l1] at H
       by_cases c64:x86_3 < (x103002_1.length:Int)
       rotate_left
       ·rw [if_neg c64] at H
        have c64b0:=decide_eq_false c64
        clear c64
        simp only [Option.some.injEq,Prod.mk.injEq] at H
        obtain ⟨rfl,rfl,rfl,rfl⟩:=H
        have hnb80:=NB102_101.out
        have hnc80:=NB101_102.out
        obtain ⟨hcz81_0,hcz81_1,hcz81_2,hfz81_0,hfz81_1,hfz81_2⟩:=blk3_ BK102.out
        obtain ⟨hcz82_0,hcz82_1,hcz82_2,hfz82_0,hfz82_1,hfz82_2⟩:=blk3_ BK101.out
        go_wp2
        refine bodyPost_ret (results_ct rfl _ _ gb101 75 #[.int .i64 x103000_1,.int .i64 x103001_1,.slice Ao63 x103002_1.length co63] (0,0) _ rfl (by (with_reducible repeat (first | refine blk_drewN ?_ _ | refine blk_drew ?_ | refine blk_alloc ?_ _));refine blk_put (cs:=#[.int .i64 x103000_1,.int .i64 x103001_1,.slice none 0 0]) ?_ 2 _ rfl;(with_reducible repeat (first | refine blk_drewN ?_ _ | refine blk_drew ?_ | refine blk_alloc ?_ _));refine blk_put (cs:=#[.int .i64 x103000_1,.int .i64 x102001_3,.slice none 0 0]) ?_ 1 _ rfl;(with_reducible repeat (first | refine blk_drewN ?_ _ | refine blk_drew ?_ | refine blk_alloc ?_ _));refine blk_put (cs:=#[.int .i64 x102000_3,.int .i64 x102001_3,.slice none 0 0]) ?_ 0 _ rfl;(with_reducible repeat (first | refine blk_drewN ?_ _ | refine blk_drew ?_ | refine blk_alloc ?_ _));exact BK101.out) Tryz.underlying75 rfl k_r) rfl ?_
        exact ⟨_,aq8,by (with_reducible repeat (first | apply Kd.R_alloc | apply Kd.R_drewN | apply Kd.R_drew));exact Kd.R_mono (Kd.R_far (p:=⟨gb101,2,none⟩) (Kd.R_far (p:=⟨gb101,1,none⟩) (Kd.R_far (p:=⟨gb101,0,none⟩) (Kd.R_types HO_103002.out BK101.out d_c) (fun _ hk=>hk.2) (.int .i64 x103000_1)) (fun _ hk=>hk.2) (.int .i64 x103001_1)) (fun _ hk=>hk.2) (.slice Ao63 x103002_1.length co63)) (fun _ hk=>trivial),aq5⟩
       rw [if_pos c64] at H
       have c64b0:=decide_eq_true c64
       clear c64
       replace H:=gd H
       obtain ⟨c65,H⟩:=H
       have c65b0:=decide_eq_true c65
       clear c65
       replace H:=gd H
       obtain ⟨c66,H⟩:=H
       have c66b0:=decide_eq_true c66
       clear c66
       have c67b0:=eq_true (of_decide_eq_true aq4:0 ≤ x86_3)
       replace H:=gd H
       obtain ⟨c68,H⟩:=H
       have c68b0:=eq_true c68
       have c68b1:=decide_eq_true c68
       clear c68
       obtain ⟨y108,hy_⟩:∃ y_:List Int,y_ = (x103002_1.take (x86_3:Int).toNat):=⟨_,rfl⟩
       replace H:(spec_tyRead.l2 k3 (rd x103002_1 x86_3) x103002_1 (x103002_1.length:Int) x86_3 y108 (y108.length:Int) 0 x103000_1 x103001_1 x103002_1) = some (r1,r2,r3,r4):=aq3
       have Ny108:=am hy_
       clear hy_
       have H':=am H
       clear H
       have p107:0 ≤ (x86_3:Int):=of_decide_eq_true aq4
       have q107:x86_3 < (x103002_1.length:Int):=of_decide_eq_true aq4
       obtain ⟨ad107,e107,hx107_0⟩:=Kd.at_int (Kd.R_reads' HO_84.out).2.2 x86_3 p107 q107
       cases e107
       replace p107:=eq_true p107
       replace q107:=eq_true q107
       have hnb69:=NB102_101.out
       have hnc69:=NB101_102.out
       obtain ⟨hcz70_0,hcz70_1,hcz70_2,hfz70_0,hfz70_1,hfz70_2⟩:=blk3_ BK102.out
       have q71:(x86_3:Int) ≤ ((x103002_1.length:Int):Int):=of_decide_eq_true aq4
       obtain ⟨i071,hi071,_,hsz71,_⟩:=info_parts info5
       have hroom71:x103002_1.length ≤ co63:=(Kd.R_reads' HO_103002.out).2.1
       have hC71:Kd.C (Kd.int .u8) _ (some ad107) x103002_1.length x103002_1:=(Kd.R_reads' HO_103002.out).2.2
       have hcut71:=cut_to (P:=Tryz.prog) 63 5 .i64 Tryz.underlying63 hi071 (some ad107) x103002_1.length co63 x86_3 (of_decide_eq_true aq4) q71 hroom71
       have hr71:=Kd.C_take (m:=(x86_3:Int).toNat) hC71 o_m
       have hy71:y108.length = (x86_3:Int).toNat:=(by rw [Ny108.out,List.length_take];omega)
       rw [← Ny108.out] at hr71
       rw [← hy71] at hcut71
       have HR111:=am hr71
       have HC111:=am (show y108.length ≤ co63 from by omega)
       clear hr71 hC71 hroom71 hi071 hsz71
       have KY71:=am hy71
       clear hy71
       have KL71:=am (show (x86_3:Int).toNat ≤ x103002_1.length from by omega)
       replace q71:=eq_true q71
       go_wp2
       go_loopg [96] k3 (fun kq v96 w'=>∃ (x96_4:Int) (x102000_4:Int) (x102001_4:Int),v96 = .int .i64 x96_4 ∧ Aside0 (spec_tyRead.l2 kq (rd x103002_1 x86_3) x103002_1 (x103002_1.length:Int) x86_3 y108 (y108.length:Int) x96_4 x103000_1 x103001_1 x103002_1 = some (r1,r2,r3,r4)) ∧ Aside0 (kq ≤ k3) ∧ Aside0 (Kd.R (Kd.int .u8) 5 w' w.heap.size (fun _=>True) (.slice (some ad107) x103002_1.length co63) x103002_1) ∧ Aside0 (Kd.R (Kd.int .u8) 5 w' w.heap.size (fun _=>True) (.slice (some ad107) x103002_1.length co63) x103002_1) ∧ Aside0 (w'.heap[gb101]? = some (.cells #[.int .i64 x102000_4,.int .i64 x102001_4,(.slice none 0 0)] 75 (0,0))) ∧ Aside0 (w'.heap[gb102]? = some (.cells #[.int .i64 x103000_1,.int .i64 x103001_1,(.slice (some ad107) x103002_1.length co63)] 75 (0,0))) ∧ Aside0 (Kd.C (Kd.int .u8) w' (some ad107) y108.length y108) ∧ Aside0 (Below w.heap.size w w'))
       case atStart=>exact ⟨(0),(x102000_3),(x102001_3),aq6,H',⟨Nat.le_refl _⟩,⟨aq40⟩,⟨aq15⟩,⟨aq2⟩,⟨aq11⟩,⟨aq28⟩,⟨aq5⟩⟩
       case round =>
        clear H'
        try clear c1
        try clear p1
        try clear q1
        try clear hx1
        try clear c2
        try clear c2b0
        try clear c2b1
        try clear p2
        try clear q2
        try clear hx2
        try clear c3
        try clear c4
        try clear c5
        try clear c6
        try clear p6
        try clear q7
        try clear c9
        try clear c10
        try clear p10
        try clear q10
        try clear hx10
        try clear c12
        try clear c12b0
        try clear c14
        try clear c14b0
        try clear c15
        try clear c15b0
        try clear p16
        try clear q16
        try clear hx16
        try clear c17
        try clear c18
        try clear c18b0
        try clear c19
        try clear c19b0
        try clear p20
        try clear q20
        try clear hx20
        try clear c22
        try clear p23
        try clear q23
        try clear hx23
        try clear c24
        try clear c29
        try clear c31
        try clear c31b0
        try clear c32
        try clear c32b0
        try clear c32b1
        try clear c33
        try clear c33b0
        try clear c33b1
        try clear c34
        try clear c37
        try clear c39
        try clear c42
        try clear c42b0
        try clear c42b1
        try clear c43
        try clear c46
        try clear c49
        try clear c49b0
        try clear c50
        try clear c52
        try clear c52b0
        try clear c53
        try clear c55
        try clear c58
        try clear c59
        try clear c61
        try clear c64
        try clear c64b0
        try clear p64
        try clear c65
        try clear c65b0
        try clear c66
        try clear c66b0
        try clear c67
        try clear c67b0
        try clear c68
        try clear c68b0
        try clear c68b1
        try clear c69
        try clear q71
        try clear hcz11_0
        try clear hcz11_1
        try clear hcz11_2
        try clear hcz30_0
        try clear hcz30_1
        try clear hcz30_2
        try clear hcz35_0
        try clear hcz35_1
        try clear hcz35_2
        try clear hcz36_0
        try clear hcz36_1
        try clear hcz36_2
        try clear hcz38_0
        try clear hcz38_1
        try clear hcz38_2
        try clear hcz40_0
        try clear hcz40_1
        try clear hcz40_2
        try clear hcz41_0
        try clear hcz41_1
        try clear hcz41_2
        try clear hcz44_0
        try clear hcz44_1
        try clear hcz44_2
        try clear hcz45_0
        try clear hcz45_1
        try clear hcz45_2
        try clear hcz47_0
        try clear hcz47_1
        try clear hcz47_2
        try clear hcz51_0
        try clear hcz51_1
        try clear hcz51_2
        try clear hcz54_0
        try clear hcz54_1
        try clear hcz54_2
        try clear hcz56_0
        try clear hcz56_1
        try clear hcz56_2
        try clear hcz60_0
        try clear hcz60_1
        try clear hcz60_2
        try clear hcz62_0
        try clear hcz62_1
        try clear hcz62_2
        try clear hcz6_0
        try clear hcz6_1
        try clear hcz6_2
        try clear hcz70_0
        try clear hcz70_1
        try clear hcz70_2
        try clear hcz7_0
        try clear hcz7_1
        try clear hcz7_2
        try clear hfz11_0
        try clear hfz11_1
        try clear hfz11_2
        try clear hfz30_0
        try clear hfz30_1
        try clear hfz30_2
        try clear hfz35_0
        try clear hfz35_1
        try clear hfz35_2
        try clear hfz36_0
        try clear hfz36_1
        try clear hfz36_2
        try clear hfz38_0
        try clear hfz38_1
        try clear hfz38_2
        try clear hfz40_0
        try clear hfz40_1
        try clear hfz40_2
        try clear hfz41_0
        try clear hfz41_1
        try clear hfz41_2
        try clear hfz44_0
        try clear hfz44_1
        try clear hfz44_2
        try clear hfz45_0
        try clear hfz45_1
        try clear hfz45_2
        try clear hfz47_0
        try clear hfz47_1
        try clear hfz47_2
        try clear hfz51_0
        try clear hfz51_1
        try clear hfz51_2
        try clear hfz54_0
        try clear hfz54_1
        try clear hfz54_2
        try clear hfz56_0
        try clear hfz56_1
        try clear hfz56_2
        try clear hfz60_0
        try clear hfz60_1
        try clear hfz60_2
        try clear hfz62_0
        try clear hfz62_1
        try clear hfz62_2
        try clear hfz6_0
        try clear hfz6_1
        try clear hfz6_2
        try clear hfz70_0
        try clear hfz70_1
        try clear hfz70_2
        try clear hfz7_0
        try clear hfz7_1
        try clear hfz7_2
        try clear hx107_0
        try clear p1
        try clear p107
        try clear p16
        try clear p2
        try clear p20
        try clear p23
        try clear p6
        try clear q1
        try clear q107
        try clear q16
        try clear q2
        try clear q20
        try clear q23
        try clear q71
        obtain ⟨x96_4,x102000_4,x102001_4,rfl,HA,HK4,HO_84,HO_103002,BK101,BK102,HR111,HB⟩:=hrel
        cases gk with
        | zero=>exact absurd HA.out (by simp [spec_tyRead.l2])
        | succ k4 =>
         have H:=HA.out
         clear HA
         simp only [spec_tyRead.l2] at H
         by_cases c72:x96_4 < (y108.length:Int)
         rotate_left
         ·rw [if_neg c72] at H
          have c72b0:=decide_eq_false c72
          clear c72
          have H':=am H
          clear H
          go_wp2
          go_roundg k4
          case measure=>have:=HK1.out;have:=HJ47.out;have:=HK3.out;have:=HK4.out;omega
          case rel=>exact ⟨(wrap64 (x86_3 + 1)),(x102000_4),(x102001_4),aq6,H',⟨aq56⟩,⟨aq40⟩,⟨aq15⟩,⟨aq2⟩,⟨aq11⟩,⟨aq5⟩⟩
         rw [if_pos c72] at H
         have c72b0:=decide_eq_true c72
         clear c72
         replace H:=gd H
         obtain ⟨c73,H⟩:=H
         have c73b0:=decide_eq_true c73
         clear c73
         replace H:=gd H
         obtain ⟨c74,H⟩:=H
         have c74b0:=decide_eq_true c74
         clear c74
         by_cases c75:(rd x103002_1 x86_3) = (rd y108 x96_4)
         rotate_left
         ·rw [if_neg c75] at H
          have c75b0:=beq_eq_false_iff_ne.mpr c75
          have c75b1:=bne_iff_ne.mpr c75
          have H':=am H
          clear H
          have p112:0 ≤ (x96_4:Int):=of_decide_eq_true aq4
          have q112:x96_4 < (y108.length:Int):=of_decide_eq_true aq4
          obtain ⟨ad112,e112,hx112_0⟩:=Kd.at_int HR111.out x96_4 p112 q112
          obtain rfl:ad107 = ad112:=(by injection e112)
          try replace hx112_0:=(HB.out.cell (World.block_lt_of_cell? w _ hx112_0)).trans hx112_0
          replace p112:=eq_true p112
          replace q112:=eq_true q112
          go_wp2
          go_roundg k4
          case measure=>have:=HK1.out;have:=HJ47.out;have:=HK3.out;have:=HK4.out;omega
          case rel=>exact ⟨(wrap64 (x96_4 + 1)),(x102000_4),(x102001_4),aq6,H',⟨aq56⟩,⟨aq40⟩,⟨aq15⟩,⟨aq2⟩,⟨aq11⟩,⟨aq28⟩,⟨aq5⟩⟩
         rw [if_pos c75] at H
         have c75b0:=beq_iff_eq.mpr c75
         have c75b1:=bne_eq_false_iff_eq.mpr c75
         clear c75
         by_cases c76:(rd x103002_1 x86_3) ≥ 97
         rotate_left
         ·rw [if_neg c76] at H
          have c76b0:=decide_eq_false c76
          clear c76
          have H':=am H
          clear H
          have p112:0 ≤ (x96_4:Int):=of_decide_eq_true aq4
          have q112:x96_4 < (y108.length:Int):=of_decide_eq_true aq4
          obtain ⟨ad112,e112,hx112_0⟩:=Kd.at_int HR111.out x96_4 p112 q112
          obtain rfl:ad107 = ad112:=(by injection e112)
          try replace hx112_0:=(HB.out.cell (World.block_lt_of_cell? w _ hx112_0)).trans hx112_0
          replace p112:=eq_true p112
          replace q112:=eq_true q112
          go_wp2
          go_roundg k4
          case measure=>have:=HK1.out;have:=HJ47.out;have:=HK3.out;have:=HK4.out;omega
          case rel=>exact ⟨(wrap64 (x96_4 + 1)),(x102000_4),(x102001_4),aq6,H',⟨aq56⟩,⟨aq40⟩,⟨aq15⟩,⟨aq2⟩,⟨aq11⟩,⟨aq28⟩,⟨aq5⟩⟩
         rw [if_pos c76] at H
         have c76b0:=decide_eq_true c76
         clear c76
         by_cases c77:(rd x103002_1 x86_3) ≤ 102
         rotate_left
         ·rw [if_neg c77] at H
          have c77b0:=decide_eq_false c77
          clear c77
          have H':=am H
          clear H
          have p112:0 ≤ (x96_4:Int):=of_decide_eq_true aq4
          have q112:x96_4 < (y108.length:Int):=of_decide_eq_true aq4
          obtain ⟨ad112,e112,hx112_0⟩:=Kd.at_int HR111.out x96_4 p112 q112
          obtain rfl:ad107 = ad112:=(by injection e112)
          try replace hx112_0:=(HB.out.cell (World.block_lt_of_cell? w _ hx112_0)).trans hx112_0
          replace p112:=eq_true p112
          replace q112:=eq_true q112
          go_wp2
          go_roundg k4
          case measure=>have:=HK1.out;have:=HJ47.out;have:=HK3.out;have:=HK4.out;omega
          case rel=>exact ⟨(wrap64 (x96_4 + 1)),(x102000_4),(x102001_4),aq6,H',⟨aq56⟩,⟨aq40⟩,⟨aq15⟩,⟨aq2⟩,⟨aq11⟩,⟨aq28⟩,⟨aq5⟩⟩
         rw [if_pos c77] at H
         have c77b0:=decide_eq_true c77
         clear c77
         simp only [Option.some.injEq,Prod.mk.injEq] at H
         obtain ⟨rfl,rfl,rfl,rfl⟩:=H
         have p112:0 ≤ (x96_4:Int):=of_decide_eq_true aq4
         have q112:x96_4 < (y108.length:Int):=of_decide_eq_true aq4
         obtain ⟨ad112,e112,hx112_0⟩:=Kd.at_int HR111.out x96_4 p112 q112
         obtain rfl:ad107 = ad112:=(by injection e112)
         try replace hx112_0:=(HB.out.cell (World.block_lt_of_cell? w _ hx112_0)).trans hx112_0
         replace p112:=eq_true p112
         replace q112:=eq_true q112
         have hnb78:=NB101_102.out
         have hnc78:=NB102_101.out
         obtain ⟨hcz79_0,hcz79_1,hcz79_2,hfz79_0,hfz79_1,hfz79_2⟩:=blk3_ BK101.out
         go_wp2
         refine bodyPost_ret (results_ct rfl _ _ gb101 75 #[.int .i64 0,.int .i64 0,.slice none 0 0] (0,0) _ rfl (by (with_reducible repeat (first | refine blk_drewN ?_ _ | refine blk_drew ?_ | refine blk_alloc ?_ _));refine blk_put (cs:=#[.int .i64 0,.int .i64 0,.slice none 0 0]) ?_ 2 _ rfl;(with_reducible repeat (first | refine blk_drewN ?_ _ | refine blk_drew ?_ | refine blk_alloc ?_ _));refine blk_put (cs:=#[.int .i64 0,.int .i64 x102001_4,.slice none 0 0]) ?_ 1 _ rfl;(with_reducible repeat (first | refine blk_drewN ?_ _ | refine blk_drew ?_ | refine blk_alloc ?_ _));refine blk_put (cs:=#[.int .i64 x102000_4,.int .i64 x102001_4,.slice none 0 0]) ?_ 0 _ rfl;(with_reducible repeat (first | refine blk_drewN ?_ _ | refine blk_drew ?_ | refine blk_alloc ?_ _));exact BK101.out) Tryz.underlying75 rfl k_r) rfl ?_
         exact ⟨_,aq8,aq19,aq5⟩
def impl_within.f (a0:Int) (a1:Int) (a2:Int):Option (Bool):=if a1 ≤ a0 then (some (decide (a0 ≤ a2))) else (some false)
theorem impl_within.calls (a0:Int) (a1:Int) (a2:Int) (r:Bool) (w:World) (h:impl_within.f a0 a1 a2 = some r) :
  Calls Tryz.prog 70 #[.int .i64 a0,.int .i64 a1,.int .i64 a2] w fun e w'=>e = .returned (.bool r) ∧ Drawn0 w w':=by
 have H:(if a1 ≤ a0 then (some (decide (a0 ≤ a2))) else (some false)) = some r:=h
 clear h
 by_cases c4:a1 ≤ a0
 rotate_left
 ·rw [if_neg c4] at H
  have c4b0:=decide_eq_false c4
  clear c4
  obtain rfl:=Option.some.inj H
  go_enter Tryz.func70,Tryz.ntmps70
  go_wp2
  go_ret
  exact ⟨aq6,aq17⟩
 rw [if_pos c4] at H
 have c4b0:=decide_eq_true c4
 clear c4
 obtain rfl:=Option.some.inj H
 go_enter Tryz.func70,Tryz.ntmps70
 go_wp2
 go_ret
 exact ⟨aq6,aq17⟩
def impl_isSize.f (a0:Int) (a1:Int):Option (Bool):=(impl_within.f a0 1 7).bind fun t101=>(if t101 = true then ((impl_within.f a1 1 7).bind fun t102=>(if t102 = true then (some (decide ((wrap64 (a0 * a1)) ≤ 36))) else (some false))) else (some false))
theorem impl_isSize.calls (a0:Int) (a1:Int) (r:Bool) (w:World) (h:impl_isSize.f a0 a1 = some r) :
  Calls Tryz.prog 121 #[.int .i64 a0,.int .i64 a1] w fun e w'=>e = .returned (.bool r) ∧ Drawn0 w w':=by
 have H:((impl_within.f a0 1 7).bind fun t101=>(if t101 = true then ((impl_within.f a1 1 7).bind fun t102=>(if t102 = true then (some (decide ((wrap64 (a0 * a1)) ≤ 36))) else (some false))) else (some false))) = some r:=h
 clear h
 obtain ⟨t101,A3,H⟩:=bn H
 by_cases c4:t101 = true
 rotate_left
 ·replace c4:=Bool.eq_false_iff.mpr c4
  subst c4
  rw [if_neg Bool.false_ne_true] at H
  obtain rfl:=Option.some.inj H
  go_enter Tryz.func121,Tryz.ntmps121
  go_wp2_with (first | ((with_reducible refine gate_callee (f:=70) rfl ?_);refine goesL_ (some 6) rfl rfl Tryz.func70 k_r rfl #[.int .i64 a0,.int .i64 1,.int .i64 7] rfl aq7 ?_;(with_reducible refine (impl_within.calls a0 1 7 false _ A3.out).mono ?_);rintro e w' ⟨rfl,⟨nd,rfl⟩⟩;refine ⟨_,rfl,?_⟩))
  go_ret
  exact ⟨aq6,aq17⟩
 subst c4
 rw [if_pos rfl] at H
 obtain ⟨t102,A5,H⟩:=bn H
 by_cases c6:t102 = true
 ·subst c6
  rw [if_pos rfl] at H
  obtain rfl:=Option.some.inj H
  go_enter Tryz.func121,Tryz.ntmps121
  go_wp2_with (first | ((with_reducible refine gate_callee (f:=70) rfl ?_);refine goesL_ (some 6) rfl rfl Tryz.func70 k_r rfl #[.int .i64 a0,.int .i64 1,.int .i64 7] rfl aq7 ?_;(with_reducible refine (impl_within.calls a0 1 7 true _ A3.out).mono ?_);rintro e w' ⟨rfl,⟨nd,rfl⟩⟩;refine ⟨_,rfl,?_⟩) | (go_at_call 70;(with_reducible refine (impl_within.calls a1 1 7 true _ A5.out).mono ?_);rintro e w' ⟨rfl,⟨nd,rfl⟩⟩))
  go_ret
  exact ⟨aq6,aq17⟩
 replace c6:=Bool.eq_false_iff.mpr c6
 subst c6
 rw [if_neg Bool.false_ne_true] at H
 obtain rfl:=Option.some.inj H
 go_enter Tryz.func121,Tryz.ntmps121
 go_wp2_with (first | ((with_reducible refine gate_callee (f:=70) rfl ?_);refine goesL_ (some 6) rfl rfl Tryz.func70 k_r rfl #[.int .i64 a0,.int .i64 1,.int .i64 7] rfl aq7 ?_;(with_reducible refine (impl_within.calls a0 1 7 true _ A3.out).mono ?_);rintro e w' ⟨rfl,⟨nd,rfl⟩⟩;refine ⟨_,rfl,?_⟩) | (go_at_call 70;(with_reducible refine (impl_within.calls a1 1 7 false _ A5.out).mono ?_);rintro e w' ⟨rfl,⟨nd,rfl⟩⟩))
 go_ret
 exact ⟨aq6,aq17⟩
mutual
def impl_IsTray.l0:Nat → ByteArray → List ByteArray → List ByteArray → Int → Int → Option (Bool)
 | 0,_,_,_,_,_=>none
 | k + 1,x0,x3,x17,x18,x19=>if x19 < x18 then (if 0 ≤ x19 then (if x19 < (x17.length:Int) then (if 0 < (x3.length:Int) then (if ((rdOf ByteArray.empty x17 x19).size:Int) = ((rdOf ByteArray.empty x3 0).size:Int) then ((strings_Trim.f (rdOf ByteArray.empty x17 x19) (⟨#[35,46,111,97,98,99,100,101,102]⟩:ByteArray)).bind fun t108=>(if t108.toList = ([]:List UInt8) then (impl_IsTray.l0 k x0 x3 x17 x18 (wrap64 (x19 + 1))) else (some false))) else (some false)) else (none)) else (none)) else (none)) else (impl_IsTray.l1 k x0 97)
def impl_IsTray.l1:Nat → ByteArray → Int → Option (Bool)
 | 0,_,_=>none
 | k + 1,x0,x6=>if x6 ≤ 102 then ((strings_Count.f x0 (Utf8.encode x6)).bind fun t109=>(if t109 > 1 then (some false) else (impl_IsTray.l1 k x0 (wrap32 (x6 + 1))))) else (some true)
end
def impl_IsTray.f (k:Nat) (a0:ByteArray):Option (Bool):=(strings_Split.f a0 (⟨#[47]⟩:ByteArray)).bind fun t101=>(if 0 < (t101.length:Int) then ((impl_isSize.f ((rdOf ByteArray.empty t101 0).size:Int) (t101.length:Int)).bind fun t105=>(if t105 = true then (impl_IsTray.l0 k a0 t101 t101 (t101.length:Int) 0) else (some false))) else (none))
theorem impl_IsTray.mono_l:∀ k,(∀ y0 y1 y2 y3 y4,LeO (impl_IsTray.l0 k y0 y1 y2 y3 y4) (impl_IsTray.l0 (k + 1) y0 y1 y2 y3 y4)) ∧ (∀ y0 y1,LeO (impl_IsTray.l1 k y0 y1) (impl_IsTray.l1 (k + 1) y0 y1))
 | 0=>⟨fun _ _ _ _ _ r h=>by simp [impl_IsTray.l0] at h,fun _ _ r h=>by simp [impl_IsTray.l1] at h⟩
 | k + 1=>by
  obtain ⟨ih0,ih1⟩:=impl_IsTray.mono_l k
  refine ⟨?_,?_⟩
  ·intro y0 y1 y2 y3 y4
   unfold impl_IsTray.l0
   exact mo
  ·intro y0 y1
   unfold impl_IsTray.l1
   exact mo
theorem impl_IsTray.mono:∀ a0 k,LeO (impl_IsTray.f k a0) (impl_IsTray.f (k + 1) a0):=by
 intro a0 k
 obtain ⟨ih0,ih1⟩:=impl_IsTray.mono_l k
 unfold impl_IsTray.f
 exact mo
theorem impl_IsTray.calls (k:Nat) (a0:ByteArray) (r:Bool) (w:World) (h:impl_IsTray.f k a0 = some r) :
  Calls Tryz.prog 102 #[.string a0] w fun e w'=>e = .returned (.bool r) ∧ Below w.heap.size w w':=by
 have HB:=am (Below.refl w.heap.size w)
 have H:((strings_Split.f a0 (⟨#[47]⟩:ByteArray)).bind fun t101=>(if 0 < (t101.length:Int) then ((impl_isSize.f ((rdOf ByteArray.empty t101 0).size:Int) (t101.length:Int)).bind fun t105=>(if t105 = true then (impl_IsTray.l0 k a0 t101 t101 (t101.length:Int) 0) else (some false))) else (none))) = some r:=h
 clear h
 obtain ⟨t101,A2,H⟩:=bn H
 replace H:=gd H
 obtain ⟨c3,H⟩:=H
 have c3b0:=decide_eq_true c3
 have c3b1:decide (0 < t101.length) = true:=decide_eq_true o_m
 clear c3
 obtain ⟨t105,A4,H⟩:=bn H
 by_cases c5:t105 = true
 rotate_left
 ·replace c5:=Bool.eq_false_iff.mpr c5
  subst c5
  rw [if_neg Bool.false_ne_true] at H
  obtain rfl:=Option.some.inj H
  go_enter Tryz.func102,Tryz.ntmps102
  go_wp2_with (first | ((with_reducible refine gate_callee (f:=90) rfl ?_);refine goesL_ (some 8) rfl rfl Tryz.func90 k_r rfl #[.string a0,.string (⟨#[47]⟩:ByteArray)] rfl aq7 ?_;(with_reducible refine (strings_Split.calls a0 (⟨#[47]⟩:ByteArray) t101 _ A2.out).mono ?_);rintro e w20 ⟨v102,rfl,ho0,hb⟩;refine ⟨_,rfl,?_⟩;have HO103:=am (Kd.R_lower ho0 (below_size aq1));replace HB:=am (below_step aq1 hb);(try clear hb);(try clear ho0);obtain ⟨Ao21,co21,eo21⟩:=Kd.R_slice HO103.out;subst eo21;have p104:0 ≤ (0:Int):=o_m;have q104:0 < (t101.length:Int):=of_decide_eq_true aq4;obtain ⟨ad104,e104,hx104_0⟩:=Kd.at_string (Kd.R_reads' HO103.out).2.2 0 p104 q104;cases e104;have qi104:(0 < t101.length) = True:=eq_true o_m;(try rw [show ((0:Int)).toNat = 0 from rfl] at hx104_0);(try rw [Addr.add_zero'] at hx104_0);replace p104:=eq_true p104;replace q104:=eq_true q104) | ((with_reducible refine gate_callee (f:=121) rfl ?_);refine goesL_ (some 15) rfl rfl Tryz.func121 k_r rfl #[.int .i64 ((rdOf ByteArray.empty t101 0).size:Int),.int .i64 (t101.length:Int)] rfl aq7 ?_;(with_reducible refine (impl_isSize.calls ((rdOf ByteArray.empty t101 0).size:Int) (t101.length:Int) false _ A4.out).mono ?_);rintro e w' ⟨rfl,⟨nd,rfl⟩⟩;refine ⟨_,rfl,?_⟩))
  go_ret
  exact ⟨aq8,aq1⟩
 subst c5
 rw [if_pos rfl] at H
 have H':=am H
 clear H
 go_enter Tryz.func102,Tryz.ntmps102
 go_wp2_with (first | ((with_reducible refine gate_callee (f:=90) rfl ?_);refine goesL_ (some 8) rfl rfl Tryz.func90 k_r rfl #[.string a0,.string (⟨#[47]⟩:ByteArray)] rfl aq7 ?_;(with_reducible refine (strings_Split.calls a0 (⟨#[47]⟩:ByteArray) t101 _ A2.out).mono ?_);rintro e w6 ⟨v102,rfl,ho0,hb⟩;refine ⟨_,rfl,?_⟩;have HO103:=am (Kd.R_lower ho0 (below_size aq1));replace HB:=am (below_step aq1 hb);(try clear hb);(try clear ho0);obtain ⟨Ao7,co7,eo7⟩:=Kd.R_slice HO103.out;subst eo7;have p104:0 ≤ (0:Int):=o_m;have q104:0 < (t101.length:Int):=of_decide_eq_true aq4;obtain ⟨ad104,e104,hx104_0⟩:=Kd.at_string (Kd.R_reads' HO103.out).2.2 0 p104 q104;cases e104;have qi104:(0 < t101.length) = True:=eq_true o_m;(try rw [show ((0:Int)).toNat = 0 from rfl] at hx104_0);(try rw [Addr.add_zero'] at hx104_0);replace p104:=eq_true p104;replace q104:=eq_true q104) | ((with_reducible refine gate_callee (f:=121) rfl ?_);refine goesL_ (some 15) rfl rfl Tryz.func121 k_r rfl #[.int .i64 ((rdOf ByteArray.empty t101 0).size:Int),.int .i64 (t101.length:Int)] rfl aq7 ?_;(with_reducible refine (impl_isSize.calls ((rdOf ByteArray.empty t101 0).size:Int) (t101.length:Int) true _ A4.out).mono ?_);rintro e w' ⟨rfl,⟨nd,rfl⟩⟩;refine ⟨_,rfl,?_⟩))
 go_loopg [19] k (fun kq v19 w'=>∃ (x19_1:Int),v19 = .int .i64 x19_1 ∧ Aside0 (impl_IsTray.l0 kq a0 t101 t101 (t101.length:Int) x19_1 = some r) ∧ Aside0 (kq ≤ k) ∧ Aside0 (Kd.R Kd.string 9 w' w.heap.size (fun _=>True) (.slice (some ad104) t101.length co7) t101) ∧ Aside0 (Kd.R Kd.string 9 w' w.heap.size (fun _=>True) (.slice (some ad104) t101.length co7) t101) ∧ Aside0 (Below w.heap.size w w'))
 case atStart=>exact ⟨(0),aq6,H',⟨Nat.le_refl _⟩,⟨aq58⟩,⟨aq58⟩,⟨aq1⟩⟩
 case round =>
  clear H'
  try clear c1
  try clear p1
  try clear q1
  try clear hx1
  try clear qi1
  try clear p2
  try clear c3
  try clear c3b0
  try clear c3b1
  try clear c5
  try clear hx104_0
  try clear p104
  try clear q104
  obtain ⟨x19_1,rfl,HA,HK1,HO_3,HO_17,HB⟩:=hrel
  cases gk with
  | zero=>exact absurd HA.out (by simp [impl_IsTray.l0])
  | succ k1 =>
   have H:=HA.out
   clear HA
   simp only [impl_IsTray.l0] at H
   by_cases c8:x19_1 < (t101.length:Int)
   rotate_left
   ·rw [if_neg c8] at H
    have c8b0:=decide_eq_false c8
    clear c8
    have H':=am H
    clear H
    go_wp2
    go_loopg [6] k1 (fun kq v6 w'=>∃ (x6_2:Int),v6 = .int .i32 x6_2 ∧ Aside0 (impl_IsTray.l1 kq a0 x6_2 = some r) ∧ Aside0 (kq ≤ k1) ∧ Aside0 (Below w.heap.size w w'))
    case atStart=>exact ⟨(97),aq6,H',⟨Nat.le_refl _⟩,⟨aq1⟩⟩
    case round =>
     clear H'
     try clear c1
     try clear p1
     try clear q1
     try clear hx1
     try clear qi1
     try clear p2
     try clear c3
     try clear c3b0
     try clear c3b1
     try clear c5
     try clear p6
     try clear c8
     try clear c8b0
     try clear c9
     try clear c9b0
     try clear c10
     try clear c10b0
     try clear p10
     try clear q10
     try clear hx10
     try clear qi10
     try clear c11
     try clear c11b0
     try clear c11b1
     try clear c12
     try clear c12b0
     try clear c12b1
     try clear c12b2
     try clear c14
     try clear c14b0
     try clear c14b1
     try clear hx104_0
     try clear hx106_0
     try clear hx107_0
     try clear p1
     try clear p104
     try clear p106
     try clear p107
     try clear p2
     try clear q1
     try clear q104
     try clear q106
     try clear q107
     obtain ⟨x6_2,rfl,HA,HK2,HB⟩:=hrel
     cases gk with
     | zero=>exact absurd HA.out (by simp [impl_IsTray.l1])
     | succ k2 =>
      have H:=HA.out
      clear HA
      simp only [impl_IsTray.l1] at H
      by_cases c17:x6_2 ≤ 102
      rotate_left
      ·rw [if_neg c17] at H
       have c17b0:=decide_eq_false c17
       clear c17
       obtain rfl:=Option.some.inj H
       go_wp2
       go_ret
       exact ⟨aq8,aq1⟩
      rw [if_pos c17] at H
      have c17b0:=decide_eq_true c17
      clear c17
      obtain ⟨t109,A18,H⟩:=bn H
      by_cases c19:t109 > 1
      ·rw [if_pos c19] at H
       have c19b0:=decide_eq_true c19
       clear c19
       obtain rfl:=Option.some.inj H
       go_wp2_with (first | ((with_reducible refine gate_callee (f:=123) rfl ?_);refine goesL_ (some 43) rfl rfl Tryz.func123 k_r rfl #[.string a0,.string (Utf8.encode x6_2)] rfl aq7 ?_;(with_reducible refine (strings_Count.calls a0 (Utf8.encode x6_2) t109 _ A18.out).mono ?_);rintro e w' ⟨rfl,⟨nd,rfl⟩⟩;refine ⟨_,rfl,?_⟩))
       go_ret
       exact ⟨aq8,aq1⟩
      rw [if_neg c19] at H
      have c19b0:=decide_eq_false c19
      clear c19
      have H':=am H
      clear H
      go_wp2_with (first | ((with_reducible refine gate_callee (f:=123) rfl ?_);refine goesL_ (some 43) rfl rfl Tryz.func123 k_r rfl #[.string a0,.string (Utf8.encode x6_2)] rfl aq7 ?_;(with_reducible refine (strings_Count.calls a0 (Utf8.encode x6_2) t109 _ A18.out).mono ?_);rintro e w' ⟨rfl,⟨nd,rfl⟩⟩;refine ⟨_,rfl,?_⟩))
      go_roundg k2
      case measure=>have:=HK1.out;have:=HK2.out;omega
      case rel=>exact ⟨(wrap32 (x6_2 + 1)),aq6,H',⟨aq44⟩,⟨aq1⟩⟩
   rw [if_pos c8] at H
   have c8b0:=decide_eq_true c8
   clear c8
   replace H:=gd H
   obtain ⟨c9,H⟩:=H
   have c9b0:=decide_eq_true c9
   clear c9
   replace H:=gd H
   obtain ⟨c10,H⟩:=H
   have c10b0:=decide_eq_true c10
   clear c10
   replace H:=gd H
   obtain ⟨c11,H⟩:=H
   have c11b0:=decide_eq_true c11
   have c11b1:decide (0 < t101.length) = true:=decide_eq_true o_m
   clear c11
   by_cases c12:((rdOf ByteArray.empty t101 x19_1).size:Int) = ((rdOf ByteArray.empty t101 0).size:Int)
   rotate_left
   ·rw [if_neg c12] at H
    have c12b0:=beq_eq_false_iff_ne.mpr c12
    have c12b1:=bne_iff_ne.mpr c12
    have c12b2:((rdOf ByteArray.empty t101 x19_1).size == (rdOf ByteArray.empty t101 0).size) = false:=by first | simpa using c12 | (simp at c12 ⊢;omega)
    obtain rfl:=Option.some.inj H
    have p106:0 ≤ (x19_1:Int):=of_decide_eq_true aq4
    have q106:x19_1 < (t101.length:Int):=of_decide_eq_true aq4
    obtain ⟨ad106,e106,hx106_0⟩:=Kd.at_string (Kd.R_reads' HO_17.out).2.2 x19_1 p106 q106
    obtain rfl:ad104 = ad106:=(by injection e106)
    replace p106:=eq_true p106
    replace q106:=eq_true q106
    have p107:0 ≤ (0:Int):=o_m
    have q107:0 < (t101.length:Int):=of_decide_eq_true aq4
    obtain ⟨ad107,e107,hx107_0⟩:=Kd.at_string (Kd.R_reads' HO_3.out).2.2 0 p107 q107
    obtain rfl:ad104 = ad107:=(by injection e107)
    have qi107:(0 < t101.length) = True:=eq_true o_m
    (try rw [show ((0:Int)).toNat = 0 from rfl] at hx107_0)
    (try rw [Addr.add_zero'] at hx107_0)
    replace p107:=eq_true p107
    replace q107:=eq_true q107
    go_wp2
    go_ret
    exact ⟨aq8,aq1⟩
   rw [if_pos c12] at H
   have c12b0:=beq_iff_eq.mpr c12
   have c12b1:=bne_eq_false_iff_eq.mpr c12
   have c12b2:((rdOf ByteArray.empty t101 x19_1).size == (rdOf ByteArray.empty t101 0).size) = true:=by first | simpa using c12 | (simp at c12 ⊢;omega)
   clear c12
   obtain ⟨t108,A13,H⟩:=bn H
   by_cases c14:t108.toList = ([]:List UInt8)
   rotate_left
   ·rw [if_neg c14] at H
    have c14b0:=beq_eq_false_iff_ne.mpr c14
    have c14b1:=bne_iff_ne.mpr c14
    obtain rfl:=Option.some.inj H
    have p106:0 ≤ (x19_1:Int):=of_decide_eq_true aq4
    have q106:x19_1 < (t101.length:Int):=of_decide_eq_true aq4
    obtain ⟨ad106,e106,hx106_0⟩:=Kd.at_string (Kd.R_reads' HO_17.out).2.2 x19_1 p106 q106
    obtain rfl:ad104 = ad106:=(by injection e106)
    replace p106:=eq_true p106
    replace q106:=eq_true q106
    have p107:0 ≤ (0:Int):=o_m
    have q107:0 < (t101.length:Int):=of_decide_eq_true aq4
    obtain ⟨ad107,e107,hx107_0⟩:=Kd.at_string (Kd.R_reads' HO_3.out).2.2 0 p107 q107
    obtain rfl:ad104 = ad107:=(by injection e107)
    have qi107:(0 < t101.length) = True:=eq_true o_m
    (try rw [show ((0:Int)).toNat = 0 from rfl] at hx107_0)
    (try rw [Addr.add_zero'] at hx107_0)
    replace p107:=eq_true p107
    replace q107:=eq_true q107
    go_wp2_with (first | (go_at_call 122;(with_reducible refine (strings_Trim.calls (rdOf ByteArray.empty t101 x19_1) (⟨#[35,46,111,97,98,99,100,101,102]⟩:ByteArray) t108 _ A13.out).mono ?_);rintro e w16 ⟨rfl,hb⟩;replace HO_3:=am (Kd.R_below aq10 hb);replace HO_17:=am (Kd.R_below aq57 hb);replace HB:=am (below_step aq1 hb);(try clear hb)))
    go_ret
    exact ⟨aq8,aq1⟩
   rw [if_pos c14] at H
   have c14b0:=beq_iff_eq.mpr c14
   have c14b1:=bne_eq_false_iff_eq.mpr c14
   clear c14
   have H':=am H
   clear H
   have p106:0 ≤ (x19_1:Int):=of_decide_eq_true aq4
   have q106:x19_1 < (t101.length:Int):=of_decide_eq_true aq4
   obtain ⟨ad106,e106,hx106_0⟩:=Kd.at_string (Kd.R_reads' HO_17.out).2.2 x19_1 p106 q106
   obtain rfl:ad104 = ad106:=(by injection e106)
   replace p106:=eq_true p106
   replace q106:=eq_true q106
   have p107:0 ≤ (0:Int):=o_m
   have q107:0 < (t101.length:Int):=of_decide_eq_true aq4
   obtain ⟨ad107,e107,hx107_0⟩:=Kd.at_string (Kd.R_reads' HO_3.out).2.2 0 p107 q107
   obtain rfl:ad104 = ad107:=(by injection e107)
   have qi107:(0 < t101.length) = True:=eq_true o_m
   (try rw [show ((0:Int)).toNat = 0 from rfl] at hx107_0)
   (try rw [Addr.add_zero'] at hx107_0)
   replace p107:=eq_true p107
   replace q107:=eq_true q107
   go_wp2_with (first | (go_at_call 122;(with_reducible refine (strings_Trim.calls (rdOf ByteArray.empty t101 x19_1) (⟨#[35,46,111,97,98,99,100,101,102]⟩:ByteArray) t108 _ A13.out).mono ?_);rintro e w15 ⟨rfl,hb⟩;replace HO_3:=am (Kd.R_below aq10 hb);replace HO_17:=am (Kd.R_below aq57 hb);replace HB:=am (below_step aq1 hb);(try clear hb)))
   go_roundg k1
   case measure=>have:=HK1.out;omega
   case rel=>exact ⟨(wrap64 (x19_1 + 1)),aq6,H',⟨aq63⟩,⟨aq10⟩,⟨aq57⟩,⟨aq1⟩⟩
end Go.Proofs.YtldhkbiomingbaaGreatDoor.F

namespace Go.Proofs.YtldhkbiomingbaaGreatDoor.F
open Go.RowKit Go.Proofs.YtldhkbiomingbaaGreatDoor Go.YW.PrintWords Classical
theorem spec_tyBall_eq (c:Int):spec_tyBall.f c = some (isBallC c):=by
 unfold spec_tyBall.f isBallC isNameC
 by_cases h3:c = 111
 ·simp [h3]
 simp only [if_neg h3]
 by_cases h4:c ≥ 97
 rotate_left
 ·simp [h3,h4]
 simp [h3,h4]
theorem spec_tyIs_eq (c:Int):spec_tyIs.f c = some (isCellC c):=by
 unfold spec_tyIs.f isCellC
 rw [spec_tyBall_eq]
 by_cases h1:c = 35
 ·simp [h1]
 by_cases h2:c = 46
 ·simp [h2]
 simp [h1,h2]
def ansT:Option (Nat × Nat × List Int) → Int × Int × List Int × Bool
 | none=>(0,0,[],false)
 | some (w,h,cs)=>(w,h,cs,true)
def finT (w h:Nat) (cs:List Int):Option (Nat × Nat × List Int):=if w ≤ 7 ∧ h ≤ 7 ∧ cs.length ≤ 36 ∧ namesOk cs then some (w,h,cs) else none
theorem tyRead_l2 (cs:List Int) (hl:cs.length ≤ 100) (w h:Int) (i:Nat) (hi:i < cs.length) (r:Int × Int × List Int × Bool)
  (hk:Ev (fun k=>spec_tyRead.l1 k cs cs.length (i + 1:Nat) w h cs) r):∀ (d j:Nat),j + d = i → 
  Ev (fun k=>spec_tyRead.l2 k (rd cs i) cs cs.length i (cs.take i) ((cs.take i).length:Int) j w h cs)
   (if ∀ m,j ≤ m → m < i → cs.getD m 0 = cs.getD i 0 → isNameC (cs.getD i 0) = false then r else (0,0,[],false)):=by
 have hti:(cs.take i).length = i:=by rw [List.length_take];omega
 intro d
 induction d with
 | zero =>
  intro j hj
  rw [if_pos (by intro m h1 h2;omega)]
  refine Ev.step (f:=fun k=>spec_tyRead.l1 k cs cs.length (i + 1:Nat) w h cs) (fun k=>?_) hk
  rw [spec_tyRead.l2,hti,if_neg o_m,w64 o_m o_m]
  rfl
 | succ d ih =>
  intro j hj
  have hih:=ih (j + 1) o_m
  have hr:rd (cs.take i) j = cs.getD j 0:=by
   unfold rd
   rw [Int.toNat_natCast,List.getD_eq_getElem?_getD,List.getD_eq_getElem?_getD,List.getElem?_take,if_pos o_m]
  have hr2:rd cs i = cs.getD i 0:=by unfold rd;rw [Int.toNat_natCast]
  have hw:wrap64 ((j:Int) + 1) = ((j + 1:Nat):Int):=by rw [w64 o_m o_m];rfl
  by_cases he:cs.getD j 0 = cs.getD i 0
  rotate_left
  ·have hc:(∀ m,j ≤ m → m < i → cs.getD m 0 = cs.getD i 0 → isNameC (cs.getD i 0) = false) ↔ (∀ m,j + 1 ≤ m → m < i → cs.getD m 0 = cs.getD i 0 → isNameC (cs.getD i 0) = false):=by
    constructor
    ·intro hh m h1 h2;exact hh m o_m h2
    ·intro hh m h1 h2 h3
     rcases Nat.lt_or_ge j m with h4 | h4
     ·exact hh m h4 h2 h3
     ·obtain rfl:m = j:=by omega
      exact absurd h3 he
   simp only [hc]
   refine Ev.step (fun k=>?_) hih
   rw [spec_tyRead.l2,hti,if_pos o_m,if_pos o_m,if_pos o_m,hr,hr2,if_neg (fun e=>he e.symm),hw]
  by_cases hn:isNameC (cs.getD i 0) = false
  rotate_left
  ·have hn2:isNameC (cs.getD i 0) = true:=by simpa using hn
   have h3:=(isNameC_iff _).1 hn2
   rw [if_neg (fun hc=>hn (hc j (Nat.le_refl _) o_m he))]
   refine Ev.step (f:=fun k=>some (0,0,[],false)) (fun k=>?_) (Ev.now _)
   rw [spec_tyRead.l2,hti,if_pos o_m,if_pos o_m,if_pos o_m,hr,hr2,if_pos he.symm,if_pos o_m,if_pos o_m]
  have hc:(∀ m,j ≤ m → m < i → cs.getD m 0 = cs.getD i 0 → isNameC (cs.getD i 0) = false):=fun _ _ _ _=>hn
  have hc2:(∀ m,j + 1 ≤ m → m < i → cs.getD m 0 = cs.getD i 0 → isNameC (cs.getD i 0) = false):=fun _ _ _ _=>hn
  rw [if_pos hc]
  rw [if_pos hc2] at hih
  refine Ev.step (fun k=>?_) hih
  rw [spec_tyRead.l2,hti,if_pos o_m,if_pos o_m,if_pos o_m,hr,hr2,if_pos he.symm,hw]
  have:¬ (97 ≤ cs.getD i 0 ∧ cs.getD i 0 ≤ 102):=fun e=>by rw [(isNameC_iff _).2 e] at hn;cases hn
  by_cases h97:cs.getD i 0 ≥ 97
  rotate_left
  ·rw [if_neg h97]
  rw [if_pos h97,if_neg o_m]
theorem tyRead_l1 (cs:List Int) (hl:cs.length ≤ 100) (w h:Nat):∀ (d i:Nat),i + d = cs.length →
  Ev (fun k=>spec_tyRead.l1 k cs cs.length i w h cs)
   (if ∀ m,i ≤ m → m < cs.length → ∀ j,j < m → cs.getD j 0 = cs.getD m 0 → isNameC (cs.getD m 0) = false then (w,h,cs,true) else (0,0,[],false)):=by
 intro d
 induction d with
 | zero =>
  intro i hi
  rw [if_pos (by intro m h1 h2;omega)]
  refine Ev.step (f:=fun k=>some ((w:Int),(h:Int),cs,true)) (fun k=>?_) (Ev.now _)
  rw [spec_tyRead.l1,if_neg o_m]
 | succ d ih =>
  intro i hi
  have h2:=tyRead_l2 cs hl w h i o_m _ (ih (i + 1) o_m) i 0 o_m
  have hc:(if ∀ m,0 ≤ m → m < i → cs.getD m 0 = cs.getD i 0 → isNameC (cs.getD i 0) = false then
    (if ∀ m,i + 1 ≤ m → m < cs.length → ∀ j,j < m → cs.getD j 0 = cs.getD m 0 → isNameC (cs.getD m 0) = false then ((w:Int),(h:Int),cs,true) else (0,0,[],false)) else (0,0,[],false)) =
    (if ∀ m,i ≤ m → m < cs.length → ∀ j,j < m → cs.getD j 0 = cs.getD m 0 → isNameC (cs.getD m 0) = false then ((w:Int),(h:Int),cs,true) else (0,0,[],false)):=by
   by_cases h3:∀ m,i ≤ m → m < cs.length → ∀ j,j < m → cs.getD j 0 = cs.getD m 0 → isNameC (cs.getD m 0) = false
   ·rw [if_pos h3,if_pos (fun m _ hm=>h3 i (Nat.le_refl _) o_m m hm),if_pos (fun m hm=>h3 m o_m)]
   rw [if_neg h3]
   by_cases h4:∀ m,0 ≤ m → m < i → cs.getD m 0 = cs.getD i 0 → isNameC (cs.getD i 0) = false
   rotate_left
   ·rw [if_neg h4]
   rw [if_pos h4,if_neg]
   intro h5
   refine h3 (fun m h6 h7 j h8=>?_)
   rcases Nat.lt_or_ge i m with h9 | h9
   ·exact h5 m h9 h7 j h8
   ·obtain rfl:m = i:=by omega
    exact h4 j (Nat.zero_le _) h8
  rw [hc] at h2
  refine Ev.step (fun k=>?_) h2
  rw [spec_tyRead.l1,if_pos o_m,if_pos o_m,if_pos o_m,if_pos o_m]
  simp only [Option.bind_some,Int.toNat_natCast]
  rfl
theorem tyRead_fin (w h:Nat) (cs:List Int) (hl:cs.length ≤ 100) :
  Ev (fun k=>if (w:Int) > 7 then spec_tyRead.j2 k true w h cs else if (h:Int) > 7 then spec_tyRead.j2 k true w h cs else spec_tyRead.j2 k (decide ((cs.length:Int) > 36)) w h cs) (ansT (finT w h cs)):=by
 have hno:Ev (fun k=>spec_tyRead.j2 k true w h cs) (0,0,[],false):=Ev.step (f:=fun _=>some (0,0,[],false)) (fun k=>by rw [spec_tyRead.j2,if_pos rfl]) (Ev.now _)
 unfold finT
 by_cases h1:(w:Int) > 7
 ·simp only [if_pos h1];rw [if_neg o_m];exact hno
 simp only [if_neg h1]
 by_cases h2:(h:Int) > 7
 ·simp only [if_pos h2];rw [if_neg o_m];exact hno
 simp only [if_neg h2]
 by_cases h3:(cs.length:Int) > 36
 ·simp only [decide_eq_true h3];rw [if_neg o_m];exact hno
 simp only [decide_eq_false h3]
 have h4:=tyRead_l1 cs hl w h cs.length 0 o_m
 have hc:(if ∀ m,0 ≤ m → m < cs.length → ∀ j,j < m → cs.getD j 0 = cs.getD m 0 → isNameC (cs.getD m 0) = false then ((w:Int),(h:Int),cs,true) else (0,0,[],false)) = ansT (if w ≤ 7 ∧ h ≤ 7 ∧ cs.length ≤ 36 ∧ namesOk cs then some (w,h,cs) else none):=by
  unfold namesOk
  by_cases h5:∀ m,m < cs.length → ∀ j,j < m → cs.getD j 0 = cs.getD m 0 → isNameC (cs.getD m 0) = false
  rotate_left
  ·rw [if_neg (fun e=>h5 (fun m=>e m (Nat.zero_le _))),if_neg (fun e=>h5 e.2.2.2)];rfl
  rw [if_pos (fun m _=>h5 m),if_pos ⟨by omega,by omega,by omega,h5⟩];rfl
 rw [hc] at h4
 refine Ev.step (fun k=>?_) h4
 rw [spec_tyRead.j2,if_neg d_c]
 rfl
theorem tyRead_l0 (s:ByteArray) (hs:s.size ≤ 42):∀ (d i x w h:Nat) (cs:List Int),i + d = s.size → x ≤ i → w ≤ i → h ≤ i → cs.length ≤ i →
  Ev (fun k=>spec_tyRead.l0 k s x i w h cs) (ansT ((tyGo ((bytesOf s).drop i) x w h cs).bind fun z=>finT z.1 z.2.1 z.2.2)):=by
 have hno:∀ g:Nat → Option (Int × Int × List Int × Bool),(∀ k,g k = some (0,0,[],false)) → Ev g (0,0,[],false):=fun g hg=>⟨0,fun k _=>hg k⟩
 intro d
 induction d with
 | zero =>
  intro i x w h cs hi hx hw hh hc
  obtain rfl:i = s.size:=by omega
  rw [bytesOf_all,tyGo]
  have hA:∀ k,spec_tyRead.l0 (k + 1) s x s.size w h cs = spec_tyRead.j1 k s x s.size false w h cs:=fun k=>by
   rw [spec_tyRead.l0,if_pos o_m,if_neg o_m]
  refine Ev.step hA ?_
  by_cases hbad:(0 < h ∧ x ≠ w) ∨ x = 0
  rotate_left
  ·rw [if_neg hbad]
   have hfin:=tyRead_fin x (h + 1) cs o_m
   have hB:∀ k,spec_tyRead.j1 (k + 1) s x s.size false w h cs = spec_tyRead.l0 k s 0 (s.size + 1:Nat) x (h + 1:Nat) cs:=fun k=>by
    rw [spec_tyRead.j1,if_neg d_c,w64 (n:=(s.size:Int) + 1) o_m o_m,w64 (n:=(h:Int) + 1) o_m o_m]
    by_cases h0:(h:Int) > 0
    rotate_left
    ·rw [if_neg h0,if_neg o_m];rfl
    rw [if_pos h0,if_pos o_m,if_neg o_m];rfl
   refine Ev.step hB (Ev.step (fun k=>?_) hfin)
   rw [spec_tyRead.l0,if_neg o_m]
  rw [if_pos hbad]
  refine Ev.step (f:=fun _=>some (0,0,[],false)) (fun k=>?_) (Ev.now _)
  rw [spec_tyRead.j1,if_neg d_c]
  by_cases h0:(h:Int) > 0
  rotate_left
  ·rw [if_neg h0,if_pos o_m]
  rw [if_pos h0]
  by_cases hxw:(x:Int) = w
  rotate_left
  ·rw [if_neg hxw]
  rw [if_pos hxw,if_pos o_m]
 | succ d ih =>
  intro i x w h cs hi hx hw hh hc
  have hlt:i < s.size:=by omega
  rw [bytesOf_drop s i hlt,tyGo]
  have hA:∀ k,spec_tyRead.l0 (k + 1) s x i w h cs = spec_tyRead.j1 k s x i (bt s i != 47) w h cs:=fun k=>by
   rw [spec_tyRead.l0,if_pos o_m,if_pos o_m,if_pos o_m]
  refine Ev.step hA ?_
  by_cases h47:bt s i = 47
  rotate_left
  ·rw [if_neg h47]
   have hb:(bt s i != 47) = true:=by simp [h47]
   simp only [hb]
   by_cases hcell:isCellC (bt s i) = true
   rotate_left
   ·rw [if_neg hcell]
    refine Ev.step (f:=fun _=>some (0,0,[],false)) (fun k=>?_) (Ev.now _)
    rw [spec_tyRead.j1,if_pos rfl,if_pos o_m,if_pos o_m,spec_tyIs_eq,Option.bind_some,if_neg hcell]
   rw [if_pos hcell]
   refine Ev.step (fun k=>?_) (ih (i + 1) (x + 1) w h (cs ++ [bt s i]) o_m o_m o_m o_m (by simp;omega))
   rw [spec_tyRead.j1,if_pos rfl,if_pos o_m,if_pos o_m,spec_tyIs_eq,Option.bind_some,if_pos hcell,if_pos o_m,w64 o_m o_m,w64 o_m o_m]
   rfl
  rw [if_pos h47]
  have hb:(bt s i != 47) = false:=by simp [h47]
  simp only [hb]
  by_cases hbad:(0 < h ∧ x ≠ w) ∨ x = 0
  rotate_left
  ·rw [if_neg hbad]
   refine Ev.step (fun k=>?_) (ih (i + 1) 0 x (h + 1) cs o_m o_m o_m o_m o_m)
   rw [spec_tyRead.j1,if_neg d_c,w64 (n:=(i:Int) + 1) o_m o_m,w64 (n:=(h:Int) + 1) o_m o_m]
   by_cases h0:(h:Int) > 0
   rotate_left
   ·rw [if_neg h0,if_neg o_m];rfl
   rw [if_pos h0,if_pos o_m,if_neg o_m];rfl
  rw [if_pos hbad]
  refine Ev.step (f:=fun _=>some (0,0,[],false)) (fun k=>?_) (Ev.now _)
  rw [spec_tyRead.j1,if_neg d_c]
  by_cases h0:(h:Int) > 0
  rotate_left
  ·rw [if_neg h0,if_pos o_m]
  rw [if_pos h0]
  by_cases hxw:(x:Int) = w
  rotate_left
  ·rw [if_neg hxw]
  rw [if_pos hxw,if_pos o_m]
theorem spec_tyRead_ev (s:ByteArray):Ev (fun k=>spec_tyRead.f k s) (ansT (tyGrid (bytesOf s))):=by
 unfold spec_tyRead.f tyGrid
 rw [bytesOf_length]
 by_cases h:(s.size:Int) > 42
 ·simp only [if_pos h];rw [if_pos o_m];exact Ev.now _
 simp only [if_neg h];rw [if_neg o_m]
 have h0:=tyRead_l0 s o_m s.size 0 0 0 0 [] o_m (Nat.le_refl _) (Nat.le_refl _) (Nat.le_refl _) (Nat.le_refl _)
 rw [List.drop_zero] at h0
 cases hg:tyGo (bytesOf s) 0 0 0 [] with
 | none=>rw [hg] at h0;exact h0
 | some z=>rw [hg] at h0;exact h0
end Go.Proofs.YtldhkbiomingbaaGreatDoor.F

namespace Go.Proofs.YtldhkbiomingbaaGreatDoor.F
open Go.Proofs.YtldhkbiomingbaaGreatDoor
open Go.RowKit Go.YW.PrintWords Go.YW.PrintLast Go.YW.PrintMore
attribute [local go_sem] max2_int min2_int max_two min_two max_three min_three max_four min_four
def spec_tyText.l0:Nat → ByteArray → Int → Int → Int → List Int → Option (ByteArray)
 | 0,_,_,_,_,_=>none
 | k + 1,x3,x4,x102000,x102001,x102002=>if x4 < x102001 then (if x4 > 0 then (if x3.size + 1 ≤ 9223372036854775807 then (if 0 ≤ (wrap64 (x4 * x102000)) then (if (wrap64 (x4 * x102000)) ≤ (wrap64 ((wrap64 (x4 + 1)) * x102000)) then (if (wrap64 ((wrap64 (x4 + 1)) * x102000)) ≤ (x102002.length:Int) then (if (x3 ++ (⟨#[47]⟩:ByteArray)).size + (strOfNums ((x102002.take ((wrap64 ((wrap64 (x4 + 1)) * x102000)):Int).toNat).drop ((wrap64 (x4 * x102000)):Int).toNat)).size ≤ 9223372036854775807 then (spec_tyText.l0 k ((x3 ++ (⟨#[47]⟩:ByteArray)) ++ (strOfNums ((x102002.take ((wrap64 ((wrap64 (x4 + 1)) * x102000)):Int).toNat).drop ((wrap64 (x4 * x102000)):Int).toNat))) (wrap64 (x4 + 1)) x102000 x102001 x102002) else (none)) else (none)) else (none)) else (none)) else (none)) else (if 0 ≤ (wrap64 (x4 * x102000)) then (if (wrap64 (x4 * x102000)) ≤ (wrap64 ((wrap64 (x4 + 1)) * x102000)) then (if (wrap64 ((wrap64 (x4 + 1)) * x102000)) ≤ (x102002.length:Int) then (if x3.size + (strOfNums ((x102002.take ((wrap64 ((wrap64 (x4 + 1)) * x102000)):Int).toNat).drop ((wrap64 (x4 * x102000)):Int).toNat)).size ≤ 9223372036854775807 then (spec_tyText.l0 k (x3 ++ (strOfNums ((x102002.take ((wrap64 ((wrap64 (x4 + 1)) * x102000)):Int).toNat).drop ((wrap64 (x4 * x102000)):Int).toNat))) (wrap64 (x4 + 1)) x102000 x102001 x102002) else (none)) else (none)) else (none)) else (none))) else (some x3)
def spec_tyText.f (k:Nat) (a0_0:Int) (a0_1:Int) (l0_2:List Int):Option (ByteArray):=spec_tyText.l0 k (⟨#[]⟩:ByteArray) 0 a0_0 a0_1 l0_2
theorem spec_tyText.mono_l:∀ k,(∀ y0 y1 y2 y3 y4,LeO (spec_tyText.l0 k y0 y1 y2 y3 y4) (spec_tyText.l0 (k + 1) y0 y1 y2 y3 y4))
 | 0=>fun _ _ _ _ _ r h=>by simp [spec_tyText.l0] at h
 | k + 1=>by
  have ih0:=spec_tyText.mono_l k
  ·intro y0 y1 y2 y3 y4
   unfold spec_tyText.l0
   exact mo
theorem spec_tyText.calls (k:Nat) (a0_0:Int) (a0_1:Int) (A0_2:Option Addr) (c0_2:Nat) (l0_2:List Int) (r:ByteArray) (w:World) (hr0_2:Kd.C (Kd.int .u8) w A0_2 l0_2.length l0_2) (hc0_2:l0_2.length ≤ c0_2) (h:spec_tyText.f k a0_0 a0_1 l0_2 = some r) :
  Calls Tryz.prog 65 #[.agg #[.int .i64 a0_0,.int .i64 a0_1,.slice A0_2 l0_2.length c0_2]] w fun e w'=>e = .returned (.string r) ∧ Below w.heap.size w w':=by
 have hu75:=Tryz.underlying75
 have HR0_2:=am hr0_2
 have HC0_2:=am hc0_2
 clear hr0_2 hc0_2
 have HB:=am (Below.refl w.heap.size w)
 have H:(spec_tyText.l0 k (⟨#[]⟩:ByteArray) 0 a0_0 a0_1 l0_2) = some r:=h
 clear h
 have H':=am H
 clear H
 go_enter Tryz.func65,Tryz.ntmps65
 go_wp2_with (first | (refine bx 1 #[.int .i64 a0_0,.int .i64 a0_1,.slice A0_2 l0_2.length c0_2] 75 ?_;intro gb101 hg w2 hbox hb;have BK101:=am (hbox);have GW101:=am ((by rw [hg];exact (below_size aq1):w.heap.size ≤ gb101));have GE101:=GW101;replace HB:=am (below_step aq1 hb);clear hb hbox hg))
 go_loopg [3,4] k (fun kq v3 v4 w'=>∃ (x3_1:ByteArray) (x4_1:Int),v3 = .string x3_1 ∧ v4 = .int .i64 x4_1 ∧ Aside0 (spec_tyText.l0 kq x3_1 x4_1 a0_0 a0_1 l0_2 = some r) ∧ Aside0 (kq ≤ k) ∧ Aside0 (w'.heap[gb101]? = some (.cells #[.int .i64 a0_0,.int .i64 a0_1,(.slice A0_2 l0_2.length c0_2)] 75 (0,0))) ∧ Aside0 (Below w.heap.size w w'))
 case atStart=>exact ⟨((⟨#[]⟩:ByteArray)),(0),aq6,aq6,H',⟨Nat.le_refl _⟩,⟨aq2⟩,⟨aq0⟩⟩
 case round =>
  clear H'
  try clear p2
  obtain ⟨x3_1,x4_1,rfl,rfl,HA,HK1,BK101,HB⟩:=hrel
  cases gk with
  | zero=>exact absurd HA.out (by simp [spec_tyText.l0])
  | succ k1 =>
   have H:=HA.out
   clear HA
   simp only [spec_tyText.l0] at H
   by_cases c3:x4_1 < a0_1
   rotate_left
   ·rw [if_neg c3] at H
    have c3b0:=decide_eq_false c3
    clear c3
    obtain rfl:=Option.some.inj H
    obtain ⟨hcz22_0,hcz22_1,hcz22_2,hfz22_0,hfz22_1,hfz22_2⟩:=blk3_ BK101.out
    go_wp2
    go_ret
    exact ⟨aq8,aq0⟩
   rw [if_pos c3] at H
   have c3b0:=decide_eq_true c3
   clear c3
   by_cases c4:x4_1 > 0
   rotate_left
   ·rw [if_neg c4] at H
    have c4b0:=decide_eq_false c4
    clear c4
    obtain ⟨ji14,hji14⟩:∃ j_:Int,(wrap64 (x4_1 * a0_0)) = j_:=⟨_,rfl⟩
    first | rw [hji14] at H | simp only [hji14] at H
    have hji14w:(IntKind.i64.wrap (x4_1 * a0_0)) = ji14:=(i64_w _).trans hji14
    replace H:=gd H
    obtain ⟨c15,H⟩:=H
    have c15b0:=eq_true c15
    have c15b1:=decide_eq_true c15
    clear c15
    replace H:=gd H
    obtain ⟨c16,H⟩:=H
    have c16b0:=eq_true c16
    have c16b1:=decide_eq_true c16
    replace H:=gd H
    obtain ⟨c17,H⟩:=H
    have c17b0:=eq_true c17
    have c17b1:=decide_eq_true c17
    replace H:=gd H
    obtain ⟨c18,H⟩:=H
    have c18b0:=eq_true c18
    have c18b1:=decide_eq_true c18
    try have c18b2:(9223372036854775807 < x3_1.size + (strOfNums ((l0_2.take ((wrap64 ((wrap64 (x4_1 + 1)) * a0_0)):Int).toNat).drop ((ji14):Int).toNat)).size) = False:=eq_false (Nat.not_lt.2 c18)
    have H':=am H
    clear H
    obtain ⟨hcz19_0,hcz19_1,hcz19_2,hfz19_0,hfz19_1,hfz19_2⟩:=blk3_ BK101.out
    obtain ⟨i020,hi020,_,hsz20,_⟩:=info_parts info5
    obtain ⟨A20,hcut20,hA20,hC20⟩:=print_mid_of (P:=Tryz.prog) (Value.int .u8) 0 63 5 .i64 .i64 Tryz.underlying63 hi020 hsz20 A0_2 c0_2 l0_2 (ji14) (wrap64 ((wrap64 (x4_1 + 1)) * a0_0)) (of_decide_eq_true aq4) (by first | omega | exact of_decide_eq_true aq4) (of_decide_eq_true aq4) HC0_2.out
    have HR103:=am (Kd.C_of_reads (h1:=fun _=>rfl) (hA20 _ (Kd.reads_of_C HR0_2.out)))
    have HC103:=am hC20
    clear hA20 hC20 hi020 hsz20
    have hcv21:=Kd.C_string (P:=Tryz.prog) (A:=A20) (c:=(c0_2 - (ji14).toNat)) Tryz.underlying63 Tryz.underlying5 Tryz.underlying9 (Kd.C_below HR103.out HB.out)
    (try rw [List.length_drop,List.length_take,Nat.min_eq_left (Int.toNat_le.2 (of_decide_eq_true aq4))] at hcv21)
    go_wp2
    go_roundg k1
    case measure=>have:=HK1.out;omega
    case rel=>exact ⟨(x3_1 ++ (strOfNums ((l0_2.take ((wrap64 ((wrap64 (x4_1 + 1)) * a0_0)):Int).toNat).drop ((ji14):Int).toNat))),(wrap64 (x4_1 + 1)),(by first | rfl | (simp;done) | (simp only [← hji14] <;> (first | rfl | simp)) | (simp [*];done)),aq6,H',⟨aq63⟩,⟨aq2⟩,⟨aq0⟩⟩
   rw [if_pos c4] at H
   have c4b0:=decide_eq_true c4
   clear c4
   replace H:=gd H
   obtain ⟨c5,H⟩:=H
   have c5b0:=eq_true c5
   have c5b1:=decide_eq_true c5
   try have c5b2:(9223372036854775807 < x3_1.size + 1) = False:=eq_false (Nat.not_lt.2 c5)
   obtain ⟨ji6,hji6⟩:∃ j_:Int,(wrap64 (x4_1 * a0_0)) = j_:=⟨_,rfl⟩
   first | rw [hji6] at H | simp only [hji6] at H
   have hji6w:(IntKind.i64.wrap (x4_1 * a0_0)) = ji6:=(i64_w _).trans hji6
   replace H:=gd H
   obtain ⟨c7,H⟩:=H
   have c7b0:=eq_true c7
   have c7b1:=decide_eq_true c7
   clear c7
   replace H:=gd H
   obtain ⟨c8,H⟩:=H
   have c8b0:=eq_true c8
   have c8b1:=decide_eq_true c8
   replace H:=gd H
   obtain ⟨c9,H⟩:=H
   have c9b0:=eq_true c9
   have c9b1:=decide_eq_true c9
   replace H:=gd H
   obtain ⟨c10,H⟩:=H
   have c10b0:=eq_true c10
   have c10b1:=decide_eq_true c10
   try have c10b2:(9223372036854775807 < (x3_1 ++ (⟨#[47]⟩:ByteArray)).size + (strOfNums ((l0_2.take ((wrap64 ((wrap64 (x4_1 + 1)) * a0_0)):Int).toNat).drop ((ji6):Int).toNat)).size) = False:=eq_false (Nat.not_lt.2 c10)
   have H':=am H
   clear H
   obtain ⟨hcz11_0,hcz11_1,hcz11_2,hfz11_0,hfz11_1,hfz11_2⟩:=blk3_ BK101.out
   obtain ⟨i012,hi012,_,hsz12,_⟩:=info_parts info5
   obtain ⟨A12,hcut12,hA12,hC12⟩:=print_mid_of (P:=Tryz.prog) (Value.int .u8) 0 63 5 .i64 .i64 Tryz.underlying63 hi012 hsz12 A0_2 c0_2 l0_2 (ji6) (wrap64 ((wrap64 (x4_1 + 1)) * a0_0)) (of_decide_eq_true aq4) (by first | omega | exact of_decide_eq_true aq4) (of_decide_eq_true aq4) HC0_2.out
   have HR102:=am (Kd.C_of_reads (h1:=fun _=>rfl) (hA12 _ (Kd.reads_of_C HR0_2.out)))
   have HC102:=am hC12
   clear hA12 hC12 hi012 hsz12
   have hcv13:=Kd.C_string (P:=Tryz.prog) (A:=A12) (c:=(c0_2 - (ji6).toNat)) Tryz.underlying63 Tryz.underlying5 Tryz.underlying9 (Kd.C_below HR102.out HB.out)
   (try rw [List.length_drop,List.length_take,Nat.min_eq_left (Int.toNat_le.2 (of_decide_eq_true aq4))] at hcv13)
   go_wp2
   go_roundg k1
   case measure=>have:=HK1.out;omega
   case rel=>exact ⟨((x3_1 ++ (⟨#[47]⟩:ByteArray)) ++ (strOfNums ((l0_2.take ((wrap64 ((wrap64 (x4_1 + 1)) * a0_0)):Int).toNat).drop ((ji6):Int).toNat))),(wrap64 (x4_1 + 1)),(by first | rfl | (simp;done) | (simp only [← hji6] <;> (first | rfl | simp)) | (simp [*];done)),aq6,H',⟨aq63⟩,⟨aq2⟩,⟨aq0⟩⟩
end Go.Proofs.YtldhkbiomingbaaGreatDoor.F

namespace Go.Proofs.YtldhkbiomingbaaGreatDoor.F
open Go.RowKit Go.Proofs.YtldhkbiomingbaaGreatDoor Go.YW.PrintWords
theorem w64t {n:Nat} (h:n ≤ 9223372036854775807):wrap64 (n:Int) = n:=w64 o_m o_m
theorem flatten_snoc {α:Type} (f:Nat → List α) (n:Nat):((List.range (n + 1)).map f).flatten = ((List.range n).map f).flatten ++ f n:=by
 rw [List.range_succ,List.map_append,List.flatten_append];simp
theorem map_snoc {α:Type} (f:Nat → α) (n:Nat):(List.range (n + 1)).map f = (List.range n).map f ++ [f n]:=by
 rw [List.range_succ,List.map_append];rfl
def textB (g:(Nat × Nat × List Int)):ByteArray:=strOfNums (textG g)
theorem strOfNums_app (a b:List Int):strOfNums (a ++ b) = strOfNums a ++ strOfNums b:=by
 apply ByteArray.ext
 rw [ByteArray.data_append]
 unfold strOfNums
 simp
theorem strOfNums_len (l:List Int):(strOfNums l).size = l.length:=by
 show ((l.map fun n=>UInt8.ofNat n.toNat).toArray).size = _
 simp
theorem bytesOf_str {l:List Int} (h:∀ c ∈ l,0 ≤ c ∧ c < 256):bytesOf (strOfNums l) = l:=by
 unfold bytesOf strOfNums
 simp only [List.map_map]
 apply List.ext_getElem
 ·simp
 ·intro i a b
  have:=h _ (List.getElem_mem b)
  simp only [List.getElem_map,Function.comp,UInt8.toNat_ofNat']
  omega
theorem joinI_snoc:∀ (rs:List (List Int)) (r:List Int),rs ≠ [] → joinI (rs ++ [r]) = joinI rs ++ 47 :: r
 | [],r,h=>absurd rfl h
 | [a],r,_=>rfl
 | a :: b :: rs,r,_=>by
  have ih:=joinI_snoc (b :: rs) r (by simp)
  show a ++ 47 :: joinI ((b :: rs) ++ [r]) = (a ++ 47 :: joinI (b :: rs)) ++ 47 :: r
  rw [ih];simp
theorem joinI_mem:∀ (rs:List (List Int)) {c:Int},c ∈ joinI rs → c = 47 ∨ ∃ r ∈ rs,c ∈ r
 | [],c,h=>by cases h
 | [a],c,h=>.inr ⟨a,by simp,h⟩
 | a :: b :: rs,c,h=>by
  rw [joinI] at h
  rcases List.mem_append.1 h with h | h
  ·exact .inr ⟨a,by simp,h⟩
  ·rcases List.mem_cons.1 h with h | h
   ·exact .inl h
   ·rcases joinI_mem (b :: rs) h with h | ⟨r,hr,hc⟩
    ·exact .inl h
    ·exact .inr ⟨r,List.mem_cons_of_mem _ hr,hc⟩
theorem cell_byte {c:Int} (h:isCellC c = true):0 ≤ c ∧ c < 256:=by
 unfold isCellC isBallC isNameC at h
 simp at h
 omega
theorem textG_byte {g:(Nat × Nat × List Int)} (v:Vg g):∀ c ∈ textG g,0 ≤ c ∧ c < 256:=by
 intro c hc
 rcases joinI_mem _ hc with h | ⟨r,hr,hcr⟩
 ·omega
 ·exact cell_byte (v.cell c ((rowsOf_mem v.len hr).2 c hcr))
theorem bytesOf_textB {g:(Nat × Nat × List Int)} (v:Vg g):bytesOf (textB g) = textG g:=bytesOf_str (textG_byte v)
theorem textB_inj {g k:(Nat × Nat × List Int)} (hg:Vg g) (hk:Vg k) (h:textB g = textB k):g = k :=
 textG_inj hg hk (by rw [← bytesOf_textB hg,← bytesOf_textB hk,h])
theorem grid_textB {g:(Nat × Nat × List Int)} (v:Vg g):tyGrid (bytesOf (textB g)) = some g:=by rw [bytesOf_textB v];exact tyGrid_text v
theorem textB_grid {s:ByteArray} {g:(Nat × Nat × List Int)} (h:tyGrid (bytesOf s) = some g):Vg g ∧ textB g = s:=by
 obtain ⟨w,hh,cs⟩:=g
 obtain ⟨v,e⟩:=tyGrid_VG h
 exact ⟨v,bytesOf_inj (by rw [bytesOf_textB (g:=(w,hh,cs)) v];exact e)⟩
theorem textG_small {g:(Nat × Nat × List Int)} (v:Vg g):(textG g).length ≤ 42:=by
 have h1:=joinI_length (rowsOf g.1 g.2.1 g.2.2) (rowsOf_ne v.h1)
 rw [rowsOf_flatten _ _ _ v.len,rowsOf_length,v.len] at h1
 have:=v.small
 have:=v.h7
 show (joinI (rowsOf g.1 g.2.1 g.2.2)).length ≤ 42
 omega
theorem textB_small {g:(Nat × Nat × List Int)} (v:Vg g):(textB g).size ≤ 42:=by
 rw [textB,strOfNums_len];exact textG_small v
theorem flat_len (w:Nat) (cs:List Int):∀ i,(rowsOf w i cs).flatten.length ≤ i * w
 | 0=>by simp [rowsOf]
 | i + 1=>by
  have ih:=flat_len w cs i
  unfold rowsOf at ih ⊢
  rw [flatten_snoc,List.length_append,List.length_take,Nat.succ_mul]
  omega
theorem text_ev_l0 {w h:Nat} {cs:List Int} (hw:w ≤ 20) (hh:h ≤ 20) (hl:cs.length = w * h):∀ (d i:Nat),i + d = h →
  Ev (fun k=>spec_tyText.l0 k (strOfNums (joinI (rowsOf w i cs))) i w h cs) (strOfNums (joinI (rowsOf w h cs)))
 | 0,i,hi=>by
  obtain rfl:i = h:=by omega
  refine Ev.step (f:=fun _=>some _) (fun k=>?_) (Ev.now _)
  rw [spec_tyText.l0,if_neg o_m]
 | d + 1,i,hi=>by
  have ih:=text_ev_l0 hw hh hl d (i + 1) o_m
  have hwh:w * h ≤ 400:=Nat.mul_le_mul hw hh
  have hi2:(i + 1) * w ≤ w * h:=by rw [Nat.mul_comm w h];exact Nat.mul_le_mul_right w o_m
  have hi3:(i + 1) * w = i * w + w:=by rw [Nat.add_mul,Nat.one_mul]
  have hrow:(cs.take ((i + 1) * w)).drop (i * w) = (cs.drop (i * w)).take w:=by rw [List.drop_take];congr 1;omega
  have hrl:(strOfNums ((cs.drop (i * w)).take w)).size = w:=by rw [strOfNums_len,List.length_take,List.length_drop];omega
  have hsz:(strOfNums (joinI (rowsOf w i cs))).size ≤ 1000:=by
   rw [strOfNums_len]
   rcases Nat.eq_zero_or_pos i with h0 | h0
   ·subst h0;simp [rowsOf,joinI]
   ·have h1:=joinI_length (rowsOf w i cs) (rowsOf_ne h0)
    have h2:(rowsOf w i cs).flatten.length ≤ 400:=by
     exact Nat.le_trans (flat_len w cs i) (Nat.le_trans (Nat.mul_le_mul (show i ≤ 20 by omega) hw) d_c)
    rw [rowsOf_length] at h1
    omega
  have hnext:strOfNums (joinI (rowsOf w (i + 1) cs)) = if 0 < i then (strOfNums (joinI (rowsOf w i cs)) ++ (⟨#[47]⟩:ByteArray)) ++ strOfNums ((cs.drop (i * w)).take w) else strOfNums (joinI (rowsOf w i cs)) ++ strOfNums ((cs.drop (i * w)).take w):=by
   have hs:rowsOf w (i + 1) cs = rowsOf w i cs ++ [(cs.drop (i * w)).take w]:=map_snoc _ i
   rw [hs]
   rcases Nat.eq_zero_or_pos i with h0 | h0
   ·subst h0
    rw [if_neg o_m]
    rw [← strOfNums_app];rfl
   ·rw [if_pos h0,joinI_snoc _ _ (rowsOf_ne h0),show (47 :: (cs.drop (i * w)).take w:List Int) = [47] ++ (cs.drop (i * w)).take w from rfl,← List.append_assoc,strOfNums_app,strOfNums_app];rfl
  rw [hnext] at ih
  refine Ev.step (fun k=>?_) ih
  have e1:wrap64 ((i:Int) * w) = ((i * w:Nat):Int):=by rw [← Int.natCast_mul];exact w64t o_m
  have e2:wrap64 ((((i + 1:Nat):Int)) * w) = (((i + 1) * w:Nat):Int):=by rw [← Int.natCast_mul];exact w64t (by clear e1;omega)
  have e3:wrap64 ((i:Int) + 1) = ((i + 1:Nat):Int):=w64t (n:=i + 1) (by clear e1 e2;omega)
  rw [spec_tyText.l0,e3,e1,e2]
  clear e1 e2 e3
  rw [if_pos o_m]
  by_cases h0:(i:Int) > 0
  rotate_left
  ·rw [if_neg h0,if_pos o_m,if_pos o_m,if_pos o_m,Int.toNat_natCast,Int.toNat_natCast,hrow,if_pos,if_neg (show ¬ 0 < i by omega)]
   rw [hrl];omega
  rw [if_pos h0,if_pos o_m,if_pos o_m,if_pos o_m,if_pos o_m,Int.toNat_natCast,Int.toNat_natCast,hrow,if_pos,if_pos (show 0 < i by omega)]
  rw [ByteArray.size_append,hrl]
  show (strOfNums (joinI (rowsOf w i cs))).size + 1 + w ≤ _
  omega
theorem spec_text_ev {w h:Nat} {cs:List Int} (hw:w ≤ 20) (hh:h ≤ 20) (hl:cs.length = w * h):Ev (fun k=>spec_tyText.f k w h cs) (textB (w,h,cs)):=by
 have h1:=text_ev_l0 hw hh hl h 0 o_m
 exact Ev.congr (fun k=>by rfl) h1
theorem join_strs:∀ rs:List (List Int),Lib.join ((rs.map strOfNums).map (·.data.toList)) [47] = (joinI rs).map fun n=>UInt8.ofNat n.toNat
 | []=>rfl
 | [a]=>by simp [Lib.join,joinI,strOfNums]
 | a :: b :: rs=>by
  have ih:=join_strs (b :: rs)
  rw [joinI]
  unfold Lib.join List.intercalate at ih ⊢
  simp only [List.map_cons] at ih ⊢
  rw [List.intersperse,List.flatten_cons,List.flatten_cons,ih]
  ·simp [strOfNums]
  all_goals simp
theorem impl_text_eq {g:(Nat × Nat × List Int)} (v:Vg g):impl_tray_text.f g.1 g.2.1 g.2.2 = some (textB g):=by
 obtain ⟨w,h,cs⟩:=g
 have hl:cs.length = w * h:=v.len
 have hw1:1 ≤ w:=v.w1
 have hw7:w ≤ 7:=v.w7
 have hh1:1 ≤ h:=v.h1
 have hs:w * h ≤ 36:=v.small
 have h0:0 < w * h:=Nat.mul_pos hw1 hh1
 have hd:cs.length / w = h:=by rw [hl,Nat.mul_div_cancel_left h o_m]
 have hck:chunksB w cs = (rowsOf w h cs).map strOfNums:=by
  unfold chunksB rowsOf
  rw [hd,List.map_map];rfl
 have htl:=textG_small v
 have hj:=join_strs (rowsOf w h cs)
 have hjl:(joinI (rowsOf w h cs)).length ≤ 42:=htl
 show impl_tray_text.f w h cs = _
 unfold impl_tray_text.f
 rw [if_pos ⟨by omega,by omega,by omega,by rw [Int.toNat_natCast,hl];exact Nat.mul_mod_right w h,by omega⟩,Int.toNat_natCast,hck]
 unfold strings_Join.f
 rw [if_pos]
 ·unfold joinB
  show some (⟨(Lib.join (((rowsOf w h cs).map strOfNums).map (·.data.toList)) [47]).toArray⟩:ByteArray) = _
  rw [hj];rfl
 ·refine ⟨by rw [List.length_map,rowsOf_length];have:=v.h7;simp only at this;omega,?_⟩
  show (Lib.join (((rowsOf w h cs).map strOfNums).map (·.data.toList)) [47]).length ≤ _
  rw [hj,List.length_map]
  omega
end Go.Proofs.YtldhkbiomingbaaGreatDoor.F

namespace Go.Proofs.YtldhkbiomingbaaGreatDoor.F
open Go.RowKit Go.Proofs.YtldhkbiomingbaaGreatDoor Go.YW.PrintWords Classical
theorem impl_isSize_eq (w h:Int) (hw:0 ≤ w ∧ w ≤ 4294967296) (hh:0 ≤ h ∧ h ≤ 4294967296):impl_isSize.f w h = some (decide ((1 ≤ w ∧ w ≤ 7) ∧ (1 ≤ h ∧ h ≤ 7) ∧ w * h ≤ 36)):=by
 unfold impl_isSize.f impl_within.f
 by_cases h1:1 ≤ w
 rotate_left
 ·simp [h1]
 by_cases h2:w ≤ 7
 rotate_left
 ·simp [h1,h2]
 by_cases h3:1 ≤ h
 rotate_left
 ·simp [h1,h2,h3]
 by_cases h4:h ≤ 7
 rotate_left
 ·simp [h1,h2,h3,h4]
 have h5:w * h ≤ 7 * 7:=Int.mul_le_mul h2 h4 o_m o_m
 have h6:0 ≤ w * h:=Int.mul_nonneg o_m o_m
 simp [h1,h2,h3,h4,w64 (n:=w * h) o_m o_m]
theorem dropWhile_nil {α:Type} (p:α → Bool):∀ l:List α,l.dropWhile p = [] ↔ ∀ a ∈ l,p a = true
 | []=>by simp
 | a :: l=>by
  rw [List.dropWhile_cons]
  by_cases h:p a = true
  rotate_left
  ·rw [if_neg h];simp [h]
  rw [if_pos h,dropWhile_nil p l];simp [h]
theorem trimS_nil_iff (l cs:List UInt8):Lib.trimS l cs = [] ↔ ∀ b ∈ l,b ∈ cs:=by
 unfold Lib.trimS Lib.trimLeftS Lib.trimRightS
 rw [dropWhile_nil]
 constructor
 ·intro h b hb
  rcases Classical.em (∀ b ∈ l,cs.contains b = true) with h1 | h1
  ·simpa using h1 b hb
  ·exfalso
   have h2:¬ l.reverse.dropWhile (cs.contains ·) = []:=by
    rw [dropWhile_nil]
    intro h3;exact h1 (fun b hb=>h3 b (List.mem_reverse.2 hb))
   have h3:=List.head_dropWhile_not (cs.contains ·) (l:=l.reverse) h2
   have h4:=h ((l.reverse.dropWhile (cs.contains ·)).head h2) (List.mem_reverse.2 (List.head_mem h2))
   rw [h3] at h4;cases h4
 ·intro h b hb
  have:b ∈ l:=by
   have h1:=List.mem_reverse.1 hb
   exact List.mem_reverse.1 ((List.dropWhile_sublist _).subset h1)
  simpa using h b this
theorem toList_nil_iff (s:ByteArray):s.toList = [] ↔ s.data.toList = []:=by rw [Lib.toList_data]
theorem trim_nil (s cut t:ByteArray) (hs:s.size ≤ 9223372036854775807) (hc:cut.size < 4294967281) (ha:asciiB cut = true) :
  ∃ t,strings_Trim.f s cut = some t ∧ (t.toList = [] ↔ ∀ c ∈ bytesOf s,c ∈ bytesOf cut):=by
 refine ⟨_,if_pos ⟨hs,hc,ha⟩,?_⟩
 rw [toList_nil_iff]
 simp only [trimS_nil_iff]
 unfold bytesOf
 constructor
 ·intro h c hcm
  obtain ⟨b,hb,rfl⟩:=List.mem_map.1 hcm
  exact List.mem_map.2 ⟨b,h b hb,rfl⟩
 ·intro h b hb
  obtain ⟨b',hb',he⟩:=List.mem_map.1 (h _ (List.mem_map.2 ⟨b,hb,rfl⟩))
  have:b' = b:=UInt8.toNat_inj.1 o_m
  rwa [← this]
theorem cellSet (c:Int):c ∈ bytesOf (⟨#[35,46,111,97,98,99,100,101,102]⟩:ByteArray) ↔ isCellC c = true:=by
 have:bytesOf (⟨#[35,46,111,97,98,99,100,101,102]⟩:ByteArray) = [35,46,111,97,98,99,100,101,102]:=by decide
 rw [this]
 unfold isCellC isBallC isNameC
 simp
 omega
theorem count_rune (s:ByteArray) (n:Nat) (h1:97 ≤ n) (h2:n ≤ 102):strings_Count.f s (Utf8.encode n) = some (((bytesOf s).count (n:Int):Nat):Int):=by
 have he:Utf8.encode (n:Int) = ⟨#[UInt8.ofNat n]⟩:=by
  have:n = 97 ∨ n = 98 ∨ n = 99 ∨ n = 100 ∨ n = 101 ∨ n = 102:=by omega
  rcases this with rfl | rfl | rfl | rfl | rfl | rfl <;> rfl
 rw [he]
 have h3:strings_Count.f s ⟨#[UInt8.ofNat n]⟩ = some ((Lib.countByte s.data.toList (UInt8.ofNat n):Nat):Int):=if_pos rfl
 rw [h3]
 have hco:Lib.countByte s.data.toList (UInt8.ofNat n) = (bytesOf s).count (n:Int):=?_
 ·rw [hco]
 unfold Lib.countByte bytesOf
 have hn:(UInt8.ofNat n).toNat = n:=by
  rw [UInt8.toNat_ofNat'];omega
 rw [List.count_eq_countP,List.count_eq_countP,List.countP_map]
 apply List.countP_congr
 intro b _
 simp only [beq_iff_eq,Function.comp]
 constructor
 ·rintro rfl;omega
 ·intro h;exact UInt8.toNat_inj.1 o_m
theorem IsTray_l1 (s:ByteArray):∀ (d n:Nat),n + d = 103 → 97 ≤ n → 
  Ev (fun k=>impl_IsTray.l1 k s n) (decide (∀ m:Int,n ≤ m → m ≤ 102 → (bytesOf s).count m ≤ 1)):=by
 intro d
 induction d with
 | zero =>
  intro n hn _
  rw [decide_eq_true (by intro m h1 h2;omega)]
  exact Ev.step (f:=fun _=>some true) (fun k=>by rw [impl_IsTray.l1,if_neg o_m]) (Ev.now _)
 | succ d ih =>
  intro n hn h97
  have hih:=ih (n + 1) o_m o_m
  by_cases hc:(bytesOf s).count (n:Int) > 1
  ·rw [decide_eq_false (by intro h;have:=h n (Int.le_refl _) o_m;omega)]
   refine Ev.step (f:=fun _=>some false) (fun k=>?_) (Ev.now _)
   rw [impl_IsTray.l1,if_pos o_m,count_rune s n h97 o_m,Option.bind_some,if_pos o_m]
  have he:(∀ m:Int,n ≤ m → m ≤ 102 → (bytesOf s).count m ≤ 1) ↔ (∀ m:Int,(n + 1:Nat) ≤ m → m ≤ 102 → (bytesOf s).count m ≤ 1):=by
   constructor
   ·intro h m h1 h2;exact h m o_m h2
   ·intro h m h1 h2
    rcases Int.lt_or_le n m with h3 | h3
    ·exact h m o_m h2
    ·obtain rfl:m = n:=by omega
     omega
  simp only [he]
  refine Ev.step (fun k=>?_) hih
  rw [impl_IsTray.l1,if_pos o_m,count_rune s n h97 o_m,Option.bind_some,if_neg o_m,w32 o_m o_m]
  rfl
theorem IsTray_l0 (s:ByteArray) (rows:List ByteArray) (r0:ByteArray) (rest:List ByteArray) (hr:rows = r0 :: rest) (hl:rows.length ≤ 4294967296) (hb:∀ r ∈ rows,r.size ≤ 4294967296):∀ (d i:Nat),i + d = rows.length →
  Ev (fun k=>impl_IsTray.l0 k s rows rows rows.length i) (decide ((∀ r ∈ rows.drop i,r.size = r0.size ∧ ∀ c ∈ bytesOf r,isCellC c = true) ∧ ∀ m:Int,97 ≤ m → m ≤ 102 → (bytesOf s).count m ≤ 1)):=by
 intro d
 induction d with
 | zero =>
  intro i hi
  have hd:rows.drop i = []:=by rw [List.drop_eq_nil_iff];omega
  have h1:=IsTray_l1 s 6 97 o_m o_m
  have he:((∀ r ∈ rows.drop i,r.size = r0.size ∧ ∀ c ∈ bytesOf r,isCellC c = true) ∧ ∀ m:Int,97 ≤ m → m ≤ 102 → (bytesOf s).count m ≤ 1) ↔ (∀ m:Int,(97:Nat) ≤ m → m ≤ 102 → (bytesOf s).count m ≤ 1):=by
   rw [hd];simp
  simp only [he]
  exact Ev.step (fun k=>by rw [impl_IsTray.l0,if_neg o_m];rfl) h1
 | succ d ih =>
  intro i hi
  have hih:=ih (i + 1) o_m
  have hlt:i < rows.length:=by omega
  have hd:rows.drop i = rows[i] :: rows.drop (i + 1):=List.drop_eq_getElem_cons hlt
  have hri:rdOf ByteArray.empty rows (i:Int) = rows[i]:=by
   unfold rdOf;rw [Int.toNat_natCast,List.getD_eq_getElem?_getD,List.getElem?_eq_getElem hlt];rfl
  have hr0:rdOf ByteArray.empty rows 0 = r0:=by unfold rdOf;rw [hr];rfl
  have hsz:rows[i].size ≤ 4294967296:=hb _ (List.getElem_mem ..)
  have hstep:∀ k,impl_IsTray.l0 (k + 1) s rows rows rows.length i = (if ((rows[i]).size:Int) = (r0.size:Int) then ((strings_Trim.f (rows[i]) (⟨#[35,46,111,97,98,99,100,101,102]⟩:ByteArray)).bind fun t141=>(if t141.toList = ([]:List UInt8) then (impl_IsTray.l0 k s rows rows rows.length (i + 1:Nat)) else (some false))) else (some false)):=fun k=>by
   rw [impl_IsTray.l0,if_pos o_m,if_pos o_m,if_pos o_m,if_pos o_m,hri,hr0,w64 o_m o_m]
   rfl
  refine Ev.step hstep ?_
  by_cases hz:rows[i].size = r0.size
  rotate_left
  ·simp only [if_neg (show ¬ (rows[i].size:Int) = r0.size by omega)]
   rw [decide_eq_false]
   ·exact Ev.now _
   ·rintro ⟨h1,_⟩
    exact hz (h1 rows[i] (by rw [hd];exact List.mem_cons_self ..)).1
  simp only [if_pos (show (rows[i].size:Int) = r0.size by omega)]
  obtain ⟨t,ht,hiff⟩:=trim_nil rows[i] (⟨#[35,46,111,97,98,99,100,101,102]⟩:ByteArray) ByteArray.empty o_m d_c d_c
  rw [ht]
  simp only [Option.bind_some]
  by_cases hc:∀ c ∈ bytesOf rows[i],isCellC c = true
  rotate_left
  ·simp only [if_neg (fun e=>hc fun c hcm=>(cellSet c).1 (hiff.1 e c hcm))]
   rw [decide_eq_false]
   ·exact Ev.now _
   ·rintro ⟨h1,_⟩
    exact hc (h1 rows[i] (by rw [hd];exact List.mem_cons_self ..)).2
  simp only [if_pos (hiff.2 fun c hcm=>(cellSet c).2 (hc c hcm))]
  have he:((∀ r ∈ rows.drop i,r.size = r0.size ∧ ∀ c ∈ bytesOf r,isCellC c = true) ∧ ∀ m:Int,97 ≤ m → m ≤ 102 → (bytesOf s).count m ≤ 1) ↔ ((∀ r ∈ rows.drop (i + 1),r.size = r0.size ∧ ∀ c ∈ bytesOf r,isCellC c = true) ∧ ∀ m:Int,97 ≤ m → m ≤ 102 → (bytesOf s).count m ≤ 1):=by
   rw [hd];simp only [List.mem_cons,forall_eq_or_imp]
   constructor
   ·rintro ⟨⟨_,h2⟩,h3⟩;exact ⟨h2,h3⟩
   ·rintro ⟨h2,h3⟩;exact ⟨⟨⟨hz,hc⟩,h2⟩,h3⟩
  simp only [he]
  exact hih
theorem impl_IsTray_ev (s:ByteArray) (hs:s.size < 4294967281):Ev (fun k=>impl_IsTray.f k s) (tyGrid (bytesOf s)).isSome:=by
 have hsp:strings_Split.f s (⟨#[47]⟩:ByteArray) = some (rowsB 47 s):=if_pos ⟨hs,rfl⟩
 have hmap:(rowsB 47 s).map bytesOf = rowsI 47 (bytesOf s):=rowsB_bytes 47 s
 cases hr:rowsI 47 (bytesOf s) with
 | nil=>exact absurd hr (rowsI_ne _ _)
 | cons q qs =>
  have hlen:=rowsI_length 47 (bytesOf s) q qs hr
  rw [bytesOf_length] at hlen
  rw [hr] at hmap
  cases hrb:rowsB 47 s with
  | nil=>rw [hrb] at hmap;cases hmap
  | cons r0 rest =>
   rw [hrb,List.map_cons,List.cons.injEq] at hmap
   obtain ⟨hq,hqs⟩:=hmap
   have hq0:q.length = r0.size:=by rw [← hq,bytesOf_length]
   have hql:qs.length = rest.length:=by rw [← hqs,List.length_map]
   have hrow:∀ r ∈ r0 :: rest,r.size ≤ 4294967296:=by
    intro r hm
    rcases List.mem_cons.1 hm with rfl | hm
    ·omega
    ·have h1:bytesOf r ∈ qs:=by rw [← hqs];exact List.mem_map.2 ⟨r,hm,rfl⟩
     have h2:=(List.sublist_flatten_of_mem h1).length_le
     rw [bytesOf_length] at h2;omega
   have hiff:(tyGrid (bytesOf s)).isSome = decide (((1 ≤ (r0.size:Int) ∧ (r0.size:Int) ≤ 7) ∧ (1 ≤ ((r0 :: rest).length:Int) ∧ ((r0 :: rest).length:Int) ≤ 7) ∧ (r0.size:Int) * ((r0 :: rest).length:Int) ≤ 36) ∧
     (∀ r ∈ (r0 :: rest).drop 0,r.size = r0.size ∧ ∀ c ∈ bytesOf r,isCellC c = true) ∧ ∀ m:Int,97 ≤ m → m ≤ 102 → (bytesOf s).count m ≤ 1):=by
    rw [Bool.eq_iff_iff,tyGrid_iff,decide_eq_true_iff]
    unfold rowsTray
    rw [hr]
    simp only [List.headD_cons,List.length_cons,List.drop_zero,hq0,hql]
    have hg:rowsGood r0.size (q :: qs) ↔ (∀ r ∈ r0 :: rest,r.size = r0.size ∧ ∀ c ∈ bytesOf r,isCellC c = true):=by
     unfold rowsGood
     have e:q :: qs = (r0 :: rest).map bytesOf:=by rw [List.map_cons,hq,hqs]
     rw [e]
     constructor
     ·intro h r hm
      have:=h (bytesOf r) (List.mem_map.2 ⟨r,hm,rfl⟩)
      rwa [bytesOf_length] at this
     ·intro h z hz
      obtain ⟨r,hm,rfl⟩:=List.mem_map.1 hz
      have:=h r hm
      rwa [bytesOf_length]
    rw [hg]
    have hmul:(r0.size:Int) * ((rest.length + 1:Nat):Int) ≤ 36 ↔ r0.size * (rest.length + 1) ≤ 36:=by
     rw [← Int.natCast_mul];omega
    rw [hmul]
    constructor
    ·rintro ⟨h1,h2,h3,h4,h5⟩;exact ⟨⟨by omega,by omega,h3⟩,h4,h5⟩
    ·rintro ⟨⟨h1,h2,h3⟩,h4,h5⟩;exact ⟨by omega,by omega,h3,h4,h5⟩
   rw [hiff]
   unfold impl_IsTray.f
   rw [hsp,hrb]
   simp only [Option.bind_some]
   have h00:rdOf ByteArray.empty (r0 :: rest) 0 = r0:=rfl
   have hln:(r0 :: rest).length ≤ 4294967296:=by simp only [List.length_cons];omega
   simp only [if_pos (show (0:Int) < ((r0 :: rest).length:Int) by simp only [List.length_cons];omega),h00,impl_isSize_eq (r0.size:Int) ((r0 :: rest).length:Int) o_m o_m,Option.bind_some]
   by_cases hsize:(1 ≤ (r0.size:Int) ∧ (r0.size:Int) ≤ 7) ∧ (1 ≤ ((r0 :: rest).length:Int) ∧ ((r0 :: rest).length:Int) ≤ 7) ∧ (r0.size:Int) * ((r0 :: rest).length:Int) ≤ 36
   rotate_left
   ·simp only [decide_eq_false hsize]
    rw [decide_eq_false (fun e=>hsize e.1)]
    exact Ev.now _
   simp only [decide_eq_true hsize,if_true]
   have h0:=IsTray_l0 s (r0 :: rest) r0 rest rfl hln hrow (r0 :: rest).length 0 o_m
   simp only [hsize,true_and]
   exact h0
end Go.Proofs.YtldhkbiomingbaaGreatDoor.F

namespace Go.Proofs.YtldhkbiomingbaaGreatDoor.F
open Go.Proofs.YtldhkbiomingbaaGreatDoor
open Go.RowKit Go.YW.PrintWords Go.YW.PrintLast Go.YW.PrintMore
attribute [local go_sem] max2_int min2_int max_two min_two max_three min_three max_four min_four
def impl_read.f (a0:ByteArray):Option (Int × Int × List Int):=(strings_Split.f a0 (⟨#[47]⟩:ByteArray)).bind fun t102=>(if 0 < (t102.length:Int) then ((strings_Join.f t102 (⟨#[]⟩:ByteArray)).bind fun t106=>((conv_bytes.f t106).bind fun t107=>(some (((rdOf ByteArray.empty t102 0).size:Int),(t102.length:Int),t107)))) else (none))
def impl_read.T2:Bool × List (List Nat × List Nat):=(true,[([],[]),([0],[0]),([1],[1]),([2],[2]),([],[]),([4],[4]),([],[]),([6],[6]),([7],[7]),([3,5,8],[3,5,8]),([9,7,0,1,2,3,4,5,6,7,8,9],[9])])
def impl_read.B2:List Nat:=[0,1,3,7,0,16,0,64,192,511,1023]
theorem impl_read.tab2:rtab .any (opsOf Tryz.f51 2) = impl_read.T2:=by kernel_rfl
theorem impl_read.bits2:waitsOk impl_read.T2.2 impl_read.B2 = true:=by kernel_rfl
end Go.Proofs.YtldhkbiomingbaaGreatDoor.F

namespace Go.Proofs.YtldhkbiomingbaaGreatDoor.F
open Go.RowKit Go.Proofs.YtldhkbiomingbaaGreatDoor Go.YW.PrintWords
theorem tyGrid_some {l:List Int} {w h:Nat} {cs:List Int} (hg:tyGrid l = some (w,h,cs)) :
  (1 ≤ w ∧ w ≤ 7) ∧ (1 ≤ h ∧ h ≤ 7) ∧ cs.length = w * h ∧ w * h ≤ 36 ∧ l.length ≤ 42 ∧ cs = (rowsI 47 l).flatten ∧ w = ((rowsI 47 l).headD []).length ∧ h = (rowsI 47 l).length:=by
 have hs:rowsTray l:=(tyGrid_iff l).1 (by rw [hg];rfl)
 unfold tyGrid at hg
 split at hg
 ·cases hg
 rename_i h42
 cases hr:rowsI 47 l with
 | nil=>exact absurd hr (rowsI_ne _ _)
 | cons r rs =>
  rw [tyGo_start l r rs hr] at hg
  unfold rowsTray at hs
  rw [hr] at hs
  by_cases hc:0 < r.length ∧ rowsGood r.length (r :: rs)
  rotate_left
  ·rw [if_neg hc] at hg
   cases hg
  rw [if_pos hc] at hg
  simp only at hg
  split at hg
  ·rename_i hd
   injection hg with hg
   simp only [Prod.mk.injEq] at hg
   obtain ⟨rfl,rfl,rfl⟩:=hg
   have hf:=rowsGood_flatten hc.2
   simp only [List.length_cons] at hf
   simp only [List.headD_cons,List.length_cons] at hs ⊢
   refine ⟨hs.1,hs.2.1,hf,hs.2.2.1,by omega,?_⟩
   simp
  ·cases hg
theorem join_nil:∀ xs:List (List UInt8),Lib.join xs [] = xs.flatten
 | []=>rfl
 | [a]=>by simp [Lib.join,List.intercalate]
 | a :: b :: l=>by
  have ih:=join_nil (b :: l)
  unfold Lib.join List.intercalate at ih ⊢
  rw [List.intersperse,List.flatten_cons,List.flatten_cons,ih]
  ·simp
  all_goals simp
theorem impl_read_eq (s:ByteArray) {w h:Nat} {cs:List Int} (hg:tyGrid (bytesOf s) = some (w,h,cs)):impl_read.f s = some ((w:Int),(h:Int),cs):=by
 obtain ⟨hw,hh,hl,h36,h42,hcs,hwr,hhr⟩:=tyGrid_some hg
 rw [bytesOf_length] at h42
 have hsp:strings_Split.f s (⟨#[47]⟩:ByteArray) = some (rowsB 47 s):=if_pos ⟨by omega,rfl⟩
 have hmap:(rowsB 47 s).map bytesOf = rowsI 47 (bytesOf s):=rowsB_bytes 47 s
 have hjl:(Lib.join ((rowsB 47 s).map (·.data.toList)) []) = ((rowsB 47 s).map (·.data.toList)).flatten:=join_nil _
 have hbj:bytesOf (joinB (rowsB 47 s) ⟨#[]⟩) = cs:=by
  unfold joinB
  show ((Lib.join ((rowsB 47 s).map (·.data.toList)) []).map fun b:UInt8=>(b.toNat:Int)) = cs
  rw [hjl,List.map_flatten,List.map_map,hcs,← hmap]
  rfl
 have hjs:(joinB (rowsB 47 s) ⟨#[]⟩).size = w * h:=by rw [← bytesOf_length,hbj,hl]
 have hrl:(rowsB 47 s).length = h:=by rw [hhr,← hmap,List.length_map]
 have hjoin:strings_Join.f (rowsB 47 s) (⟨#[]⟩:ByteArray) = some (joinB (rowsB 47 s) ⟨#[]⟩):=by
  refine if_pos ⟨by omega,?_⟩
  have:(Lib.join ((rowsB 47 s).map (·.data.toList)) ([]:List UInt8)).length = w * h:=by
   rw [← hjs];rfl
  show (Lib.join ((rowsB 47 s).map (·.data.toList)) ([]:List UInt8)).length ≤ _
  omega
 have hr0:((rdOf ByteArray.empty (rowsB 47 s) 0).size:Int) = w:=by
  rw [hwr,← hmap]
  cases hrb:rowsB 47 s with
  | nil=>rw [hrb] at hrl;simp at hrl;omega
  | cons a t =>
   show ((a.size:Nat):Int) = _
   simp [bytesOf_length]
 rw [impl_read.f,hsp,Option.bind_some,if_pos o_m,hjoin,Option.bind_some,conv_bytes.f,if_pos o_m,Option.bind_some,hr0,hrl,hbj]
end Go.Proofs.YtldhkbiomingbaaGreatDoor.F

namespace Go.Proofs.YtldhkbiomingbaaGreatDoor.F
open Go.Proofs.YtldhkbiomingbaaGreatDoor
open Go.RowKit Go.YW.PrintWords Go.YW.PrintLast Go.YW.PrintMore
attribute [local go_sem] max2_int min2_int max_two min_two max_three min_three max_four min_four
def slices_Index_byte_byte.l0:Nat → List Int → Int → Int → Int → Option (Int)
 | 0,_,_,_,_=>none
 | k + 1,x0,x1,x7,x8=>if x8 < x7 then (if 0 ≤ x8 then (if x8 < (x0.length:Int) then (if x1 = (rd x0 x8) then (some x8) else (slices_Index_byte_byte.l0 k x0 x1 x7 (wrap64 (x8 + 1)))) else (none)) else (none)) else (some (-1))
def slices_Index_byte_byte.f (k:Nat) (l0:List Int) (a1:Int):Option (Int):=slices_Index_byte_byte.l0 k l0 a1 (l0.length:Int) 0
theorem slices_Index_byte_byte.mono_l:∀ k,(∀ y0 y1 y2 y3,LeO (slices_Index_byte_byte.l0 k y0 y1 y2 y3) (slices_Index_byte_byte.l0 (k + 1) y0 y1 y2 y3))
 | 0=>fun _ _ _ _ r h=>by simp [slices_Index_byte_byte.l0] at h
 | k + 1=>by
  have ih0:=slices_Index_byte_byte.mono_l k
  ·intro y0 y1 y2 y3
   unfold slices_Index_byte_byte.l0
   exact mo
theorem slices_Index_byte_byte.mono:∀ a0 a1 k,LeO (slices_Index_byte_byte.f k a0 a1) (slices_Index_byte_byte.f (k + 1) a0 a1):=by
 intro a0 a1 k
 have ih0:=slices_Index_byte_byte.mono_l k
 unfold slices_Index_byte_byte.f
 exact mo
def impl_cellOf.j0:Nat → ByteArray → ByteArray → Bool → Option (Int × Bool)
 | 0,_,_,_=>none
 | k + 1,x0,x1,x20=>if x20 = true then (some (0,false)) else ((impl_read.f x0).bind fun bt103=>(if 0 < (x1.size:Int) then ((slices_Index_byte_byte.f k bt103.2.2 (bt x1 0)).bind fun t108=>(some (t108,decide (t108 ≥ 0)))) else (none)))
theorem impl_cellOf.mono_l:∀ k,(∀ y0 y1 y2,LeO (impl_cellOf.j0 k y0 y1 y2) (impl_cellOf.j0 (k + 1) y0 y1 y2))
 | 0=>fun _ _ _ r h=>by simp [impl_cellOf.j0] at h
 | k + 1=>by
  have ih0:=impl_cellOf.mono_l k
  ·intro y0 y1 y2
   unfold impl_cellOf.j0
   have im0:=@impl_IsTray.mono;have im1:=@slices_Index_byte_byte.mono;exact mo
end Go.Proofs.YtldhkbiomingbaaGreatDoor.F

namespace Go.Proofs.YtldhkbiomingbaaGreatDoor.F
open Go.RowKit Go.Proofs.YtldhkbiomingbaaGreatDoor Go.YW.PrintWords
def firstAt (cs:List Int) (c:Int):Nat:=cs.findIdx (· == c)
theorem first_split {cs:List Int} {c:Int} {i:Nat} (h:∀ j,j < i → ∀ hj:j < cs.length,cs[j] ≠ c) (hi:i < cs.length) (he:cs[i] = c):firstAt cs c = i:=by
 unfold firstAt
 rw [List.findIdx_eq hi]
 refine ⟨by rw [he];exact beq_self_eq_true _,fun j hj=>?_⟩
 have:=h j hj o_m
 simpa using this
theorem first_none {cs:List Int} {c:Int} (h:∀ j,∀ hj:j < cs.length,cs[j] ≠ c):firstAt cs c = cs.length:=by
 unfold firstAt
 rw [List.findIdx_eq_length]
 intro x hx
 obtain ⟨j,hj,rfl⟩:=List.getElem_of_mem hx
 have:=h j hj
 simpa using this
theorem index_l0 {cs:List Int} (hl:cs.length ≤ 1000) (c:Int):∀ (d i:Nat),i + d = cs.length → (∀ j,j < i → ∀ hj:j < cs.length,cs[j] ≠ c) →
  Ev (fun k=>slices_Index_byte_byte.l0 k cs c (cs.length:Int) i) (if firstAt cs c < cs.length then (firstAt cs c:Int) else -1)
 | 0,i,hi,hn=>by
  obtain rfl:i = cs.length:=by omega
  rw [first_none (fun j hj=>hn j hj hj),if_neg o_m]
  refine Ev.step (f:=fun _=>some (-1)) (fun k=>?_) (Ev.now _)
  rw [slices_Index_byte_byte.l0,if_neg o_m]
 | d + 1,i,hi,hn=>by
  have hlt:i < cs.length:=by omega
  have hrd:rd cs (i:Int) = cs[i]:=by unfold rd;rw [Int.toNat_natCast,List.getD_eq_getElem?_getD,List.getElem?_eq_getElem hlt];rfl
  by_cases he:c = cs[i]
  ·rw [first_split hn hlt he.symm,if_pos hlt]
   refine Ev.step (f:=fun _=>some (i:Int)) (fun k=>?_) (Ev.now _)
   rw [slices_Index_byte_byte.l0,if_pos o_m,if_pos o_m,if_pos o_m,hrd,if_pos he]
  have ih:=index_l0 hl c d (i + 1) o_m (fun j hj hj'=>by
   by_cases e:j = i
   ·subst e;exact fun h=>he h.symm
   ·exact hn j o_m hj')
  refine Ev.step (fun k=>?_) ih
  rw [slices_Index_byte_byte.l0,if_pos o_m,if_pos o_m,if_pos o_m,hrd,if_neg he,show (i:Int) + 1 = ((i + 1:Nat):Int) by omega,w64t o_m]
end Go.Proofs.YtldhkbiomingbaaGreatDoor.F

namespace Go.Proofs.YtldhkbiomingbaaGreatDoor
open Go.RowKit Go.Maps
def litS (b:ByteArray):Lit:=.string b.data.toList
theorem litS_inj {a b:ByteArray} (h:litS a = litS b):a = b:=by
 unfold litS at h
 injection h with h
 apply ByteArray.ext
 exact Array.toList_inj.1 h
theorem litS_key (a:ByteArray):WideAt.IsKeyLit (litS a):=trivial
def placesD (L:List ByteArray):DataW Unit:=L.zipIdx.foldl (fun D p=>D.put (litS p.1) (.lit (litN p.2))) (.map [])
theorem placesD_snoc (L:List ByteArray) (x:ByteArray):placesD (L ++ [x]) = (placesD L).put (litS x) (.lit (litN L.length)):=by
 unfold placesD
 rw [List.zipIdx_append,List.foldl_append,Nat.zero_add];rfl
theorem placesD_isMap (L:List ByteArray):IsMap (placesD L):=by
 refine snoc_ind (P:=fun m=>IsMap (placesD m)) isMap_empty (fun l a h=>?_) L
 show IsMap (placesD (l ++ [a]))
 rw [placesD_snoc];exact h.put _ _
theorem has_places (L:List ByteArray) (x:ByteArray):Maps.has (placesD L) (litS x) = true ↔ x ∈ L:=by
 refine snoc_ind (P:=fun m=>Maps.has (placesD m) (litS x) = true ↔ x ∈ m) ⟨fun h=>(by cases h),fun h=>(by cases h)⟩ (fun l a h=>?_) L
 show Maps.has (placesD (l ++ [a])) (litS x) = true ↔ _
 rw [placesD_snoc]
 by_cases e:x = a
 rotate_left
 ·rw [has_put_other (fun q=>e (litS_inj q)),h];simp [e]
 subst e
 rw [has_put_same (placesD_isMap l) (litS_key _)];simp
theorem at_places {L:List ByteArray} (hn:L.Nodup) {i:Nat} (hi:i < L.length) (z:DataW Unit):(placesD L).atKey (litS (L[i]'hi)) z = .lit (litN i):=by
 revert hn i
 refine snoc_ind (P:=fun m=>m.Nodup → ∀ {i:Nat} (hi:i < m.length),(placesD m).atKey (litS (m[i]'hi)) z = .lit (litN i)) (fun _ i hi=>by simp at hi) (fun l a ih hn i hi=>?_) L
 show (placesD (l ++ [a])).atKey (litS ((l ++ [a])[i]'hi)) z = _
 rw [placesD_snoc]
 rw [List.nodup_append] at hn
 by_cases e:i < l.length
 ·rw [List.getElem_append_left e]
  rw [atKey_put_other (fun q=>hn.2.2 _ (List.getElem_mem e) a (by simp) (litS_inj q))]
  exact ih hn.1 e
 have hi':i = l.length:=by simp at hi;omega
 subst hi'
 rw [List.getElem_append_right (Nat.le_refl _)]
 simp only [Nat.sub_self,List.getElem_singleton]
 exact atKey_put_same (placesD_isMap l) (litS_key _) _ _
end Go.Proofs.YtldhkbiomingbaaGreatDoor

namespace Go.Proofs.YtldhkbiomingbaaGreatDoor
def isDirC (c:Int):Bool:=c == 117 || c == 114 || c == 100 || c == 108
def dirIx (c:Int):Int:=if c = 117 then 0 else if c = 114 then 1 else if c = 100 then 2 else if c = 108 then 3 else -1
def dirB (d:Nat):Int:=if d = 0 then 117 else if d = 1 then 114 else if d = 2 then 100 else 108
theorem dirB_ix {c:Int} (h:isDirC c = true):dirB (dirIx c).toNat = c ∧ (dirIx c).toNat < 4 ∧ 0 ≤ dirIx c:=by
 have:c = 117 ∨ c = 114 ∨ c = 100 ∨ c = 108:=by
  unfold isDirC at h
  simp at h
  omega
 rcases this with rfl | rfl | rfl | rfl <;> exact ⟨rfl,by decide,by decide⟩
end Go.Proofs.YtldhkbiomingbaaGreatDoor

namespace Go.Proofs.YtldhkbiomingbaaGreatDoor.F
open Go.RowKit Go.Proofs.YtldhkbiomingbaaGreatDoor Go.YW.PrintWords Go.YW.PrintMore
def txtW (u:List Nat):ByteArray:=strOfNums (u.map dirB)
theorem txtW_size (u:List Nat):(txtW u).size = u.length:=by unfold txtW;rw [strOfNums_len,List.length_map]
theorem txtW_snoc (u:List Nat) (d:Nat):txtW (u ++ [d]) = txtW u ++ strOfNums [dirB d]:=by
 unfold txtW;rw [List.map_append,strOfNums_app];rfl
def srch (t:ByteArray):Option (Nat × Nat × RS):=match tyGrid (bytesOf t) with
 | none=>none
 | some (w,h,cs)=>(reachD w h cs).map fun s=>(w,h,s)
theorem srch_some {t:ByteArray} {w h:Nat} {s:RS} (e:srch t = some (w,h,s)):∃ cs,tyGrid (bytesOf t) = some (w,h,cs) ∧ Vg (w,h,cs) ∧ textB (w,h,cs) = t ∧ reachD w h cs = some s ∧ RS.Ok2 w h cs s.T.length s:=by
 unfold srch at e
 cases hg:tyGrid (bytesOf t) with
 | none=>rw [hg] at e;cases e
 | some g =>
  obtain ⟨w',h',cs⟩:=g
  rw [hg] at e
  obtain ⟨s',hs,e⟩:=Option.map_eq_some_iff.1 (show (reachD w' h' cs).map (fun s=>(w',h',s)) = some (w,h,s) from e)
  injection e with e1 e2
  injection e2 with e2 e3
  subst e1 e2 e3
  obtain ⟨v,et⟩:=textB_grid hg
  exact ⟨cs,rfl,v,et,hs,reach_ok v hs⟩
def rT (w h:Nat) (s:RS):List ByteArray:=s.T.map fun c=>textB (w,h,c)
def rW (s:RS):List ByteArray:=s.W.map txtW
theorem rT_len (w h:Nat) (s:RS):(rT w h s).length = s.T.length:=by unfold rT;rw [List.length_map]
theorem rW_len (s:RS):(rW s).length = s.W.length:=by unfold rW;rw [List.length_map]
theorem rT_nodup {w h:Nat} {cs:List Int} {s:RS} (o:RS.Ok w h cs s):(rT w h s).Nodup:=by
 unfold rT
 refine List.nodup_iff_pairwise_ne.2 ?_
 rw [List.pairwise_map]
 refine List.Pairwise.imp_of_mem ?_ (List.nodup_iff_pairwise_ne.1 o.nodup)
 intro a b ha hb hne e
 have:=textB_inj (o.tray a ha) (o.tray b hb) e
 injection this with _ this
 injection this with _ this
 exact hne this
theorem rT_mem {w h:Nat} {cs:List Int} {s:RS} (o:RS.Ok w h cs s) {c:List Int} (v:Vg (w,h,c)):textB (w,h,c) ∈ rT w h s ↔ findT s.T c < s.T.length:=by
 unfold rT findT
 rw [List.findIdx_lt_length,List.mem_map]
 constructor
 ·rintro ⟨a,ha,e⟩
  have:=textB_inj (o.tray a ha) v e
  injection this with _ this
  injection this with _ this
  subst this
  exact ⟨a,ha,beq_self_eq_true _⟩
 ·rintro ⟨a,ha,e⟩
  have:a = c:=by simpa using e
  subst this
  exact ⟨a,ha,rfl⟩
theorem findT_get {T:List (List Int)} {c:List Int} (h:findT T c < T.length):T[findT T c]'h = c:=by
 have:=List.findIdx_getElem (p:=(· == c)) (xs:=T) (w:=h)
 exact eq_of_beq this
def placeI (n:Int) (cs:List Int):Int:=if firstAt cs n < cs.length then (firstAt cs n:Int) else -1
def cellsI (s:RS) (n:Int):List Int:=s.T.map (placeI n)
theorem cellsI_len (s:RS) (n:Int):(cellsI s n).length = s.T.length:=by unfold cellsI;rw [List.length_map]
theorem cellsI_get (s:RS) (n:Int) {i:Nat} (hi:i < s.T.length):(cellsI s n).getD i 0 = placeI n (s.T.getD i []):=by
 unfold cellsI
 rw [getD_lt (by rw [List.length_map];exact hi),getD_lt hi,List.getElem_map]
end Go.Proofs.YtldhkbiomingbaaGreatDoor.F

namespace Go.Proofs.YtldhkbiomingbaaGreatDoor.F
open Go.Proofs.YtldhkbiomingbaaGreatDoor
open Go.RowKit Go.YW.PrintWords Go.YW.PrintLast Go.YW.PrintMore Go.Lib
def nodesOf (w h:Nat) (s:RS):List Node:=nodesL (fun c=>textB (w,h,c)) w h s (waysL s) []
theorem nodesOf_len (w h:Nat) (s:RS):(nodesOf w h s).length = s.T.length:=nodesL_len
theorem nodesOf_ne {w h:Nat} {cs:List Int} {s:RS} (o:RS.Ok w h cs s):nodesOf w h s ≠ []:=fun e=>by
 have:=nodesOf_len w h s
 rw [e] at this
 have:=o.pos
 simp at *
 omega
end Go.Proofs.YtldhkbiomingbaaGreatDoor.F

namespace Go.Proofs.YtldhkbiomingbaaGreatDoor
open Go.RowKit Go.YW.PrintWords Go.YW.PrintLast Go.YW.PrintMore Go.Lib Go.Shelf

end Go.Proofs.YtldhkbiomingbaaGreatDoor

namespace Go.Proofs.YtldhkbiomingbaaGreatDoor.F
open Go.Proofs.YtldhkbiomingbaaGreatDoor
open Go.RowKit Go.YW.PrintWords Go.YW.PrintLast Go.YW.PrintMore
attribute [local go_sem] max2_int min2_int max_two min_two max_three min_three max_four min_four

def impl_IsPuzzle.T2:Bool × List (List Nat × List Nat):=(true,[([],[]),([0],[0]),([1],[1]),([2,1],[1,2]),([1],[1]),([4,1],[1,4]),([5,1],[1,5]),([3,6,1,1],[1,3,6]),([1,7],[1,7]),([8,7],[8]),([9],[9]),([10,9],[9,10]),([11,9,9],[9,11]),([12,9],[9,12]),([9],[9]),([14,9],[9,14]),([13,15,9],[9,13,15]),([16,9],[9,16]),([17,9],[9,17]),([9,18],[9,18]),([19,12,0,1,2,3,4,5,6,7,8,9,10,11,12,13,14,15,16,17,18,19],[19])])
def impl_IsPuzzle.B2:List Nat:=[0,1,3,7,3,19,51,127,255,511,1023,2047,4095,8191,1023,17407,65535,131071,262143,524287,1048575]
theorem impl_IsPuzzle.tab2:rtab .any (opsOf Tryz.f94 2) = impl_IsPuzzle.T2:=by kernel_rfl
theorem impl_IsPuzzle.bits2:waitsOk impl_IsPuzzle.T2.2 impl_IsPuzzle.B2 = true:=by kernel_rfl
def spec_tiPlace.l0:Nat → Int → List Int → Int → Int → Option (Int)
 | 0,_,_,_,_=>none
 | k + 1,x1,x8,x9,x10=>if x10 < x9 then (if 0 ≤ x10 then (if x10 < (x8.length:Int) then (if (rd x8 x10) = x1 then (some x10) else (spec_tiPlace.l0 k x1 x8 x9 (wrap64 (x10 + 1)))) else (none)) else (none)) else (some (-1))
theorem spec_tiPlace.mono_l:∀ k,(∀ y0 y1 y2 y3,LeO (spec_tiPlace.l0 k y0 y1 y2 y3) (spec_tiPlace.l0 (k + 1) y0 y1 y2 y3))
 | 0=>fun _ _ _ _ r h=>by simp [spec_tiPlace.l0] at h
 | k + 1=>by
  have ih0:=spec_tiPlace.mono_l k
  ·intro y0 y1 y2 y3
   unfold spec_tiPlace.l0
   exact mo

def spec_l1In.f (a0:Int) (a1:Int) (a2:Int):Option (Bool):=if a0 ≥ a1 then (some (decide (a0 ≤ a2))) else (some false)
theorem spec_l1In.calls (a0:Int) (a1:Int) (a2:Int) (r:Bool) (w:World) (h:spec_l1In.f a0 a1 a2 = some r) :
  Calls Tryz.prog 68 #[.int .i64 a0,.int .i64 a1,.int .i64 a2] w fun e w'=>e = .returned (.bool r) ∧ Drawn0 w w':=by
 have H:(if a0 ≥ a1 then (some (decide (a0 ≤ a2))) else (some false)) = some r:=h
 clear h
 by_cases c4:a0 ≥ a1
 rotate_left
 ·rw [if_neg c4] at H
  have c4b0:=decide_eq_false c4
  clear c4
  obtain rfl:=Option.some.inj H
  go_enter Tryz.func68,Tryz.ntmps68
  go_wp2
  go_ret
  exact ⟨aq6,aq17⟩
 rw [if_pos c4] at H
 have c4b0:=decide_eq_true c4
 clear c4
 obtain rfl:=Option.some.inj H
 go_enter Tryz.func68,Tryz.ntmps68
 go_wp2
 go_ret
 exact ⟨aq6,aq17⟩
def spec_puGood.T2:Bool × List (List Nat × List Nat):=(true,[([],[]),([0],[0]),([1],[1]),([2],[2]),([3,2],[2,3]),([4,2,2],[2,4]),([5,2],[2,5]),([2,6],[2,6]),([7,5],[7]),([8],[8]),([8],[8]),([10,8],[8,10]),([11,8],[8,11]),([9,12,8,8],[8,9,12]),([13,8],[8,13]),([8,14],[8,14])])
def spec_puGood.B2:List Nat:=[0,1,3,7,15,31,63,127,255,511,511,1535,3583,8191,16383,32767]
theorem spec_puGood.tab2:rtab .any (opsOf Tryz.f92 2) = spec_puGood.T2:=by kernel_rfl
theorem spec_puGood.bits2:waitsOk spec_puGood.T2.2 spec_puGood.B2 = true:=by kernel_rfl
end Go.Proofs.YtldhkbiomingbaaGreatDoor.F

namespace Go.Proofs.YtldhkbiomingbaaGreatDoor.F
open Go.RowKit Go.Proofs.YtldhkbiomingbaaGreatDoor Go.YW.PrintWords Go.YW.PrintMore
theorem tray_small {g:(Nat × Nat × List Int)} (v:Vg g):1 ≤ g.2.2.length ∧ g.2.2.length ≤ 36:=by
 rw [show g.2.2.length = g.1 * g.2.1 from v.len]
 exact ⟨Nat.mul_pos v.w1 v.h1,v.small⟩
end Go.Proofs.YtldhkbiomingbaaGreatDoor.F

namespace Go.Proofs.YtldhkbiomingbaaGreatDoor.F
open Go.Proofs.YtldhkbiomingbaaGreatDoor
open Go.RowKit Go.YW.PrintWords Go.YW.PrintMore

end Go.Proofs.YtldhkbiomingbaaGreatDoor.F

namespace Go.Proofs.YtldhkbiomingbaaGreatDoor
open Go.RowKit Go.YW.PrintWords Go.YW.PrintLast Go.YW.PrintMore Go.Lib
attribute [local go_sem] max2_int min2_int
def placeN (ns:List Node) (x:ByteArray):Nat:=ns.findIdx fun n=>decide (n.text = x)
theorem placeN_at {ns:List Node} {x:ByteArray} {i:Nat} (h:∀ j,j < i → ∀ hj:j < ns.length,(decide (ns[j].text = x)) = false) (hi:i < ns.length) (he:(decide (ns[i].text = x)) = true):placeN ns x = i:=by
 unfold placeN
 rw [List.findIdx_eq hi]
 exact ⟨he,fun j hj=>h j hj o_m⟩
theorem placeN_none {ns:List Node} {x:ByteArray} (h:∀ j,∀ hj:j < ns.length,(decide (ns[j].text = x)) = false):placeN ns x = ns.length:=by
 unfold placeN
 rw [List.findIdx_eq_length]
 intro n hn
 obtain ⟨j,hj,rfl⟩:=List.getElem_of_mem hn
 exact h j hj
def placeR (ns:List Node) (x:ByteArray):Int:=if placeN ns x < ns.length then (placeN ns x:Int) else -1
theorem text_beq (a b:ByteArray):(a.toList == b.toList) = decide (a = b):=by
 rw [Bool.eq_iff_iff,beq_iff_eq,decide_eq_true_iff]
 refine ⟨fun e=>?_,fun e=>congrArg _ e⟩
 rw [ByteArray.toList_eq,ByteArray.toList_eq] at e
 exact ByteArray.ext (Array.toList_inj.1 e)
theorem rePlace_calls (b o c:Nat) (ns:List Node) (x:ByteArray) (W:World) (hc:ns.length ≤ c) (hn:ns.length < 65536) (hat:∀ W',Below W.heap.size W W' → ∀ i (hi:i < ns.length),NodeC W' b o i (ns[i]'hi)) :
  Calls Tryz.prog 101 #[.slice (some ⟨b,o,none⟩) ns.length c,.string x] W fun e w'=>e = .returned (.int .i64 (placeR ns x)) ∧ Below W.heap.size W w':=by
 have HAT:=am hat
 have HC:=am hc
 have HN:=am hn
 clear hat hc hn
 go_enter Tryz.func101,Tryz.ntmps101
 go_wp2
 go_loopw [9] (fun v9 wr=>∃ i:Nat,i ≤ ns.length ∧ v9 = .int .i64 i ∧ Aside0 (∀ j,j < i → ∀ hj:j < ns.length,(decide (ns[j].text = x)) = false) ∧ Aside0 (Below W.heap.size W wr)) (fun v9 _=>ns.length - (intOf v9).toNat)
 case atStart=>exact ⟨0,Nat.zero_le _,rfl,⟨fun j hj=>absurd hj (Nat.not_lt_zero j)⟩,⟨Below.refl _ _⟩⟩
 case round =>
  obtain ⟨i,hi,rfl,HF,HB⟩:=hrel
  by_cases hlt:i < ns.length
  rotate_left
  ·have hge:¬ (i:Int) < (ns.length:Int):=by omega
   obtain rfl:i = ns.length:=by omega
   have hp:=placeN_none (fun j hj=>HF.out j hj hj)
   have HP:=am hp
   clear hp
   go_wp2
   go_ret
   exact ⟨by have e:=HP.out;simp [placeR,e],HB.out⟩
  obtain ⟨p,Ag,cg,Ax,cx,zp,z0,z1,z2,z3,_⟩:=HAT.out wr HB.out i hlt
  have hltI:(i:Int) < (ns.length:Int):=by omega
  have HL:=am hlt
  have HX:=am (text_beq ns[i].text x)
  have HP:=am (fun he:(decide (ns[i].text = x)) = true=>placeN_at HF.out hlt he)
  have HNO:=am (fun he:(decide (ns[i].text = x)) = false=>(fun j hj hj'=>by
   by_cases e:j = i
   ·subst e;exact he
   ·exact HF.out j o_m hj':∀ j,j < i + 1 → ∀ hj:j < ns.length,(decide (ns[j].text = x)) = false))
  have hw1:IntKind.i64.wrap ((i:Int) + 1) = ((i + 1:Nat):Int):=by rw [IntKind.wrap_i64];have:=HN.out;omega
  clear z0 z1 z2
  generalize ns[i].text = tx at *
  cases hb:decide (tx = x) with
  | true =>
   have hb2:(tx.toList == x.toList) = true:=by rw [HX.out,hb]
   go_wp2
   go_ret
   exact ⟨by have e:=HP.out hb;have l:=HL.out;simp [placeR,e,l],HB.out⟩
  | false =>
   have hb2:(tx.toList == x.toList) = false:=by rw [HX.out,hb]
   go_wp2
   go_roundw
   case rel=>exact ⟨i + 1,HL.out,by first | rfl | simp,⟨HNO.out hb⟩,HB⟩
   case measure=>have:=HL.out;simp [intOf];omega
end Go.Proofs.YtldhkbiomingbaaGreatDoor

namespace Go.Proofs.YtldhkbiomingbaaGreatDoor
def seeB (l:List Nat) (st:List Bool × List Nat):List Bool × List Nat:=l.foldl (fun st a=>if st.1.getD a false = true then st else (st.1.set a true,st.2 ++ [a])) st
def cloB (N:List (List Nat)):Nat → Nat → List Bool × List Nat → List Bool × List Nat
 | 0,_,st=>st
 | f + 1,k,st=>if k < st.2.length then cloB N f (k + 1) (seeB (N.getD (st.2.getD k 0) []) st) else st
def fromB (N:List (List Nat)) (n i:Nat):List Bool:=(cloB N (n + 1) 0 ((List.replicate n false).set i true,[i])).1
inductive Way (N:List (List Nat)):Nat → Nat → Prop
 | here (i:Nat):Way N i i
 | step {i j k:Nat}:Way N i j → k ∈ N.getD j [] → Way N i k
theorem Way.trans {N:List (List Nat)} {i j k:Nat} (h:Way N i j) (h':Way N j k):Way N i k:=by
 induction h' with
 | here=>exact h
 | step _ hk ih=>exact .step ih hk
structure CloOk (N:List (List Nat)) (n i:Nat) (st:List Bool × List Nat):Prop where
 len:st.1.length = n
 dup:st.2.Nodup
 seen:∀ j,st.1.getD j false = true ↔ j ∈ st.2
 low:∀ j ∈ st.2,j < n
 way:∀ j ∈ st.2,Way N i j
 start:i ∈ st.2
theorem seeB_ok {N:List (List Nat)} {n i j:Nat} (hj:Way N i j):∀ (l:List Nat),(∀ a ∈ l,a < n ∧ a ∈ N.getD j []) → ∀ st,CloOk N n i st → CloOk N n i (seeB l st) ∧ st.2 <+: (seeB l st).2 ∧ ∀ a ∈ l,a ∈ (seeB l st).2
 | [],_,st,o=>⟨o,List.prefix_refl _,fun a ha=>by cases ha⟩
 | a :: l,hl,st,o=>by
  have ha:=hl a List.mem_cons_self
  unfold seeB
  rw [List.foldl_cons]
  by_cases hs:st.1.getD a false = true
  ·rw [if_pos hs]
   obtain ⟨o2,p2,m2⟩:=seeB_ok hj l (fun b hb=>hl b (List.mem_cons_of_mem _ hb)) st o
   refine ⟨o2,p2,fun b hb=>?_⟩
   rcases List.mem_cons.1 hb with rfl | hb
   ·exact p2.subset ((o.seen b).1 hs)
   ·exact m2 b hb
  rw [if_neg hs]
  have hna:a ∉ st.2:=fun q=>hs ((o.seen a).2 q)
  have o1:CloOk N n i (st.1.set a true,st.2 ++ [a]):=by
   refine ⟨by simp [o.len],?_,fun k=>?_,fun k hk=>?_,fun k hk=>?_,List.mem_append_left _ o.start⟩
   ·rw [List.nodup_append]
    refine ⟨o.dup,by simp,fun x hx y hy=>?_⟩
    rw [List.mem_singleton.1 hy]
    rintro rfl
    exact hna hx
   ·show (st.1.set a true).getD k false = true ↔ k ∈ st.2 ++ [a]
    rw [List.mem_append,List.mem_singleton,← o.seen k,List.getD_eq_getElem?_getD,List.getD_eq_getElem?_getD]
    by_cases e:a = k
    ·subst e
     rw [List.getElem?_set_self (by rw [o.len];exact ha.1)]
     simp
    rw [List.getElem?_set_ne e]
    constructor
    ·exact .inl
    ·rintro (q | q)
     ·exact q
     ·exact absurd q.symm e
   ·rcases List.mem_append.1 hk with hk | hk
    ·exact o.low k hk
    ·rw [List.mem_singleton.1 hk];exact ha.1
   ·rcases List.mem_append.1 hk with hk | hk
    ·exact o.way k hk
    ·rw [List.mem_singleton.1 hk];exact .step hj ha.2
  obtain ⟨o2,p2,m2⟩:=seeB_ok hj l (fun b hb=>hl b (List.mem_cons_of_mem _ hb)) _ o1
  refine ⟨o2,(List.prefix_append _ _).trans p2,fun b hb=>?_⟩
  rcases List.mem_cons.1 hb with rfl | hb
  ·exact p2.subset (List.mem_append_right _ (List.mem_singleton.2 rfl))
  ·exact m2 b hb
theorem nodup_le {n:Nat} {l:List Nat} (hd:l.Nodup) (hl:∀ j ∈ l,j < n):l.length ≤ n:=by
 have h1:l.Perm ((List.range n).filter fun j=>decide (j ∈ l)):=(List.perm_ext_iff_of_nodup hd (List.nodup_range.filter _)).2 (fun j=>by
  rw [List.mem_filter,List.mem_range,decide_eq_true_iff]
  exact ⟨fun h=>⟨hl j h,h⟩,fun h=>h.2⟩)
 rw [h1.length_eq]
 exact Nat.le_trans (List.length_filter_le _ _) (by rw [List.length_range];exact Nat.le_refl _)
end Go.Proofs.YtldhkbiomingbaaGreatDoor

namespace Go.Proofs.YtldhkbiomingbaaGreatDoor
open Go.Proofs.YtldhkbiomingbaaGreatDoor.F
open Go.RowKit Go.YW.PrintWords Go.YW.PrintLast Go.YW.PrintMore Go.Lib
attribute [local go_sem] max2_int min2_int
theorem R_off {α:Type} {d:Kd α} {e t:TypeId} {w:World} {base:Nat} {v:Value} {xs:List α} {p:Addr} {cells:Array Value} {fr:Nat × Nat} (hE:d.E = []) (h:d.R e w base (fun _=>True) v xs) (hb:w.heap[p.block]? = some (.cells cells t fr)) (hne:e ≠ t) (u:Value):d.R e (w.setCell p u) base (fun _=>True) v xs :=
 R_true (Kd.R_step (Kd.R_bound h) (fun k hk _=>Below.heap_setCell w p u k (fun e2=>by
  obtain ⟨q,hq,cs,hc⟩:=hk.2.2.2
  rw [hE,List.mem_singleton] at hq
  subst hq
  rw [e2,hb] at hc
  injection hc with hc
  injection hc with _ ht _
  exact hne ht.symm)))
theorem rd_int (l:List Nat) {i:Nat} (h:i < l.length):rdOf 0 (l.map Int.ofNat) (i:Int) = ((l[i]'h:Nat):Int):=by
 unfold rdOf
 rw [Int.toNat_natCast,List.getD_eq_getElem?_getD,List.getElem?_map,List.getElem?_eq_getElem h];rfl
theorem rd_bool (l:List Bool) (i:Nat):rdOf false l (i:Int) = l.getD i false:=by
 unfold rdOf;rw [Int.toNat_natCast]
theorem seeB_drop (l:List Nat) (st:List Bool × List Nat) {j:Nat} (hj:j < l.length):seeB (l.drop j) st = seeB (l.drop (j + 1)) (if st.1.getD (l[j]'hj) false = true then st else (st.1.set (l[j]'hj) true,st.2 ++ [l[j]'hj])):=by
 rw [List.drop_eq_getElem_cons hj]
 unfold seeB
 rw [List.foldl_cons]
theorem CloOk.one {N:List (List Nat)} {n i a:Nat} {st:List Bool × List Nat} (o:CloOk N n i st) (ha:a < n) (hw:Way N i a) (hs:st.1.getD a false = false):CloOk N n i (st.1.set a true,st.2 ++ [a]):=by
 have hna:a ∉ st.2:=fun h=>by rw [(o.seen a).2 h] at hs;cases hs
 refine ⟨by rw [List.length_set];exact o.len,by rw [List.nodup_append];exact ⟨o.dup,by simp,fun x hx y hy=>by rw [List.mem_singleton.1 hy];rintro rfl;exact hna hx⟩,fun j=>?_,fun j hj=>?_,fun j hj=>?_,List.mem_append_left _ o.start⟩
 ·have hal:a < st.1.length:=by rw [o.len];exact ha
  rw [List.mem_append,List.mem_singleton,List.getD_eq_getElem?_getD,List.getElem?_set]
  by_cases e:a = j
  ·subst e;simp [hal]
  rw [if_neg e,← List.getD_eq_getElem?_getD,o.seen j]
  exact ⟨fun h=>.inl h,fun h=>h.resolve_right (fun q=>e q.symm)⟩
 ·rcases List.mem_append.1 hj with h | h
  ·exact o.low j h
  ·rw [List.mem_singleton.1 h];exact ha
 ·rcases List.mem_append.1 hj with h | h
  ·exact o.way j h
  ·rw [List.mem_singleton.1 h];exact hw
structure FromAt (base g cap n:Nat) (st:List Bool × List Nat) (v:Value) (w:World):Prop where
 b:Kd.R Kd.bool 4 w base (fun _=>True) (.slice (some ⟨g,0,none⟩) n cap) st.1
 q:Kd.R (Kd.int .i64) 3 w base (fun _=>True) v (st.2.map Int.ofNat)
theorem FromAt.put {base g cap n:Nat} {st:List Bool × List Nat} {v:Value} {w:World} (h:FromAt base g cap n st v w) (hn:0 < n) (a:Nat):FromAt base g cap n (st.1.set a true,st.2) v (w.setCell ⟨g,a,none⟩ (.bool true)):=by
 have h1:=Kd.R_putn h.b (a:Int) true
 rw [Int.toNat_natCast] at h1
 obtain ⟨cells,hc⟩:=Kd.R_typed h.b g rfl
 exact ⟨h1,R_off rfl h.q hc d_c _⟩
def NextC (W:World) (b o i:Nat) (l:List Nat):Prop:=∃ p Ax cx,W.cell? ⟨b,o + i,none⟩ = some (.pointer (some ⟨p,0,none⟩)) ∧ W.cell? ⟨p,8,none⟩ = some (.slice Ax l.length cx) ∧ (Kd.int .i64).C W Ax l.length (l.map Int.ofNat)
theorem NodeC.ways {W:World} {b o i:Nat} {n:Node} {l:List Nat} (h:NodeC W b o i n) (e:n.next = l.map Int.ofNat):NextC W b o i l:=by
 obtain ⟨p,Ag,cg,Ax,cx,zp,_,_,_,_,_,_,_,_,z8,_,_,_,hC⟩:=h
 rw [e,List.length_map] at z8 hC
 exact ⟨p,Ax,cx,zp,z8,hC⟩
theorem reFrom_calls (b o c n i0:Nat) (ns:List Node) (N:List (List Nat)) (W:World) (hc:n ≤ c) (hln:ns.length = n) (hn:n < 65536) (hi0:i0 < n) (hN:∀ l ∈ N,∀ a ∈ l,a < n) (hNl:∀ i,(N.getD i []).length < 65536) (hnx:∀ i (hi:i < ns.length),(ns[i]'hi).next = (N.getD i []).map Int.ofNat) (hat:∀ W',Below W.heap.size W W' → ∀ i (hi:i < ns.length),NodeC W' b o i (ns[i]'hi)) :
  Calls Tryz.prog 76 #[.slice (some ⟨b,o,none⟩) n c,.int .i64 i0] W fun e w'=>∃ v,e = .returned v ∧ Kd.R Kd.bool 4 w' W.heap.size (fun _=>True) v (fromB N n i0) ∧ Below W.heap.size W w':=by
 have HAT:=am (fun W' hB i hi=>(hat W' hB i (by rw [hln];exact hi)).ways (hnx i _):∀ W',Below W.heap.size W W' → ∀ i,i < n → NextC W' b o i (N.getD i []))
 have HN:=am hn
 have HNN:=am hN
 have HNL:=am hNl
 have HI:=am hi0
 have hge0:(0:Int) ≤ (n:Int):=by omega
 have hle:(n:Int).toNat ≤ 281474976710656:=by omega
 have hiI:(i0:Int) < (n:Int):=by omega
 clear hat hnx hn hN hNl hi0 hln
 go_enter Tryz.func76,Tryz.ntmps76
 go_wp2_with (first
  | ((with_reducible refine gate_dst (N:=12) rfl ?_);refine Kd.R_make Kd.bool _ 4 rfl (N:=12) rfl 81 _ _ rfl (n:Int) rfl rfl Tryz.underlying81 (.bool false) 1 info4 rfl d_c o_m false (ok:=fun _=>True) (okp:=fun _=>True) rfl (fun _ hk=>hk) trivial hge0 (Nat.le_trans (Nat.mul_le_mul_right _ hle) o_m) (Below.refl _ _) (Nat.le_refl _) ?_;intro v5 w5 ho5 hb5 hg5 hn5;rw [Int.toNat_natCast] at ho5;obtain ⟨g,cap,hv5,hgb,hgl,_⟩:=Kd.R_form ho5 (by rw [List.length_replicate];have:=HI.out;omega);rw [List.length_replicate] at hv5;subst hv5;obtain ⟨hf5a,hf5b⟩:=Kd.R_celln false ho5 (i0:Int) o_m hiI;rw [Int.toNat_natCast] at hf5a hf5b;have HO5:=am ho5;have HB5:=am hb5;have HG5:=am hgb;clear ho5 hb5 hg5 hn5 hgb hgl)
  | ((with_reducible refine gate_dst (N:=17) rfl ?_);refine Kd.R_lit (Kd.int .i64) _ 3 ?hg (N:=17) ?hd (xs:=([(i0:Int)]:List Int)) (inner:=[.int .i64 i0]) (ok:=fun _=>True) (okp:=fun _=>True) ?hr ?hp (fun _ hk=>hk) trivial (Below.refl _ _) (Nat.le_refl _) (by simp) ?_;(case hd=>rfl);(case hg=>rfl);(case hr=>first | (go_simp;done) | (go_simp;rfl));(case hp=>exact (Reps.one (show Kd.M (Kd.int .i64) _ _ _ (i0:Int) [.int .i64 i0] from rfl) (Reps.none _ _)));intro v6 w6 ho6 hb6 hg6 hn6;have HO6:=am ho6;have HB6:=am hb6;clear ho6 hb6 hg6 hn6))
 have hset0:(List.replicate n false).set i0 true = ((List.replicate n false).set i0 true,[i0]).1:=rfl
 have hcloS:CloOk N n i0 ((List.replicate n false).set i0 true,[i0]):=by
  refine ⟨by rw [List.length_set,List.length_replicate],by simp,fun j=>?_,fun j hj=>?_,fun j hj=>?_,by simp⟩
  ·rw [List.mem_singleton,List.getD_eq_getElem?_getD,List.getElem?_set]
   have:=HI.out
   by_cases e:i0 = j
   ·subst e;simp [this]
   rw [if_neg e]
   refine ⟨fun h=>absurd h ?_,fun h=>absurd h.symm e⟩
   rw [List.getElem?_replicate];split <;> simp
  ·rw [List.mem_singleton.1 hj];exact HI.out
  ·rw [List.mem_singleton.1 hj];exact .here _
 have HS0:Aside0 (FromAt W.heap.size g cap n ((List.replicate n false).set i0 true,[i0]) v6 w6 ∧ Below W.heap.size W w6):=by
  have h1:=Kd.R_putn HO5.out (i0:Int) true
  rw [Int.toNat_natCast] at h1
  have hs:W.heap.size ≤ (w5.setCell ⟨g,i0,none⟩ (.bool true)).heap.size:=by have:=HB5.out.size;simpa using this
  exact ⟨⟨Kd.R_below h1 HB6.out,Kd.R_lower HO6.out hs⟩,below_step (HB5.out.setCell (p:=⟨g,i0,none⟩) HG5.out _) HB6.out⟩
 have HCS:=am hcloS
 have HFIN:=am (show (cloB N (n + 1) 0 ((List.replicate n false).set i0 true,[i0])).1 = fromB N n i0 from rfl)
 have HG:=HG5
 clear HO5 HB5 HO6 HB6 hf5a hf5b hcloS hset0 HG5
 go_loopw [6,7] (fun va6 va7 wr=>∃ (f k:Nat) (st:List Bool × List Nat),va7 = .int .i64 k ∧ k ≤ st.2.length ∧ n + 1 ≤ f + k ∧ Aside0 ((cloB N f k st).1 = fromB N n i0) ∧ Aside0 (CloOk N n i0 st) ∧ Aside0 (FromAt W.heap.size g cap n st va6 wr) ∧ Aside0 (Below W.heap.size W wr)) (fun va6 va7 _=>n - (intOf va7).toNat)
 case atStart=>exact ⟨n + 1,0,_,rfl,Nat.zero_le _,by omega,HFIN,HCS,⟨HS0.out.1⟩,⟨HS0.out.2⟩⟩
 case round =>
  obtain ⟨f,k,st,rfl,hk,hfk,HF,HO,HA,HB⟩:=hrel
  have hlen:=nodup_le HO.out.dup HO.out.low
  obtain ⟨A6,c6,hv6⟩:=Kd.R_slice HA.out.q
  rw [List.length_map] at hv6
  by_cases hlt:k < st.2.length
  rotate_left
  ·have hge:¬ (k:Int) < (st.2.length:Int):=by omega
   subst hv6
   have hF:=HF.out
   have hE:(cloB N f k st).1 = st.1:=by
    cases f with
    | zero=>rfl
    | succ f=>unfold cloB;rw [if_neg hlt]
   rw [hE] at hF
   have HE:=am hF
   clear hF hE HF
   go_wp2
   go_ret
   exact ⟨_,rfl,by rw [← HE.out];exact HA.out.b,HB.out⟩
  have hltI:(k:Int) < (st.2.length:Int):=by omega
  obtain ⟨f',rfl⟩:∃ f',f = f' + 1:=⟨f - 1,by omega⟩
  have hF:=HF.out
  unfold cloB at hF
  rw [if_pos hlt] at hF
  obtain ⟨g6,cap6,hv6',_,_,_⟩:=Kd.R_form HA.out.q (by rw [List.length_map];omega)
  rw [hv6,List.length_map] at hv6'
  injection hv6' with e1 _ e2
  subst e1 e2
  subst hv6
  have hq:=(Kd.R_celln 0 HA.out.q (k:Int) o_m hltI).1
  rw [Int.toNat_natCast,rd_int st.2 hlt] at hq
  have hjl:=HO.out.low _ (List.getElem_mem hlt)
  have hgd:st.2.getD k 0 = st.2[k]:=by rw [List.getD_eq_getElem?_getD,List.getElem?_eq_getElem hlt];rfl
  rw [hgd] at hF
  have hwj:=HO.out.way _ (List.getElem_mem hlt)
  obtain ⟨p,Ax,cx,zp0,z80,hC⟩:=HAT.out W (Below.refl _ _) _ hjl
  have zp:=(HB.out.cell (World.block_lt_of_cell? W _ zp0)).trans zp0
  have z8:=(HB.out.cell (World.block_lt_of_cell? W _ z80)).trans z80
  clear zp0 z80
  have hmem:∀ a ∈ N.getD st.2[k] [],a < n ∧ a ∈ N.getD st.2[k] []:=fun a ha=>⟨by
   rw [List.getD_eq_getElem?_getD] at ha
   cases hx:N[st.2[k]]? with
   | none=>rw [hx] at ha;cases ha
   | some l=>rw [hx] at ha;exact HNN.out l (List.mem_of_getElem? hx) a ha,ha⟩
  have hll:=HNL.out st.2[k]
  have hjlI:((st.2[k]:Nat):Int) < (n:Int):=by omega
  generalize st.2[k] = j0 at *
  generalize hl:N.getD j0 [] = l at *
  have HMEM:=am hmem
  have HLL:=am hll
  have HF2:=am hF
  have HWJ:=am hwj
  have HCX:=am hC
  have HK:=am hlt
  have HLE:=am hlen
  have HFK:=am hfk
  have HLN:=am hl
  clear hmem hll hF hwj hC hgd hlen hfk HF hk hl
  go_wp2
  go_loopw [6,35] (fun va6 va35 wq=>∃ (j:Nat) (sq:List Bool × List Nat),j ≤ l.length ∧ va35 = .int .i64 j ∧ Aside0 (seeB (l.drop j) sq = seeB l st) ∧ Aside0 (CloOk N n i0 sq) ∧ Aside0 (st.2 <+: sq.2) ∧ Aside0 (FromAt W.heap.size g cap n sq va6 wq) ∧ Aside0 (Below W.heap.size W wq)) (fun va6 va35 _=>l.length - (intOf va35).toNat)
  case atStart=>exact ⟨0,st,Nat.zero_le _,rfl,⟨by rw [List.drop_zero]⟩,HO,⟨List.prefix_refl _⟩,HA,HB⟩
  case round =>
   obtain ⟨j,sq,hj,rfl,HSB,HOQ,HPQ,HAQ,HBQ⟩:=hrel
   by_cases hlt2:j < l.length
   rotate_left
   ·have hge:¬ (j:Int) < (l.length:Int):=by omega
    obtain rfl:j = l.length:=by omega
    have hD:=HSB.out
    rw [List.drop_length] at hD
    have hw1:IntKind.i64.wrap ((k:Int) + 1) = ((k + 1:Nat):Int):=by rw [IntKind.wrap_i64];have:=HN.out;have:=HLE.out;have:=HK.out;omega
    go_wp2
    go_roundw
    case rel=>exact ⟨f',k + 1,sq,by first | rfl | simp,Nat.le_trans HK.out HPQ.out.length_le,by have:=HFK.out;omega,⟨by rw [show sq = seeB l st from hD];exact HF2.out⟩,HOQ,HAQ,HBQ⟩
    case measure=>have:=HLE.out;have:=HK.out;simp [intOf];omega
   have hltI2:(j:Int) < (l.length:Int):=by omega
   obtain ⟨ba,oa,rfl,hba,hcs⟩:=C_place (by rw [← List.length_map (f:=Int.ofNat)] at HCX;exact HCX.out) (by rw [List.length_map];omega)
   obtain ⟨a,hae⟩:∃ a,l[j]'hlt2 = a:=⟨_,rfl⟩
   have hD:seeB (l.drop (j + 1)) (if sq.1.getD a false = true then sq else (sq.1.set a true,sq.2 ++ [a])) = seeB l st:=by rw [← hae,← seeB_drop l sq hlt2];exact HSB.out
   have hax:W.cell? ⟨ba,oa + j,none⟩ = some (.int .i64 ((a:Nat):Int)):=hcs j _ (by rw [List.getElem?_map,List.getElem?_eq_getElem hlt2,hae];rfl)
   have ha:=(HBQ.out.cell (p:=⟨ba,oa + j,none⟩) hba).trans hax
   obtain ⟨han,hmem⟩:=HMEM.out a (hae ▸ List.getElem_mem hlt2)
   have haI:((a:Nat):Int) < (n:Int):=by omega
   obtain ⟨hsa,hsf⟩:=Kd.R_celln false HAQ.out.b ((a:Nat):Int) o_m haI
   rw [Int.toNat_natCast] at hsa hsf
   rw [rd_bool] at hsa
   have HAL:=am (show ((sq.2.map Int.ofNat).length + 1) * 8 ≤ 140737488355328 by have h1:=nodup_le HOQ.out.dup HOQ.out.low;have h2:=HN.out;rw [List.length_map];omega)
   have hw1:IntKind.i64.wrap ((j:Int) + 1) = ((j + 1:Nat):Int):=by rw [IntKind.wrap_i64];have:=HLL.out;omega
   have HJ:=am hlt2
   have HAN:=am han
   have HD:=am hD
   have HWA:=am (Way.step HWJ.out (by rw [HLN.out];exact hmem))
   clear hcs hax hba hmem han hD hae hlt2 hj HSB
   cases hb:sq.1.getD a false with
   | true =>
    rw [hb] at hsa
    go_wp2
    go_roundw
    case rel=>exact ⟨j + 1,sq,HJ.out,by first | rfl | simp,⟨by have h:=HD.out;rw [if_pos hb] at h;exact h⟩,HOQ,HPQ,HAQ,HBQ⟩
    case measure=>have:=HJ.out;simp [intOf];omega
   | false =>
    rw [hb] at hsa
    have HAQ2:=am (HAQ.out.put (by have:=HAN.out;omega) a)
    have HBQ2:=am (HBQ.out.setCell (p:=⟨g,a,none⟩) HG.out (.bool true))
    have HOQ2:=am (HOQ.out.one HAN.out HWA.out hb)
    have HD2:=am (show seeB (l.drop (j + 1)) (sq.1.set a true,sq.2 ++ [a]) = seeB l st from by have h:=HD.out;rw [if_neg (by rw [hb];exact Bool.false_ne_true)] at h;exact h)
    clear hb
    go_wp2_with (first
     | ((with_reducible refine gate_store (t:=4) (p:=46) rfl ?_);refine store_event (t:=4) (p:=46) (v:=?vo) (w1:=(wr.setCell ⟨g,a,none⟩ (.bool true))) ?hg ?ho ?hn ?hr ?_;(case ho=>rfl);(case hg=>rfl);(case hn=>rfl);(case hr=>first | (go_simp;done) | (go_simp;rfl));intro wz hwz;rw [← hwz] at HAQ2 HBQ2;clear hwz HAQ HBQ HOQ)
     | ((with_reducible refine gate_builtin (b:=.append) (xs:=#[.tmp 47,.tmp 49]) rfl ?_);at_builtin;refine Kd.R_append (Kd.int .i64) (w0:=W) W.heap.size rfl (.tmp 47) (.tmp 49) 40 3 (.int .i64 0) 8 rfl Tryz.underlying40 info3 rfl d_c o_m u6 (sq.2.map Int.ofNat) (a:Int) [.int .i64 a] (fun _=>True) (fun _=>False) rfl rfl ?aP (fun _ hk=>hk.elim) ?aF ?aO ?aB ?aS ?aL ?_;(case aP=>exact rfl);(case aB=>exact HBQ2.out);(case aF=>exact (fun _ _=>trivial));(case aO=>exact HAQ2.out.q);(case aS=>exact HBQ2.out.size);(case aL=>exact HAL.out);intro v7 w7 ho7 hb7 hg7 hat7;have HO7:=am ho7;have HB7:=am hb7;have HR7:=am (Kd.R_over' HAQ2.out.b (Kd.R_typed HAQ2.out.q) d_c hg7);clear ho7 hb7 hg7 hat7))
    go_roundw
    case rel=>exact ⟨j + 1,(sq.1.set a true,sq.2 ++ [a]),HJ.out,by first | rfl | simp,HD2,HOQ2,⟨HPQ.out.trans (List.prefix_append _ _)⟩,⟨⟨HR7.out,by have h:=HO7.out;rwa [← show (sq.2 ++ [a]).map Int.ofNat = sq.2.map Int.ofNat ++ [(a:Int)] from by rw [List.map_append];rfl] at h⟩⟩,HB7⟩
    case measure=>have:=HJ.out;simp [intOf];omega
end Go.Proofs.YtldhkbiomingbaaGreatDoor

namespace Go.Proofs.YtldhkbiomingbaaGreatDoor.F
open Go.Proofs.YtldhkbiomingbaaGreatDoor
open Go.RowKit Go.YW.PrintWords Go.YW.PrintLast Go.YW.PrintMore Go.Lib
def ptrS:Kd Nat:=Kd.scalar (fun p:Nat=>Value.pointer (some ⟨p,0,none⟩)) (fun _=>rfl)
def txG (w h:Nat) (c:List Int):ByteArray:=textB (w,h,c)
structure AllAt (w0 W:World) (w h:Nat) (cs0:List Int) (s:RS) (Q:List Int) (P:List Nat) (L:List NodeM) (v:Value):Prop where
 ok:RS.Ok w h cs0 s
 lQ:Q.length = s.T.length
 ns:L.map NodeM.n = nodesL (txG w h) w h s Q P
 nd:Nodes 77 W w0.heap.size L
 row:ptrS.R 73 W w0.heap.size (fun _=>True) v (L.map NodeM.p)
 bel:Below w0.heap.size w0 W
section
variable {w0 W w1:World} {w h:Nat} {cs0:List Int} {s:RS} {Q:List Int} {P:List Nat} {L:List NodeM} {v:Value}
theorem AllAt.len (a:AllAt w0 W w h cs0 s Q P L v):L.length = s.T.length:=by
 have:=congrArg List.length a.ns
 rwa [List.length_map,nodesL_len] at this
theorem AllAt.node (a:AllAt w0 W w h cs0 s Q P L v) {i:Nat} (hi:i < L.length):(L[i]'hi).n = nodeF (txG w h) w h s Q P i:=by
 have h1:(L.map NodeM.n)[i]? = some (L[i]'hi).n:=by rw [List.getElem?_map,List.getElem?_eq_getElem hi];rfl
 rw [a.ns,List.getElem?_eq_getElem (by rw [nodesL_len,← a.len];exact hi),nodesL_get] at h1
 exact (Option.some.inj h1).symm
theorem AllAt.blk (a:AllAt w0 W w h cs0 s Q P L v) {i:Nat} (hi:i < L.length):W.heap[(L[i]'hi).p]? = some (.cells (L[i]'hi).cells 77 (0,0)):=(a.nd.at_ _ (List.getElem_mem hi)).blk
theorem AllAt.apart (a:AllAt w0 W w h cs0 s Q P L v):∀ q ∈ L,some q.p ≠ v.ownBlock:=fun q hq=>Kd.R_ne a.row (a.nd.at_ q hq).blk d_c
theorem AllAt.below (a:AllAt w0 W w h cs0 s Q P L v) (hb:Below W.heap.size W w1):AllAt w0 w1 w h cs0 s Q P L v :=
 ⟨a.ok,a.lQ,a.ns,a.nd.below hb,Kd.R_below a.row hb,below_step a.bel hb⟩
theorem AllAt.reads (a:AllAt w0 W w h cs0 s Q P L v):Kd.R (ptrK 77 nodeK) 73 W w0.heap.size (fun _=>True) v (nodesL (txG w h) w h s Q P):=by
 have:=a.nd.reads a.row a.apart d_c d_c d_c d_c
 rwa [a.ns] at this
theorem AllAt.opens (a:AllAt w0 W w h cs0 s Q P L v):∃ b o c,v = .slice (some ⟨b,o,none⟩) s.T.length c ∧ s.T.length ≤ c ∧ (∀ i,(hi:i < L.length) → W.cell? ⟨b,o + i,none⟩ = some (.pointer (some ⟨(L[i]'hi).p,0,none⟩))) ∧
  ∀ W',Below W.heap.size W W' → ∀ i (hi:i < (nodesL (txG w h) w h s Q P).length),NodeC W' b o i ((nodesL (txG w h) w h s Q P)[i]'hi):=by
 have hpos:=a.ok.pos
 obtain ⟨b,o,c,e,hc,_,hat⟩:=nodes_open a.reads (fun e=>absurd (show s.T.length = 0 by rw [← nodesL_len (tx:=txG w h) (w:=w) (h:=h) (s:=s) (Q:=Q) (P:=P),e];rfl) o_m)
 rw [nodesL_len] at e hc
 subst e
 refine ⟨b,o,c,rfl,hc,fun i hi=>?_,hat⟩
 obtain ⟨A,c2,e2,_,hC⟩:=Kd.R_reads a.row
 injection e2 with e2 e3 _
 subst e2
 obtain ⟨bk,o',e4,_,hcs⟩:=C_place hC (by rw [List.length_map];omega)
 injection e4 with e4
 injection e4 with e4 e5
 subst e4 e5
 exact hcs i _ (by rw [List.getElem?_map,List.getElem?_eq_getElem hi];rfl)
theorem Nodes.add {tN:TypeId} {base:Nat} (h:Nodes tN W base L) (hB:Below W.heap.size W w1) {p:Nat} (hp:W.heap.size ≤ p) (hb:base ≤ p) {g:Value} {n:Node} (hn:n.next = [])
  (hblk:w1.heap[p]? = some (.cells (NodeM.cells ⟨p,g,.slice none 0 0,n⟩) tN (0,0))) (hg:Kd.R (Kd.int .u8) 5 w1 base (fun _=>True) g n.grid):Nodes tN w1 base (L ++ [⟨p,g,.slice none 0 0,n⟩]):=by
 refine ⟨fun q hq=>?_,?_,?_⟩
 ·rcases List.mem_append.1 hq with hq | hq
  ·exact (h.at_ q hq).below hB
  ·rw [List.mem_singleton.1 hq]
   exact ⟨hb,hblk,hg,by show Kd.R (Kd.int .i64) _ _ _ _ (.slice none 0 0) n.next;rw [hn];exact Kd.R_nil _ _ _ _ _⟩
 ·rw [List.map_append,List.nodup_append]
  refine ⟨h.dup,by simp,fun a ha b hb=>?_⟩
  obtain ⟨q,hq,rfl⟩:=List.mem_map.1 ha
  have:=blk_lt (h.at_ q hq).blk
  rw [List.mem_singleton.1 hb]
  show q.p ≠ p
  omega
 ·rw [List.pairwise_append]
  refine ⟨h.own,by simp,fun a ha b hb k hk=>?_⟩
  rw [List.mem_singleton.1 hb]
  exact fun e=>by cases e
theorem AllAt.push (a:AllAt w0 W w h cs0 s Q P L v) {W1:World} {k d p:Nat} {c:List Int} {u:List Nat} {f:Nat} {g v1:Value} (hk:s.N.length = k) (hkT:k < s.T.length)
  (ok:RS.Ok w h cs0 { s with T:=s.T ++ [c],F:=s.F ++ [f],W:=s.W ++ [u],B:=s.B ++ [(k,d)] })
  (hB:Below W.heap.size W W1) (hp:W.heap.size ≤ p) (hblk:W1.heap[p]? = some (.cells #[.int .i64 w,.int .i64 h,g,.string (txG w h c),.int .i64 f,.int .i64 0,.int .i64 k,.int .i64 d,.slice none 0 0] 77 (0,0)))
  (hg:Kd.R (Kd.int .u8) 5 W1 w0.heap.size (fun _=>True) g c)
  (hr:ptrS.R 73 w1 w0.heap.size (fun _=>True) v1 (L.map NodeM.p ++ [p]))
  (hb:Below w0.heap.size w0 w1)
  (hgr:W1.grownBy w1 v.ownBlock) :
  AllAt w0 w1 w h cs0 { s with T:=s.T ++ [c],F:=s.F ++ [f],W:=s.W ++ [u],B:=s.B ++ [(k,d)] } (Q ++ [0]) P (L ++ [⟨p,g,.slice none 0 0,{ w:=w,h:=h,grid:=c,text:=txG w h c,far:=f,words:=0,before:=k,dir:=d,next:=[] }⟩]) v1:=by
 have hpp:=Nodes.add a.nd hB hp (Nat.le_trans a.bel.size hp) (g:=g) (n:={ w:=w,h:=h,grid:=c,text:=txG w h c,far:=f,words:=0,before:=k,dir:=d,next:=[] }) rfl hblk hg
 refine ⟨ok,by simp [a.lQ],?_,?_,by rw [List.map_append];exact hr,hb⟩
 ·rw [List.map_append,a.ns,nodesL_push a.ok.lF a.ok.lB a.lQ o_m (by have:=a.ok.pos;omega)];rfl
 ·have hty':∀ j,v.ownBlock = some j → ∃ cells,W1.heap[j]? = some (.cells cells 73 (0,0)):=fun j hj=>by
   obtain ⟨cells,hc⟩:=Kd.R_typed a.row j hj
   exact ⟨cells,(hB.block j (blk_lt hc)).trans hc⟩
  refine ⟨fun q hq=>?_,hpp.dup,hpp.own⟩
  have hN:=hpp.at_ q hq
  refine ⟨hN.low,?_,Kd.R_over' hN.grid hty' d_c hgr,Kd.R_over' hN.next hty' d_c hgr⟩
  refine blk_grown hN.blk hgr (fun e=>?_)
  obtain ⟨cells,hc⟩:=hty' _ e.symm
  rw [hN.blk] at hc
  injection hc with hc
  injection hc with _ ht _
  exact absurd ht d_c
theorem AllAt.words (a:AllAt w0 W w h cs0 s Q P L v) {i:Nat} (hi:i < L.length) (x:Int) :
  AllAt w0 (W.setCell ⟨(L[i]'hi).p,5,none⟩ (.int .i64 x)) w h cs0 s (Q.set i x) P (L.set i ⟨(L[i]'hi).p,(L[i]'hi).g,(L[i]'hi).x,{ (L[i]'hi).n with words:=x }⟩) v:=by
 have hil:i < (nodesL (txG w h) w h s Q P).length:=by rw [nodesL_len,← a.len];exact hi
 refine ⟨a.ok,by rw [List.length_set];exact a.lQ,?_,a.nd.put d_c d_c hi rfl rfl ?_,?_,a.bel.setCell (p:=⟨(L[i]'hi).p,5,none⟩) (a.nd.at_ _ (List.getElem_mem hi)).low _⟩
 ·rw [List.map_set,a.ns,nodesL_words hil a.lQ,nodesL_get,a.node hi]
 ·simp [NodeM.cells]
 ·rw [List.map_set]
  have e:(L.map NodeM.p).set i (L[i]'hi).p = L.map NodeM.p:=by
   apply List.ext_getElem (by simp)
   intro j h1 h2
   rw [List.getElem_set]
   split
   ·subst_vars;simp
   ·rfl
  show ptrS.R _ _ _ _ v ((L.map NodeM.p).set i (L[i]'hi).p)
  rw [e]
  exact R_off rfl a.row (a.blk hi) d_c _
theorem AllAt.way (a:AllAt w0 W w h cs0 s Q P L v) {k x:Nat} (hk:s.N.length = k) (hi:k < L.length) {v':Value} (hr:Kd.R (Kd.int .i64) 3 w1 w0.heap.size (fun _=>True) v' ((L[k]'hi).n.next ++ [(x:Int)]))
  (hg:W.grownBy w1 (L[k]'hi).x.ownBlock) (hb:Below w0.heap.size w0 w1) (hat:v'.ownBlock = (L[k]'hi).x.ownBlock ∨ ∃ b,v'.ownBlock = some b ∧ W.heap.size ≤ b) :
  AllAt w0 (w1.setCell ⟨(L[k]'hi).p,8,none⟩ v') w h cs0 s Q (P ++ [x]) (L.set k ⟨(L[k]'hi).p,(L[k]'hi).g,v',{ (L[k]'hi).n with next:=(L[k]'hi).n.next ++ [(x:Int)] }⟩) v:=by
 have hkl:s.N.length < (nodesL (txG w h) w h s Q P).length:=by rw [nodesL_len,← a.len,hk];exact hi
 refine ⟨a.ok,a.lQ,?_,a.nd.way d_c d_c hi hr hg hat,?_,hb.setCell (p:=⟨(L[k]'hi).p,8,none⟩) (a.nd.at_ _ (List.getElem_mem hi)).low _⟩
 ·rw [List.map_set,a.ns,nodesL_way hkl,nodesL_get]
  simp only [hk]
  rw [a.node hi]
 ·rw [List.map_set]
  have e:(L.map NodeM.p).set k (L[k]'hi).p = L.map NodeM.p:=by
   apply List.ext_getElem (by simp)
   intro j h1 h2
   rw [List.getElem_set]
   split
   ·subst_vars;simp
   ·rfl
  show ptrS.R _ _ _ _ v ((L.map NodeM.p).set k (L[k]'hi).p)
  rw [e]
  have h1:=Kd.R_over' a.row (Kd.R_typed (a.nd.at_ _ (List.getElem_mem hi)).next) d_c hg
  have h2:w1.heap[(L[k]'hi).p]? = some (.cells (L[k]'hi).cells 77 (0,0)):=blk_grown (a.blk hi) hg (fun e=>by
   obtain ⟨cells,hc⟩:=Kd.R_typed (a.nd.at_ _ (List.getElem_mem hi)).next _ e.symm
   rw [a.blk hi] at hc
   injection hc with hc
   injection hc with _ ht _
   exact absurd ht d_c)
  exact R_off rfl h1 h2 d_c _
theorem AllAt.row' (a:AllAt w0 W w h cs0 s Q P L v) (ok:RS.Ok w h cs0 { s with N:=s.N ++ [P] }):AllAt w0 W w h cs0 { s with N:=s.N ++ [P] } Q [] L v :=
 ⟨ok,a.lQ,a.ns.trans nodesL_row.symm,a.nd,a.row,a.bel⟩
theorem place_nodes (ok:RS.Ok w h cs0 s) {c:List Int} (vc:Vg (w,h,c)):placeR (nodesL (txG w h) w h s Q P) (txG w h c) = if findT s.T c < s.T.length then (findT s.T c:Int) else -1:=by
 have hN:∀ j,(hj:j < (nodesL (txG w h) w h s Q P).length) → (nodesL (txG w h) w h s Q P)[j].text = txG w h (s.T.getD j []):=fun j hj=>by rw [nodesL_get];rfl
 have hne:∀ j,(hj:j < s.T.length) → s.T[j] ≠ c → txG w h (s.T.getD j []) ≠ txG w h c:=fun j hj hn e=>by
  rw [getD_lt hj] at e
  have:=textB_inj (ok.tray _ (List.getElem_mem hj)) vc e
  injection this with _ this
  injection this with _ this
  exact hn this
 unfold placeR
 by_cases hf:findT s.T c < s.T.length
 ·have e1:placeN (nodesL (txG w h) w h s Q P) (txG w h c) = findT s.T c:=by
   refine placeN_at (fun j hj hjl=>?_) (by rw [nodesL_len];exact hf) ?_
   ·rw [hN j hjl]
    refine decide_eq_false (hne j (by rw [nodesL_len] at hjl;exact hjl) ?_)
    have:=List.not_of_lt_findIdx (p:=(· == c)) (xs:=s.T) (i:=j) hj
    simpa using this
   ·rw [hN _ (by rw [nodesL_len];exact hf),getD_lt hf,findT_get hf];exact decide_eq_true rfl
  rw [e1,nodesL_len]
 have e1:placeN (nodesL (txG w h) w h s Q P) (txG w h c) = (nodesL (txG w h) w h s Q P).length:=by
  refine placeN_none (fun j hj=>?_)
  rw [hN j hj]
  have hj':j < s.T.length:=by rw [nodesL_len] at hj;exact hj
  refine decide_eq_false (hne j hj' (fun e=>hf ?_))
  unfold findT
  rw [List.findIdx_lt_length]
  exact ⟨_,List.getElem_mem hj',by rw [e];exact beq_self_eq_true _⟩
 rw [e1,if_neg (Nat.lt_irrefl _),if_neg hf]
end
end Go.Proofs.YtldhkbiomingbaaGreatDoor.F

namespace Go.Proofs.YtldhkbiomingbaaGreatDoor
open Go.RowKit Go.YW.PrintWords Go.YW.PrintLast Go.YW.PrintMore Go.Lib Go.Shelf Go.Proofs.YtldhkbiomingbaaGreatDoor.F Go.Maps
attribute [local go_sem] max2_int min2_int
theorem putAll_put (cs out:List Int) (m:List (Nat × Nat)) (k t:Nat):putAll cs out (m ++ [(k,t)]) = (putAll cs out m).set t (cs.getD k 0):=by rw [putAll_app];rfl
theorem tiTilt_calls (a0 a1 dir:Int) (A2:Option Addr) (c2:Nat) (l2:List Int) (SN:List (List Nat)) (w:World) (hr2:Kd.C (Kd.int .u8) w A2 l2.length l2) (hc2:l2.length ≤ c2)
  (hl:0 < l2.length ∧ l2.length < 65536) (hS:∀ st ∈ SN,∀ i ∈ st,i < l2.length) (hlen1:SN.length < 65536) (hlen2:∀ st ∈ SN,st.length < 65536)
  (hcall:∀ W,Below w.heap.size w W → Calls Tryz.prog 120 #[.agg #[.int .i64 a0,.int .i64 a1,.slice A2 l2.length c2],.int .i64 dir] W fun e w'=>∃ v,e = .returned v ∧ Kd.N (Kd.slice 3 (Kd.int .i64)) 40 w' W.heap.size (fun k_=>W.heap.size ≤ k_) v (SN.map castsI) ∧ Below W.heap.size W w') :
  Calls Tryz.prog 100 #[.agg #[.int .i64 a0,.int .i64 a1,.slice A2 l2.length c2],.int .i64 dir] w fun e w'=>∃ v2_:Value,e = .returned (.agg #[.int .i64 a0,.int .i64 a1,v2_]) ∧ Kd.R (Kd.int .u8) 5 w' w.heap.size (fun _=>True) v2_ (putAll l2 (wallsL l2) (mvs (ballAt l2) SN)) ∧ Below w.heap.size w w':=by
 have hball:∀ (c:Int) (W:World),Calls Tryz.prog 116 #[.int .u8 c] W fun e w'=>e = .returned (.bool (isBallC c)) ∧ w'.heap = W.heap ∧ Below W.heap.size W w':=fun c W=>by
  refine (spec_tyBall.calls c (isBallC c) W (spec_tyBall_is c)).mono ?_
  rintro e w' ⟨rfl,⟨nd,rfl⟩⟩
  exact ⟨rfl,rfl,pw_below_drewN (Below.refl _ _) nd⟩
 have hemp:spec_tyWalls.f a0 a1 l2 = some (a0,a1,wallsL l2):=if_pos hl
 have HR:=am hr2
 have HC:=am hc2
 have HL:=am hl
 have HSS:=am hS
 have HLEN:=am (And.intro hlen1 hlen2)
 have HCALL:=am hcall
 obtain ⟨sb,so,rfl,hsb,hscells⟩:=C_place hr2 hl.1
 have hwalls:∀ W,Below w.heap.size w W → Calls Tryz.prog 119 #[.agg #[.int .i64 a0,.int .i64 a1,.slice (some ⟨sb,so,none⟩) l2.length c2]] W fun e w'=>∃ g co ts,e = .returned (.agg #[.int .i64 a0,.int .i64 a1,.slice (some ⟨g,0,none⟩) l2.length co]) ∧ W.heap.size ≤ g ∧ l2.length ≤ co ∧ w'.heap[g]? = some (.cells ((wallsL l2).map (Value.int .u8) ++ ts).toArray 5 (0,0)) ∧ ts.length + l2.length = co ∧ co ≤ maxLen ∧ Below W.heap.size W w':=fun W hW=>by
  refine (spec_tyWalls.calls a0 a1 _ c2 l2 a0 a1 (wallsL l2) W (Kd.C_below HR.out hW) HC.out hemp).mono ?_
  rintro e w' ⟨v2,rfl,ho,hb⟩
  have hwl:(wallsL l2).length = l2.length:=by simp [wallsL]
  obtain ⟨_,⟨rfl,h0⟩ | ⟨g,cap,cur,rfl,hg,hrow,hcl,hcm,hsz,htk⟩⟩:=Kd.own_of_R (enc:=Value.int .u8) (h1:=fun _=>rfl) ho
  ·have:=HL.out;omega
  ·rw [hwl] at hcl htk
   refine ⟨g,cap,cur.toList.drop l2.length,by rw [hwl],hg,hcl,?_,?_,hcm,hb⟩
   ·rw [hrow]
    congr 2
    have:(wallsL l2).map (Value.int .u8) ++ cur.toList.drop l2.length = cur.toList:=by
     rw [show (wallsL l2).map (Value.int .u8) = cur.toList.take l2.length from by rw [← encs,← htk,Nat.mul_one]]
     exact List.take_append_drop _ _
    rw [this]
   ·rw [List.length_drop,Array.length_toList];omega
 have HSC:=am hscells
 have HSB:=am hsb
 have HB:=am (Below.refl w.heap.size w)
 clear hr2 hc2 hl hS hlen1 hlen2 hscells hsb hcall hemp
 go_enter Tryz.func100,Tryz.ntmps100
 go_wp2_with (first
  | (refine bx 2 #[.int .i64 a0,.int .i64 a1,.slice (some ⟨sb,so,none⟩) l2.length c2] 75 ?_;intro b1 hg1 w3 hbox1 hb1;have G1:=am hg1;have X1:=am hbox1;have B1:=am hb1;clear hg1 hbox1 hb1)
  | (refine bx 4 #[.int .i64 0,.int .i64 0,.slice none 0 0] 75 ?_;intro b2 hg2 w4 hbox2 hb2;have G2:=am hg2;have X2:=am hbox2;have B2:=am (below_step B1.out hb2);have n1:=am (blk_below X1.out hb2);clear X1;have X1:=n1;clear n1;have z10:w4.cell? ⟨b1,0,none⟩ = some (.int .i64 a0):=(blk_cell X1.out 0).trans rfl;have z11:w4.cell? ⟨b1,1,none⟩ = some (.int .i64 a1):=(blk_cell X1.out 1).trans rfl;have z12:w4.cell? ⟨b1,2,none⟩ = some (.slice (some ⟨sb,so,none⟩) l2.length c2):=(blk_cell X1.out 2).trans rfl;clear hg2 hbox2 hb2)
  | (go_at_call 119;refine (hwalls _ B2.out).mono ?_;rintro e w5 ⟨g,co,ts,rfl,hg0,hco,hrow,hts,hcb,hb⟩;have G0:=am hg0;have HCO:=am hco;have HROW:=am hrow;have HTS:=am hts;have HCB:=am hcb;have B5:=am (below_step B2.out hb);have n2:=am (blk_below X2.out hb);have n1:=am (blk_below X1.out hb);clear X1 X2;have X2:=n2;have X1:=n1;clear n1 n2 z10 z11 z12;have hbl:(w5.alloc (.cells #[.int .i64 a0,.int .i64 a1,.slice (some ⟨g,0,none⟩) l2.length co] 75)).heap[b1]? = _:=(((Below.refl _ w5).alloc (Nat.le_refl _) _).block b1 (blk_lt X1.out)).trans X1.out;have z10:(w5.alloc (.cells #[.int .i64 a0,.int .i64 a1,.slice (some ⟨g,0,none⟩) l2.length co] 75)).cell? ⟨b1,0,none⟩ = some (.int .i64 a0):=(blk_cell hbl 0).trans rfl;have z11:(w5.alloc (.cells #[.int .i64 a0,.int .i64 a1,.slice (some ⟨g,0,none⟩) l2.length co] 75)).cell? ⟨b1,1,none⟩ = some (.int .i64 a1):=(blk_cell hbl 1).trans rfl;have z12:(w5.alloc (.cells #[.int .i64 a0,.int .i64 a1,.slice (some ⟨g,0,none⟩) l2.length co] 75)).cell? ⟨b1,2,none⟩ = some (.slice (some ⟨sb,so,none⟩) l2.length c2):=(blk_cell hbl 2).trans rfl;clear hbl hb hg0 hco hrow hts hcb)
  | (go_at_call 120;obtain ⟨b3,hb3⟩:∃ b3,w5.heap.size = b3:=⟨_,rfl⟩;obtain ⟨W8,hW8⟩:∃ W8,w5.alloc (.cells #[.int .i64 a0,.int .i64 a1,.slice (some ⟨g,0,none⟩) l2.length co] 75) = W8:=⟨_,rfl⟩;have hB58:Below b3 w5 W8:=(by rw [← hW8,← hb3];exact (Below.refl _ w5).alloc (Nat.le_refl _) _);have hB8:Below w.heap.size w W8:=(by rw [← hW8];exact B5.out.alloc B5.out.size _);have hsz:W8.heap.size = b3 + 1:=(by rw [← hW8,← hb3];simp);have x3:W8.heap[b3]? = some (.cells #[.int .i64 a0,.int .i64 a1,.slice (some ⟨g,0,none⟩) l2.length co] 75 (0,0)):=(by rw [← hW8,← hb3];exact World.alloc_heap_new w5 _);rw [hW8];(try simp only [hb3]);have HB58:=am hB58;have HB8:=am hB8;have HSZ:=am hsz;have X3:=am x3;have HW8:=am hb3;clear hB58 hB8 hsz x3 hW8 hb3 z10 z11 z12;refine (HCALL.out W8 HB8.out).mono ?_;rintro e w6 ⟨v,rfl,ho,hb⟩;obtain ⟨Av,cv,hv⟩:=Kd.N_slice ho;rw [List.length_map] at hv;subst hv;have ho':=Kd.N_mono ho (ok':=fun k=>b3 < k) (fun k hk=>by have:=HSZ.out;omega);have HO:=am ho';have B6:=am hb;clear ho ho' hb))
 have hgw:w.heap.size ≤ g:=Nat.le_trans B2.out.size G0.out
 have hg5:g < b3:=by rw [← HW8.out];exact blk_lt HROW.out
 have h1w:w.heap.size ≤ b1:=by rw [G1.out];exact Nat.le_refl _
 have h2w:w.heap.size ≤ b2:=by rw [G2.out];exact B1.out.size
 have h15:b1 < b3:=by rw [← HW8.out];exact blk_lt X1.out
 have h25:b2 < b3:=by rw [← HW8.out];exact blk_lt X2.out
 have h3s:b3 < W8.heap.size:=blk_lt X3.out
 have ROW6:=am ((B6.out.block g o_m).trans ((HB58.out.block g hg5).trans HROW.out))
 have Y3:=am ((B6.out.block b3 h3s).trans X3.out)
 have Y1:=am ((B6.out.block b1 o_m).trans ((HB58.out.block b1 h15).trans X1.out))
 have Y2:=am ((B6.out.block b2 o_m).trans ((HB58.out.block b2 h25).trans X2.out))
 have BW:=am (below_step HB8.out B6.out)
 have gb1:b1 ≠ g:=Ne.symm (blk_ne ROW6.out Y1.out d_c)
 have gb2:b2 ≠ g:=Ne.symm (blk_ne ROW6.out Y2.out d_c)
 have gb3:b3 ≠ g:=by omega
 have GB:=am (And.intro gb1 (And.intro gb2 (And.intro gb3 (And.intro hgw h2w))))
 have rows:∀ j,(hj:j < SN.length) → ∃ bk o A0 c0,Av = some ⟨bk,o,none⟩ ∧ SN[j].length ≤ c0 ∧ ∀ W,KeepBut w6 W g none → W.cell? ⟨bk,o + j,none⟩ = some (.slice A0 SN[j].length c0) ∧ Kd.C (Kd.int .i64) W A0 SN[j].length (castsI SN[j]):=fun j hj=>by
  have hgd:(SN.map castsI).getD j [] = castsI SN[j]:=by
   rw [List.getD_eq_getElem?_getD,List.getElem?_map,List.getElem?_eq_getElem hj];rfl
  have get:∀ W,KeepBut w6 W g none → ∃ bk o A0 c0,Av = some ⟨bk,o,none⟩ ∧ W.cell? ⟨bk,o + j,none⟩ = some (.slice A0 SN[j].length c0) ∧ SN[j].length ≤ c0 ∧ Kd.C (Kd.int .i64) W A0 SN[j].length (castsI SN[j]):=fun W hk=>by
   obtain ⟨A,c,e,_,hC⟩:=Kd.N_reads (Kd.N_keep HO.out hk (fun k h=>by omega))
   injection e with e1 e2 e3
   subst e1
   obtain ⟨bk,o,A0,c0,q1,q2,q3,q4⟩:=row_at hC j (by rw [List.length_map];exact hj)
   rw [hgd,castsI_length] at q2 q3 q4
   exact ⟨bk,o,A0,c0,q1,q2,q3,q4⟩
  have k5:KeepBut w6 w6 g none:=⟨Nat.le_refl _,fun _ _ _ _=>rfl⟩
  obtain ⟨bk,o,A0,c0,q1,q2,q3,q4⟩:=get w6 k5
  refine ⟨bk,o,A0,c0,q1,q3,fun W hk=>?_⟩
  obtain ⟨bk',o',A0',c0',r1,r2,r3,r4⟩:=get W hk
  rw [q1] at r1
  injection r1 with r1
  injection r1 with r1 r1'
  subst r1 r1'
  have hne:bk ≠ g:=by
   have:=HO.out.1 bk (by rw [q1];rfl)
   omega
  have he:W.cell? ⟨bk,o + j,none⟩ = w6.cell? ⟨bk,o + j,none⟩:=World.cell?_of_block (hk.2 bk (World.block_lt_of_cell? w6 _ q2) hne (by simp))
  rw [he,q2] at r2
  injection r2 with r2
  injection r2 with r2 _ r2'
  subst r2 r2'
  exact ⟨by rw [he];exact q2,r4⟩
 have ROWS:=am rows
 have K6:=am (show KeepBut w6 w6 g none from ⟨Nat.le_refl _,fun _ _ _ _=>rfl⟩)
 clear rows gb1 gb2 gb3 hgw hg5 h1w h2w h15 h25 h3s HO HCALL hwalls X1 X2 X3 HROW HB58 HB8 B6 HSZ HW8 G0 G1 G2 B1 B2 B5
 go_wp2
 go_loopw [17] (fun v17 wr=>∃ j:Nat,j ≤ SN.length ∧ v17 = .int .i64 j ∧ Aside0 (wr.heap[g]? = some (.cells ((putAll l2 (wallsL l2) (mvs (ballAt l2) (SN.take j))).map (Value.int .u8) ++ ts).toArray 5 (0,0))) ∧ Aside0 (KeepBut w6 wr g none) ∧ Aside0 (Below w.heap.size w wr)) (fun v17 _=>SN.length - (intOf v17).toNat)
 case atStart=>exact ⟨0,Nat.zero_le _,rfl,ROW6,K6,BW⟩
 case round =>
  obtain ⟨j,hj,rfl,Mr,Kr,Br⟩:=hrel
  by_cases hlt:j < SN.length
  rotate_left
  ·have hge:¬ (j:Int) < (SN.length:Int):=by omega
   have M':=Mr.out
   rw [List.take_of_length_le o_m] at M'
   have Z3:wr.heap[b3]? = _:=(Kr.out.2 b3 (blk_lt Y3.out) GB.out.2.2.1 (by simp)).trans Y3.out
   have Z2:wr.heap[b2]? = _:=(Kr.out.2 b2 (blk_lt Y2.out) GB.out.2.1 (by simp)).trans Y2.out
   have y0:wr.cell? ⟨b3,0,none⟩ = some (.int .i64 a0):=(blk_cell Z3 0).trans rfl
   have y1:wr.cell? ⟨b3,1,none⟩ = some (.int .i64 a1):=(blk_cell Z3 1).trans rfl
   have y2:wr.cell? ⟨b3,2,none⟩ = some (.slice (some ⟨g,0,none⟩) l2.length co):=(blk_cell Z3 2).trans rfl
   have e0:wr.cell? ⟨b2,0,none⟩ = some (.int .i64 0):=(blk_cell Z2 0).trans rfl
   have e1:wr.cell? ⟨b2,1,none⟩ = some (.int .i64 0):=(blk_cell Z2 1).trans rfl
   have e2:wr.cell? ⟨b2,2,none⟩ = some (.slice none 0 0):=(blk_cell Z2 2).trans rfl
   have f0:=blk_frozen Z2 0
   have f1:=blk_frozen Z2 1
   have f2:=blk_frozen Z2 2
   have RR:=am M'
   have ZZ2:=am Z2
   clear M' Z2 Z3
   go_wp2
   refine bodyPost_ret (results_cell_row rfl _ _ b2 75 #[.int .i64 a0,.int .i64 a1,.slice (some ⟨g,0,none⟩) l2.length co] (0,0) _ rfl (by exact blk_put (blk_put (blk_put ZZ2.out 0 (.int .i64 a0) rfl) 1 (.int .i64 a1) rfl) 2 (.slice (some ⟨g,0,none⟩) l2.length co) rfl) Tryz.underlying75 rfl k_r) rfl ?_
   obtain ⟨n1,n2,n3,hgw,h2w⟩:=GB.out
   refine ⟨.slice (some ⟨g,0,none⟩) l2.length co,rfl,?_,((Br.out.setCell (p:=⟨b2,0,none⟩) h2w _).setCell (p:=⟨b2,1,none⟩) h2w _).setCell (p:=⟨b2,2,none⟩) h2w _⟩
   have hrl:(putAll l2 (wallsL l2) (mvs (ballAt l2) SN)).length = l2.length:=by rw [putAll_length];simp [wallsL]
   rw [← hrl]
   refine Kd.R_of_own (enc:=Value.int .u8) (h1:=fun _=>rfl) ?_ (fun _ _=>trivial)
   have n2':g ≠ b2:=Ne.symm n2
   refine ⟨by simp [encs],.inr ⟨g,co,_,rfl,hgw,blk_far (blk_far (blk_far RR.out (p:=⟨b2,0,none⟩) n2' _) (p:=⟨b2,1,none⟩) n2' _) (p:=⟨b2,2,none⟩) n2' _,by rw [hrl];exact HCO.out,HCB.out,?_,?_⟩⟩
   ·have:=HTS.out
    simp [hrl];omega
   ·rw [Nat.mul_one,List.take_append_of_le_length (by simp),List.take_of_length_le (by simp)];rfl
  obtain ⟨bk,o,A0,c0,rfl,hc0,hat⟩:=ROWS.out j hlt
  have hcell:=(hat wr Kr.out).1
  have hltI:(j:Int) < (SN.length:Int):=by omega
  have hstl:=HLEN.out.2 SN[j] (List.getElem_mem hlt)
  have hmv:=mvs_take (b:=ballAt l2) hlt
  have hin:=HSS.out SN[j] (List.getElem_mem hlt)
  generalize hst:SN[j] = st at *
  have HMV:=am hmv
  have HAT:=am hat
  have HIN:=am hin
  have HSTL:=am hstl
  have HJ:=am hlt
  clear hmv hat hin hstl hst hj hlt
  go_wp2
  go_loopw [8,23] (fun v8 v23 wq=>∃ i:Nat,i ≤ st.length ∧ v23 = .int .i64 i ∧ v8 = .int .i64 ((((st.take i).filter (ballAt l2)).length:Nat):Int) ∧ Aside0 (wq.heap[g]? = some (.cells ((putAll l2 (wallsL l2) (mvs (ballAt l2) (SN.take j) ++ partM (ballAt l2) st i)).map (Value.int .u8) ++ ts).toArray 5 (0,0))) ∧ Aside0 (KeepBut w6 wq g none) ∧ Aside0 (Below w.heap.size w wq)) (fun _ v23 _=>st.length - (intOf v23).toNat)
  case atStart=>exact ⟨0,Nat.zero_le _,rfl,rfl,⟨by unfold partM;simp;exact Mr.out⟩,Kr,Br⟩
  case round =>
   obtain ⟨i,hi,rfl,rfl,Mq,Kq,Bq⟩:=hrel
   by_cases hlt2:i < st.length
   rotate_left
   ·have hge:¬ (i:Int) < (st.length:Int):=by omega
    obtain rfl:i = st.length:=by omega
    have M2:Aside0 (wr.heap[g]? = some (.cells ((putAll l2 (wallsL l2) (mvs (ballAt l2) (SN.take (j + 1)))).map (Value.int .u8) ++ ts).toArray 5 (0,0))):=⟨by rw [HMV.out];exact Mq.out⟩
    have hw:IntKind.i64.wrap ((j:Int) + 1) = ((j + 1:Nat):Int):=by rw [IntKind.wrap_i64];have:=HLEN.out.1;have:=HJ.out;omega
    go_wp2
    go_roundw
    case rel=>exact ⟨j + 1,by have:=HJ.out;omega,by first | rfl | simp,M2,Kq,Bq⟩
    case measure=>have:=HJ.out;simp [intOf];omega
   obtain ⟨_,hCq⟩:=HAT.out wr Kq.out
   obtain ⟨bo,oo,hA0,hbo,hcs⟩:=C_place (by rw [← castsI_length st] at hCq;exact hCq) (by rw [castsI_length];omega)
   have x1:wr.cell? ⟨bo,oo + i,none⟩ = some (.int .i64 ((st[i]'hlt2:Nat):Int)):=hcs i _ (castsI_getD st i hlt2)
   have hcnt:=cnt_le (ballAt l2) st i
   have x2:wr.cell? ⟨bo,oo + ((st.take i).filter (ballAt l2)).length,none⟩ = some (.int .i64 ((st.getD ((st.take i).filter (ballAt l2)).length 0:Nat):Int)):=hcs _ _ (by rw [castsI_getD st _ o_m];rw [List.getD_eq_getElem?_getD,List.getElem?_eq_getElem o_m];rfl)
   have hk:=HIN.out _ (List.getElem_mem hlt2)
   have hYES:=partM_yes (b:=ballAt l2) hlt2
   have hNO:=partM_no (b:=ballAt l2) hlt2
   have htf:=take_filter (b:=ballAt l2) hlt2
   have Xr:wr.heap[b1]? = _:=(Kq.out.2 b1 (blk_lt Y1.out) GB.out.1 (by simp)).trans Y1.out
   have Xr3:wr.heap[b3]? = _:=(Kq.out.2 b3 (blk_lt Y3.out) GB.out.2.2.1 (by simp)).trans Y3.out
   have z2:wr.cell? ⟨b1,2,none⟩ = some (.slice (some ⟨sb,so,none⟩) l2.length c2):=(blk_cell Xr 2).trans rfl
   have htq:st.getD ((st.take i).filter (ballAt l2)).length 0 < l2.length:=by
    rw [List.getD_eq_getElem?_getD,List.getElem?_eq_getElem o_m];exact HIN.out _ (List.getElem_mem _)
   generalize hcn:((st.take i).filter (ballAt l2)).length = cnt at *
   generalize hki:st[i]'hlt2 = k at *
   generalize hto:st.getD cnt 0 = tq at *
   have src:wr.cell? ⟨sb,so + k,none⟩ = some (.int .u8 (l2.getD k 0)):=(Bq.out.cell (p:=⟨sb,so + k,none⟩) HSB.out).trans (HSC.out k _ (by rw [getD_at hk];exact List.getElem?_eq_getElem hk))
   have hbb:isBallC (l2.getD k 0) = ballAt l2 k:=rfl
   have hput:=putAll_put l2 (wallsL l2) (mvs (ballAt l2) (SN.take j) ++ partM (ballAt l2) st i) k tq
   have hpl:(putAll l2 (wallsL l2) (mvs (ballAt l2) (SN.take j) ++ partM (ballAt l2) st i)).length = l2.length:=by rw [putAll_length];simp [wallsL]
   have dst:wr.cell? ⟨g,tq,none⟩ = some (.int .u8 ((putAll l2 (wallsL l2) (mvs (ballAt l2) (SN.take j) ++ partM (ballAt l2) st i)).getD tq 0)):=(blk_cell Mq.out tq).trans (cells_get _ ts tq (by rw [hpl];exact htq))
   have hset:=cells_of (n:=0) (putAll l2 (wallsL l2) (mvs (ballAt l2) (SN.take j) ++ partM (ballAt l2) st i)) ts tq (by rw [hpl];exact htq) (l2.getD k 0)
   generalize l2.getD k 0 = c at *
   have hltI2:(i:Int) < (st.length:Int):=by omega
   have hkI:(k:Int) < (l2.length:Int):=by omega
   have hcI:(cnt:Int) < (st.length:Int):=by omega
   have htI:(tq:Int) < (l2.length:Int):=by omega
   subst hA0
   have hw1:IntKind.i64.wrap ((i:Int) + 1) = ((i + 1:Nat):Int):=by rw [IntKind.wrap_i64];have:=HSTL.out;omega
   have hw2:IntKind.i64.wrap ((cnt:Int) + 1) = ((cnt + 1:Nat):Int):=by rw [IntKind.wrap_i64];have:=HSTL.out;omega
   have HII:=am (And.intro hi hlt2)
   have HTF:=am htf
   have HYES:=am hYES
   have HNO:=am hNO
   have HBB:=am hbb
   have HBO:=am hbo
   have HCN:=am hcn
   have HPUT:=am hput
   have HSET:=am hset
   have DST:=am dst
   have XR3:=am Xr3
   have XR1:=am Xr
   have ZS:=am (And.intro x2 src)
   clear hi hlt2 htf hYES hNO hcs hCq hcnt hk hcn hki hto Xr Xr3 hbo hput hset dst hpl htq
   cases hbt:ballAt l2 k with
   | true =>
    rw [hbt] at hbb
    go_wp2_with (first
     | (go_at_call 116;refine (hball c _).mono ?_;rw [hbb];rintro e w9 ⟨rfl,hh,hb9⟩;have HH:=am hh;have B9:=am (below_step Bq.out hb9);clear hh hb9 x1 x2 z2 src))
    have cellH:∀ p:Addr,w9.cell? p = wr.cell? p:=fun p=>World.cell?_of_block (congrArg (fun h=>h[p.block]?) HH.out)
    have y2:w9.cell? ⟨bo,oo + cnt,none⟩ = some (.int .i64 ((tq:Nat):Int)):=(cellH _).trans ZS.out.1
    have src:w9.cell? ⟨sb,so + k,none⟩ = some (.int .u8 c):=(cellH _).trans ZS.out.2
    have z2:w9.cell? ⟨b1,2,none⟩ = some (.slice (some ⟨sb,so,none⟩) l2.length c2):=(cellH _).trans ((blk_cell XR1.out 2).trans rfl)
    have z3:w9.cell? ⟨b3,2,none⟩ = some (.slice (some ⟨g,0,none⟩) l2.length co):=(cellH _).trans ((blk_cell XR3.out 2).trans rfl)
    have dst:w9.cell? ⟨g,tq,none⟩ = some _:=(cellH _).trans DST.out
    have ROW9:w9.heap[g]? = _:=(congrArg (fun h=>h[g]?) HH.out).trans Mq.out
    have hf:=blk_frozen ROW9 tq
    have HROW9:=am ROW9
    have HK9:=am (show KeepBut w6 w9 g none from ⟨by rw [HH.out];exact Kq.out.1,fun q h1 h2 h3=>(congrArg (fun h=>h[q]?) HH.out).trans (Kq.out.2 q h1 h2 h3)⟩)
    clear cellH ROW9
    go_wp2
    go_still_tail 12,k_r
    change wpList _ _ _ _ _ w9.drew
    have dst':w9.drew.cell? ⟨g,tq,none⟩ = some _:=dst
    have hf':w9.drew.frozen? ⟨g,tq,none⟩ = false:=hf
    have DROW:Aside0 (w9.drew.heap[g]? = _):=HROW9
    have DK:Aside0 (KeepBut w6 w9.drew g none):=⟨⟨HK9.out.1,fun q h1 h2 h3=>HK9.out.2 q h1 h2 h3⟩⟩
    have DB:Aside0 (Below w.heap.size w w9.drew):=⟨below_drew1 B9.out⟩
    clear dst hf HROW9 HK9 B9 y2 z2 z3 src HH
    generalize w9.drew = w2 at dst' hf' DROW DK DB ⊢
    go_wp2
    go_roundw
    case rel=>exact ⟨i + 1,by have:=HII.out;omega,by first | rfl | simp,by rw [HTF.out,if_pos hbt,List.length_append,HCN.out];first | rfl | simp,⟨by rw [HYES.out hbt,← List.append_assoc,HPUT.out,← HSET.out];exact blk_put DROW.out tq _ rfl⟩,⟨KeepBut.set_ DK.out tq _⟩,⟨DB.out.setCell (p:=⟨g,tq,none⟩) GB.out.2.2.2.1 _⟩⟩
    case measure=>have:=HII.out;simp [intOf];omega
   | false =>
    rw [hbt] at hbb
    go_wp2_with (first
     | (go_at_call 116;refine (hball c _).mono ?_;rw [hbb];rintro e w9 ⟨rfl,hh,hb9⟩;have HH:=am hh;have B9:=am (below_step Bq.out hb9);clear hh hb9 x1 x2 z2 src))
    go_roundw
    case rel=>exact ⟨i + 1,by have:=HII.out;omega,by first | rfl | simp,by rw [HTF.out,if_neg (by rw [hbt];exact Bool.false_ne_true),HCN.out],⟨by rw [HNO.out hbt];exact (congrArg (fun h=>h[g]?) HH.out).trans Mq.out⟩,⟨by rw [HH.out];exact Kq.out.1,fun q h1 h2 h3=>(congrArg (fun h=>h[q]?) HH.out).trans (Kq.out.2 q h1 h2 h3)⟩,B9⟩
    case measure=>have:=HII.out;simp [intOf];omega
end Go.Proofs.YtldhkbiomingbaaGreatDoor

namespace Go.Proofs.YtldhkbiomingbaaGreatDoor.F
open Go.Proofs.YtldhkbiomingbaaGreatDoor
open Go.RowKit Go.YW.PrintWords Go.YW.PrintLast Go.YW.PrintMore
attribute [local go_sem] max2_int min2_int max_two min_two max_three min_three max_four min_four
def spec_tyCell.f (a0_0:Int) (a0_1:Int) (l0_2:List Int) (a1:Int) (a2:Int):Option (Bool):=(spec_l1In.f a1 0 (wrap64 (a0_0 - 1))).bind fun t102=>(if t102 = true then ((spec_l1In.f a2 0 (wrap64 (a0_1 - 1))).bind fun t103=>(some t103)) else (some false))
theorem spec_tyCell.calls (a0_0:Int) (a0_1:Int) (A0_2:Option Addr) (c0_2:Nat) (l0_2:List Int) (a1:Int) (a2:Int) (r:Bool) (w:World) (hr0_2:Kd.C (Kd.int .u8) w A0_2 l0_2.length l0_2) (hc0_2:l0_2.length ≤ c0_2) (h:spec_tyCell.f a0_0 a0_1 l0_2 a1 a2 = some r) :
  Calls Tryz.prog 192 #[.agg #[.int .i64 a0_0,.int .i64 a0_1,.slice A0_2 l0_2.length c0_2],.int .i64 a1,.int .i64 a2] w fun e w'=>e = .returned (.bool r) ∧ Below w.heap.size w w':=by
 have hu75:=Tryz.underlying75
 have HR0_2:=am hr0_2
 have HC0_2:=am hc0_2
 clear hr0_2 hc0_2
 have HB:=am (Below.refl w.heap.size w)
 have H:((spec_l1In.f a1 0 (wrap64 (a0_0 - 1))).bind fun t102=>(if t102 = true then ((spec_l1In.f a2 0 (wrap64 (a0_1 - 1))).bind fun t103=>(some t103)) else (some false))) = some r:=h
 clear h
 obtain ⟨t102,A4,H⟩:=bn H
 by_cases c5:t102 = true
 rotate_left
 ·replace c5:=Bool.eq_false_iff.mpr c5
  subst c5
  rw [if_neg Bool.false_ne_true] at H
  obtain rfl:=Option.some.inj H
  go_enter Tryz.func192,Tryz.ntmps192
  go_wp2_with (first | (refine bx 3 #[.int .i64 a0_0,.int .i64 a0_1,.slice A0_2 l0_2.length c0_2] 75 ?_;intro gb101 hg w9 hbox hb;have BK101:=am (hbox);have GW101:=am ((by rw [hg];exact (below_size aq1):w.heap.size ≤ gb101));have GE101:=GW101;replace HB:=am (below_step aq1 hb);clear hb hbox hg;obtain ⟨hcz10_0,hcz10_1,hcz10_2,hfz10_0,hfz10_1,hfz10_2⟩:=blk3_ BK101.out) | ((with_reducible refine gate_callee (f:=68) rfl ?_);refine goesL_ (some 11) rfl rfl Tryz.func68 k_r rfl #[.int .i64 a1,.int .i64 0,.int .i64 (wrap64 (a0_0 - 1))] rfl aq7 ?_;(with_reducible refine (spec_l1In.calls a1 0 (wrap64 (a0_0 - 1)) false _ A4.out).mono ?_);rintro e w' ⟨rfl,⟨nd,rfl⟩⟩;refine ⟨_,rfl,?_⟩))
  go_ret
  exact ⟨aq8,aq0⟩
 subst c5
 rw [if_pos rfl] at H
 obtain ⟨t103,A6,H⟩:=bn H
 obtain rfl:=Option.some.inj H
 go_enter Tryz.func192,Tryz.ntmps192
 go_wp2_with (first | (refine bx 3 #[.int .i64 a0_0,.int .i64 a0_1,.slice A0_2 l0_2.length c0_2] 75 ?_;intro gb101 hg w7 hbox hb;have BK101:=am (hbox);have GW101:=am ((by rw [hg];exact (below_size aq1):w.heap.size ≤ gb101));have GE101:=GW101;replace HB:=am (below_step aq1 hb);clear hb hbox hg;obtain ⟨hcz8_0,hcz8_1,hcz8_2,hfz8_0,hfz8_1,hfz8_2⟩:=blk3_ BK101.out) | ((with_reducible refine gate_callee (f:=68) rfl ?_);refine goesL_ (some 11) rfl rfl Tryz.func68 k_r rfl #[.int .i64 a1,.int .i64 0,.int .i64 (wrap64 (a0_0 - 1))] rfl aq7 ?_;(with_reducible refine (spec_l1In.calls a1 0 (wrap64 (a0_0 - 1)) true _ A4.out).mono ?_);rintro e w' ⟨rfl,⟨nd,rfl⟩⟩;refine ⟨_,rfl,?_⟩) | (go_at_call 68;(with_reducible refine (spec_l1In.calls a2 0 (wrap64 (a0_1 - 1)) t103 _ A6.out).mono ?_);rintro e w' ⟨rfl,⟨nd,rfl⟩⟩))
 go_ret
 exact ⟨aq8,aq0⟩
def spec_tiAhead.f (a0_0:Int) (a0_1:Int) (l0_2:List Int) (a1:Int) (a2:Int):Option (Int):=if a0_0 = 0 then (none) else (if a2 = 0 then ((spec_tyCell.f a0_0 a0_1 l0_2 (Int.tmod a1 a0_0) (wrap64 ((wrap64 (Int.tdiv a1 a0_0)) - 1))).bind fun t102=>(if t102 = true then (if 0 ≤ (wrap64 ((wrap64 ((wrap64 ((wrap64 (Int.tdiv a1 a0_0)) - 1)) * a0_0)) + (Int.tmod a1 a0_0))) then (if (wrap64 ((wrap64 ((wrap64 ((wrap64 (Int.tdiv a1 a0_0)) - 1)) * a0_0)) + (Int.tmod a1 a0_0))) < (l0_2.length:Int) then (if (rd l0_2 (wrap64 ((wrap64 ((wrap64 ((wrap64 (Int.tdiv a1 a0_0)) - 1)) * a0_0)) + (Int.tmod a1 a0_0)))) = 35 then (some (-1)) else (some (wrap64 ((wrap64 ((wrap64 ((wrap64 (Int.tdiv a1 a0_0)) - 1)) * a0_0)) + (Int.tmod a1 a0_0))))) else (none)) else (none)) else (some (-1)))) else (if a2 = 1 then ((spec_tyCell.f a0_0 a0_1 l0_2 (wrap64 ((Int.tmod a1 a0_0) + 1)) (wrap64 (Int.tdiv a1 a0_0))).bind fun t104=>(if t104 = true then (if 0 ≤ (wrap64 ((wrap64 ((wrap64 (Int.tdiv a1 a0_0)) * a0_0)) + (wrap64 ((Int.tmod a1 a0_0) + 1)))) then (if (wrap64 ((wrap64 ((wrap64 (Int.tdiv a1 a0_0)) * a0_0)) + (wrap64 ((Int.tmod a1 a0_0) + 1)))) < (l0_2.length:Int) then (if (rd l0_2 (wrap64 ((wrap64 ((wrap64 (Int.tdiv a1 a0_0)) * a0_0)) + (wrap64 ((Int.tmod a1 a0_0) + 1))))) = 35 then (some (-1)) else (some (wrap64 ((wrap64 ((wrap64 (Int.tdiv a1 a0_0)) * a0_0)) + (wrap64 ((Int.tmod a1 a0_0) + 1)))))) else (none)) else (none)) else (some (-1)))) else (if a2 = 2 then ((spec_tyCell.f a0_0 a0_1 l0_2 (Int.tmod a1 a0_0) (wrap64 ((wrap64 (Int.tdiv a1 a0_0)) + 1))).bind fun t106=>(if t106 = true then (if 0 ≤ (wrap64 ((wrap64 ((wrap64 ((wrap64 (Int.tdiv a1 a0_0)) + 1)) * a0_0)) + (Int.tmod a1 a0_0))) then (if (wrap64 ((wrap64 ((wrap64 ((wrap64 (Int.tdiv a1 a0_0)) + 1)) * a0_0)) + (Int.tmod a1 a0_0))) < (l0_2.length:Int) then (if (rd l0_2 (wrap64 ((wrap64 ((wrap64 ((wrap64 (Int.tdiv a1 a0_0)) + 1)) * a0_0)) + (Int.tmod a1 a0_0)))) = 35 then (some (-1)) else (some (wrap64 ((wrap64 ((wrap64 ((wrap64 (Int.tdiv a1 a0_0)) + 1)) * a0_0)) + (Int.tmod a1 a0_0))))) else (none)) else (none)) else (some (-1)))) else ((spec_tyCell.f a0_0 a0_1 l0_2 (wrap64 ((Int.tmod a1 a0_0) - 1)) (wrap64 (Int.tdiv a1 a0_0))).bind fun t108=>(if t108 = true then (if 0 ≤ (wrap64 ((wrap64 ((wrap64 (Int.tdiv a1 a0_0)) * a0_0)) + (wrap64 ((Int.tmod a1 a0_0) - 1)))) then (if (wrap64 ((wrap64 ((wrap64 (Int.tdiv a1 a0_0)) * a0_0)) + (wrap64 ((Int.tmod a1 a0_0) - 1)))) < (l0_2.length:Int) then (if (rd l0_2 (wrap64 ((wrap64 ((wrap64 (Int.tdiv a1 a0_0)) * a0_0)) + (wrap64 ((Int.tmod a1 a0_0) - 1))))) = 35 then (some (-1)) else (some (wrap64 ((wrap64 ((wrap64 (Int.tdiv a1 a0_0)) * a0_0)) + (wrap64 ((Int.tmod a1 a0_0) - 1)))))) else (none)) else (none)) else (some (-1)))))))
theorem spec_tiAhead.calls (a0_0:Int) (a0_1:Int) (A0_2:Option Addr) (c0_2:Nat) (l0_2:List Int) (a1:Int) (a2:Int) (r:Int) (w:World) (hr0_2:Kd.C (Kd.int .u8) w A0_2 l0_2.length l0_2) (hc0_2:l0_2.length ≤ c0_2) (h:spec_tiAhead.f a0_0 a0_1 l0_2 a1 a2 = some r) :
  Calls Tryz.prog 160 #[.agg #[.int .i64 a0_0,.int .i64 a0_1,.slice A0_2 l0_2.length c0_2],.int .i64 a1,.int .i64 a2] w fun e w'=>e = .returned (.int .i64 r) ∧ Below w.heap.size w w':=by
 have hu75:=Tryz.underlying75
 have HR0_2:=am hr0_2
 have HC0_2:=am hc0_2
 clear hr0_2 hc0_2
 have HB:=am (Below.refl w.heap.size w)
 have H:(if a0_0 = 0 then (none) else (if a2 = 0 then ((spec_tyCell.f a0_0 a0_1 l0_2 (Int.tmod a1 a0_0) (wrap64 ((wrap64 (Int.tdiv a1 a0_0)) - 1))).bind fun t102=>(if t102 = true then (if 0 ≤ (wrap64 ((wrap64 ((wrap64 ((wrap64 (Int.tdiv a1 a0_0)) - 1)) * a0_0)) + (Int.tmod a1 a0_0))) then (if (wrap64 ((wrap64 ((wrap64 ((wrap64 (Int.tdiv a1 a0_0)) - 1)) * a0_0)) + (Int.tmod a1 a0_0))) < (l0_2.length:Int) then (if (rd l0_2 (wrap64 ((wrap64 ((wrap64 ((wrap64 (Int.tdiv a1 a0_0)) - 1)) * a0_0)) + (Int.tmod a1 a0_0)))) = 35 then (some (-1)) else (some (wrap64 ((wrap64 ((wrap64 ((wrap64 (Int.tdiv a1 a0_0)) - 1)) * a0_0)) + (Int.tmod a1 a0_0))))) else (none)) else (none)) else (some (-1)))) else (if a2 = 1 then ((spec_tyCell.f a0_0 a0_1 l0_2 (wrap64 ((Int.tmod a1 a0_0) + 1)) (wrap64 (Int.tdiv a1 a0_0))).bind fun t104=>(if t104 = true then (if 0 ≤ (wrap64 ((wrap64 ((wrap64 (Int.tdiv a1 a0_0)) * a0_0)) + (wrap64 ((Int.tmod a1 a0_0) + 1)))) then (if (wrap64 ((wrap64 ((wrap64 (Int.tdiv a1 a0_0)) * a0_0)) + (wrap64 ((Int.tmod a1 a0_0) + 1)))) < (l0_2.length:Int) then (if (rd l0_2 (wrap64 ((wrap64 ((wrap64 (Int.tdiv a1 a0_0)) * a0_0)) + (wrap64 ((Int.tmod a1 a0_0) + 1))))) = 35 then (some (-1)) else (some (wrap64 ((wrap64 ((wrap64 (Int.tdiv a1 a0_0)) * a0_0)) + (wrap64 ((Int.tmod a1 a0_0) + 1)))))) else (none)) else (none)) else (some (-1)))) else (if a2 = 2 then ((spec_tyCell.f a0_0 a0_1 l0_2 (Int.tmod a1 a0_0) (wrap64 ((wrap64 (Int.tdiv a1 a0_0)) + 1))).bind fun t106=>(if t106 = true then (if 0 ≤ (wrap64 ((wrap64 ((wrap64 ((wrap64 (Int.tdiv a1 a0_0)) + 1)) * a0_0)) + (Int.tmod a1 a0_0))) then (if (wrap64 ((wrap64 ((wrap64 ((wrap64 (Int.tdiv a1 a0_0)) + 1)) * a0_0)) + (Int.tmod a1 a0_0))) < (l0_2.length:Int) then (if (rd l0_2 (wrap64 ((wrap64 ((wrap64 ((wrap64 (Int.tdiv a1 a0_0)) + 1)) * a0_0)) + (Int.tmod a1 a0_0)))) = 35 then (some (-1)) else (some (wrap64 ((wrap64 ((wrap64 ((wrap64 (Int.tdiv a1 a0_0)) + 1)) * a0_0)) + (Int.tmod a1 a0_0))))) else (none)) else (none)) else (some (-1)))) else ((spec_tyCell.f a0_0 a0_1 l0_2 (wrap64 ((Int.tmod a1 a0_0) - 1)) (wrap64 (Int.tdiv a1 a0_0))).bind fun t108=>(if t108 = true then (if 0 ≤ (wrap64 ((wrap64 ((wrap64 (Int.tdiv a1 a0_0)) * a0_0)) + (wrap64 ((Int.tmod a1 a0_0) - 1)))) then (if (wrap64 ((wrap64 ((wrap64 (Int.tdiv a1 a0_0)) * a0_0)) + (wrap64 ((Int.tmod a1 a0_0) - 1)))) < (l0_2.length:Int) then (if (rd l0_2 (wrap64 ((wrap64 ((wrap64 (Int.tdiv a1 a0_0)) * a0_0)) + (wrap64 ((Int.tmod a1 a0_0) - 1))))) = 35 then (some (-1)) else (some (wrap64 ((wrap64 ((wrap64 (Int.tdiv a1 a0_0)) * a0_0)) + (wrap64 ((Int.tmod a1 a0_0) - 1)))))) else (none)) else (none)) else (some (-1)))))))) = some r:=h
 clear h
 by_cases c4:a0_0 = 0
 ·rw [if_pos c4] at H
  exact absurd H (by simp)
 rw [if_neg c4] at H
 have c4b0:=beq_eq_false_iff_ne.mpr c4
 have c4b1:=bne_iff_ne.mpr c4
 by_cases c5:a2 = 0
 ·rw [if_pos c5] at H
  have c5b0:=beq_iff_eq.mpr c5
  have c5b1:=bne_eq_false_iff_eq.mpr c5
  clear c5
  obtain ⟨t102,A6,H⟩:=bn H
  by_cases c7:t102 = true
  rotate_left
  ·replace c7:=Bool.eq_false_iff.mpr c7
   subst c7
   rw [if_neg Bool.false_ne_true] at H
   obtain rfl:=Option.some.inj H
   go_enter Tryz.func160,Tryz.ntmps160
   go_wp2_with (first | (refine bx 3 #[.int .i64 a0_0,.int .i64 a0_1,.slice A0_2 l0_2.length c0_2] 75 ?_;intro gb101 hg w20 hbox hb;have BK101:=am (hbox);have GW101:=am ((by rw [hg];exact (below_size aq1):w.heap.size ≤ gb101));have GE101:=GW101;replace HB:=am (below_step aq1 hb);clear hb hbox hg;obtain ⟨hcz21_0,hcz21_1,hcz21_2,hfz21_0,hfz21_1,hfz21_2⟩:=blk3_ BK101.out))
   repeat (go_quiet (fail);try go_wp2_with (first | (go_at_call 192;(with_reducible refine (spec_tyCell.calls a0_0 a0_1 _ _ l0_2 (Int.tmod a1 a0_0) (wrap64 ((wrap64 (Int.tdiv a1 a0_0)) - 1)) false _ ?side1 ?side2 A6.out).mono ?_);(case side1=>exact aq9);(case side2=>exact HC0_2.out);rintro e w22 ⟨rfl,hb⟩;replace BK101:=am (bb BK101 hb);replace HB:=am (below_step aq0 hb);(try clear hb))))
   go_ret
   exact ⟨aq8,aq0⟩
  subst c7
  rw [if_pos rfl] at H
  obtain ⟨ji8,hji8⟩:∃ j_:Int,(wrap64 ((wrap64 ((wrap64 ((wrap64 (Int.tdiv a1 a0_0)) - 1)) * a0_0)) + (Int.tmod a1 a0_0))) = j_:=⟨_,rfl⟩
  first | rw [hji8] at H | simp only [hji8] at H
  (try rw [hji8] at A6)
  have hji8w:(IntKind.i64.wrap ((wrap64 ((wrap64 ((wrap64 (Int.tdiv a1 a0_0)) - 1)) * a0_0)) + (Int.tmod a1 a0_0))) = ji8:=(i64_w _).trans hji8
  replace H:=gd H
  obtain ⟨c9,H⟩:=H
  have c9b0:=decide_eq_true c9
  clear c9
  replace H:=gd H
  obtain ⟨c10,H⟩:=H
  have c10b0:=decide_eq_true c10
  clear c10
  by_cases c11:(rd l0_2 (ji8)) = 35
  rotate_left
  ·rw [if_neg c11] at H
   have c11b0:=beq_eq_false_iff_ne.mpr c11
   have c11b1:=bne_iff_ne.mpr c11
   obtain rfl:=Option.some.inj H
   go_enter Tryz.func160,Tryz.ntmps160
   go_wp2_with (first | (refine bx 3 #[.int .i64 a0_0,.int .i64 a0_1,.slice A0_2 l0_2.length c0_2] 75 ?_;intro gb101 hg w16 hbox hb;have BK101:=am (hbox);have GW101:=am ((by rw [hg];exact (below_size aq1):w.heap.size ≤ gb101));have GE101:=GW101;replace HB:=am (below_step aq1 hb);clear hb hbox hg;obtain ⟨hcz17_0,hcz17_1,hcz17_2,hfz17_0,hfz17_1,hfz17_2⟩:=blk3_ BK101.out))
   repeat (go_quiet (fail);try go_wp2_with (first | (go_at_call 192;(with_reducible refine (spec_tyCell.calls a0_0 a0_1 _ _ l0_2 (Int.tmod a1 a0_0) (wrap64 ((wrap64 (Int.tdiv a1 a0_0)) - 1)) true _ ?side1 ?side2 A6.out).mono ?_);(case side1=>exact aq9);(case side2=>exact HC0_2.out);rintro e w18 ⟨rfl,hb⟩;replace BK101:=am (bb BK101 hb);replace HB:=am (below_step aq0 hb);(try clear hb);obtain ⟨hcz19_0,hcz19_1,hcz19_2,hfz19_0,hfz19_1,hfz19_2⟩:=blk3_ BK101.out;have p103:0 ≤ ((ji8):Int):=of_decide_eq_true aq4;have q103:(ji8) < (l0_2.length:Int):=of_decide_eq_true aq4;obtain ⟨ad103,e103,hx103_0⟩:=Kd.at_int HR0_2.out (ji8) p103 q103;cases e103;replace hx103_0:=(HB.out.cell (World.block_lt_of_cell? w _ hx103_0)).trans hx103_0;replace p103:=eq_true p103;replace q103:=eq_true q103)))
   go_ret
   exact ⟨aq67,aq0⟩
  rw [if_pos c11] at H
  have c11b0:=beq_iff_eq.mpr c11
  have c11b1:=bne_eq_false_iff_eq.mpr c11
  clear c11
  obtain rfl:=Option.some.inj H
  go_enter Tryz.func160,Tryz.ntmps160
  go_wp2_with (first | (refine bx 3 #[.int .i64 a0_0,.int .i64 a0_1,.slice A0_2 l0_2.length c0_2] 75 ?_;intro gb101 hg w12 hbox hb;have BK101:=am (hbox);have GW101:=am ((by rw [hg];exact (below_size aq1):w.heap.size ≤ gb101));have GE101:=GW101;replace HB:=am (below_step aq1 hb);clear hb hbox hg;obtain ⟨hcz13_0,hcz13_1,hcz13_2,hfz13_0,hfz13_1,hfz13_2⟩:=blk3_ BK101.out))
  repeat (go_quiet (fail);try go_wp2_with (first | (go_at_call 192;(with_reducible refine (spec_tyCell.calls a0_0 a0_1 _ _ l0_2 (Int.tmod a1 a0_0) (wrap64 ((wrap64 (Int.tdiv a1 a0_0)) - 1)) true _ ?side1 ?side2 A6.out).mono ?_);(case side1=>exact aq9);(case side2=>exact HC0_2.out);rintro e w14 ⟨rfl,hb⟩;replace BK101:=am (bb BK101 hb);replace HB:=am (below_step aq0 hb);(try clear hb);obtain ⟨hcz15_0,hcz15_1,hcz15_2,hfz15_0,hfz15_1,hfz15_2⟩:=blk3_ BK101.out;have p103:0 ≤ ((ji8):Int):=of_decide_eq_true aq4;have q103:(ji8) < (l0_2.length:Int):=of_decide_eq_true aq4;obtain ⟨ad103,e103,hx103_0⟩:=Kd.at_int HR0_2.out (ji8) p103 q103;cases e103;replace hx103_0:=(HB.out.cell (World.block_lt_of_cell? w _ hx103_0)).trans hx103_0;replace p103:=eq_true p103;replace q103:=eq_true q103)))
  go_ret
  exact ⟨aq67,aq0⟩
 rw [if_neg c5] at H
 have c5b0:=beq_eq_false_iff_ne.mpr c5
 have c5b1:=bne_iff_ne.mpr c5
 by_cases c23:a2 = 1
 ·rw [if_pos c23] at H
  have c23b0:=beq_iff_eq.mpr c23
  have c23b1:=bne_eq_false_iff_eq.mpr c23
  clear c23
  obtain ⟨t104,A24,H⟩:=bn H
  by_cases c25:t104 = true
  rotate_left
  ·replace c25:=Bool.eq_false_iff.mpr c25
   subst c25
   rw [if_neg Bool.false_ne_true] at H
   obtain rfl:=Option.some.inj H
   go_enter Tryz.func160,Tryz.ntmps160
   go_wp2_with (first | (refine bx 3 #[.int .i64 a0_0,.int .i64 a0_1,.slice A0_2 l0_2.length c0_2] 75 ?_;intro gb101 hg w38 hbox hb;have BK101:=am (hbox);have GW101:=am ((by rw [hg];exact (below_size aq1):w.heap.size ≤ gb101));have GE101:=GW101;replace HB:=am (below_step aq1 hb);clear hb hbox hg;obtain ⟨hcz39_0,hcz39_1,hcz39_2,hfz39_0,hfz39_1,hfz39_2⟩:=blk3_ BK101.out))
   repeat (go_quiet (fail);try go_wp2_with (first | (go_at_call 192;(with_reducible refine (spec_tyCell.calls a0_0 a0_1 _ _ l0_2 (wrap64 ((Int.tmod a1 a0_0) + 1)) (wrap64 (Int.tdiv a1 a0_0)) false _ ?side1 ?side2 A24.out).mono ?_);(case side1=>exact aq9);(case side2=>exact HC0_2.out);rintro e w40 ⟨rfl,hb⟩;replace BK101:=am (bb BK101 hb);replace HB:=am (below_step aq0 hb);(try clear hb))))
   go_ret
   exact ⟨aq8,aq0⟩
  subst c25
  rw [if_pos rfl] at H
  obtain ⟨ji26,hji26⟩:∃ j_:Int,(wrap64 ((wrap64 ((wrap64 (Int.tdiv a1 a0_0)) * a0_0)) + (wrap64 ((Int.tmod a1 a0_0) + 1)))) = j_:=⟨_,rfl⟩
  first | rw [hji26] at H | simp only [hji26] at H
  (try rw [hji26] at A24)
  have hji26w:(IntKind.i64.wrap ((wrap64 ((wrap64 (Int.tdiv a1 a0_0)) * a0_0)) + (wrap64 ((Int.tmod a1 a0_0) + 1)))) = ji26:=(i64_w _).trans hji26
  replace H:=gd H
  obtain ⟨c27,H⟩:=H
  have c27b0:=decide_eq_true c27
  clear c27
  replace H:=gd H
  obtain ⟨c28,H⟩:=H
  have c28b0:=decide_eq_true c28
  clear c28
  by_cases c29:(rd l0_2 (ji26)) = 35
  rotate_left
  ·rw [if_neg c29] at H
   have c29b0:=beq_eq_false_iff_ne.mpr c29
   have c29b1:=bne_iff_ne.mpr c29
   obtain rfl:=Option.some.inj H
   go_enter Tryz.func160,Tryz.ntmps160
   go_wp2_with (first | (refine bx 3 #[.int .i64 a0_0,.int .i64 a0_1,.slice A0_2 l0_2.length c0_2] 75 ?_;intro gb101 hg w34 hbox hb;have BK101:=am (hbox);have GW101:=am ((by rw [hg];exact (below_size aq1):w.heap.size ≤ gb101));have GE101:=GW101;replace HB:=am (below_step aq1 hb);clear hb hbox hg;obtain ⟨hcz35_0,hcz35_1,hcz35_2,hfz35_0,hfz35_1,hfz35_2⟩:=blk3_ BK101.out))
   repeat (go_quiet (fail);try go_wp2_with (first | (go_at_call 192;(with_reducible refine (spec_tyCell.calls a0_0 a0_1 _ _ l0_2 (wrap64 ((Int.tmod a1 a0_0) + 1)) (wrap64 (Int.tdiv a1 a0_0)) true _ ?side1 ?side2 A24.out).mono ?_);(case side1=>exact aq9);(case side2=>exact HC0_2.out);rintro e w36 ⟨rfl,hb⟩;replace BK101:=am (bb BK101 hb);replace HB:=am (below_step aq0 hb);(try clear hb);obtain ⟨hcz37_0,hcz37_1,hcz37_2,hfz37_0,hfz37_1,hfz37_2⟩:=blk3_ BK101.out;have p105:0 ≤ ((ji26):Int):=of_decide_eq_true aq4;have q105:(ji26) < (l0_2.length:Int):=of_decide_eq_true aq4;obtain ⟨ad105,e105,hx105_0⟩:=Kd.at_int HR0_2.out (ji26) p105 q105;cases e105;replace hx105_0:=(HB.out.cell (World.block_lt_of_cell? w _ hx105_0)).trans hx105_0;replace p105:=eq_true p105;replace q105:=eq_true q105)))
   go_ret
   exact ⟨aq66,aq0⟩
  rw [if_pos c29] at H
  have c29b0:=beq_iff_eq.mpr c29
  have c29b1:=bne_eq_false_iff_eq.mpr c29
  clear c29
  obtain rfl:=Option.some.inj H
  go_enter Tryz.func160,Tryz.ntmps160
  go_wp2_with (first | (refine bx 3 #[.int .i64 a0_0,.int .i64 a0_1,.slice A0_2 l0_2.length c0_2] 75 ?_;intro gb101 hg w30 hbox hb;have BK101:=am (hbox);have GW101:=am ((by rw [hg];exact (below_size aq1):w.heap.size ≤ gb101));have GE101:=GW101;replace HB:=am (below_step aq1 hb);clear hb hbox hg;obtain ⟨hcz31_0,hcz31_1,hcz31_2,hfz31_0,hfz31_1,hfz31_2⟩:=blk3_ BK101.out))
  repeat (go_quiet (fail);try go_wp2_with (first | (go_at_call 192;(with_reducible refine (spec_tyCell.calls a0_0 a0_1 _ _ l0_2 (wrap64 ((Int.tmod a1 a0_0) + 1)) (wrap64 (Int.tdiv a1 a0_0)) true _ ?side1 ?side2 A24.out).mono ?_);(case side1=>exact aq9);(case side2=>exact HC0_2.out);rintro e w32 ⟨rfl,hb⟩;replace BK101:=am (bb BK101 hb);replace HB:=am (below_step aq0 hb);(try clear hb);obtain ⟨hcz33_0,hcz33_1,hcz33_2,hfz33_0,hfz33_1,hfz33_2⟩:=blk3_ BK101.out;have p105:0 ≤ ((ji26):Int):=of_decide_eq_true aq4;have q105:(ji26) < (l0_2.length:Int):=of_decide_eq_true aq4;obtain ⟨ad105,e105,hx105_0⟩:=Kd.at_int HR0_2.out (ji26) p105 q105;cases e105;replace hx105_0:=(HB.out.cell (World.block_lt_of_cell? w _ hx105_0)).trans hx105_0;replace p105:=eq_true p105;replace q105:=eq_true q105)))
  go_ret
  exact ⟨aq66,aq0⟩
 rw [if_neg c23] at H
 have c23b0:=beq_eq_false_iff_ne.mpr c23
 have c23b1:=bne_iff_ne.mpr c23
 by_cases c41:a2 = 2
 rotate_left
 ·rw [if_neg c41] at H
  have c41b0:=beq_eq_false_iff_ne.mpr c41
  have c41b1:=bne_iff_ne.mpr c41
  obtain ⟨t108,A59,H⟩:=bn H
  by_cases c60:t108 = true
  rotate_left
  ·replace c60:=Bool.eq_false_iff.mpr c60
   subst c60
   rw [if_neg Bool.false_ne_true] at H
   obtain rfl:=Option.some.inj H
   go_enter Tryz.func160,Tryz.ntmps160
   go_wp2_with (first | (refine bx 3 #[.int .i64 a0_0,.int .i64 a0_1,.slice A0_2 l0_2.length c0_2] 75 ?_;intro gb101 hg w73 hbox hb;have BK101:=am (hbox);have GW101:=am ((by rw [hg];exact (below_size aq1):w.heap.size ≤ gb101));have GE101:=GW101;replace HB:=am (below_step aq1 hb);clear hb hbox hg;obtain ⟨hcz74_0,hcz74_1,hcz74_2,hfz74_0,hfz74_1,hfz74_2⟩:=blk3_ BK101.out))
   repeat (go_quiet (fail);try go_wp2_with (first | (go_at_call 192;(with_reducible refine (spec_tyCell.calls a0_0 a0_1 _ _ l0_2 (wrap64 ((Int.tmod a1 a0_0) - 1)) (wrap64 (Int.tdiv a1 a0_0)) false _ ?side1 ?side2 A59.out).mono ?_);(case side1=>exact aq9);(case side2=>exact HC0_2.out);rintro e w75 ⟨rfl,hb⟩;replace BK101:=am (bb BK101 hb);replace HB:=am (below_step aq0 hb);(try clear hb))))
   go_ret
   exact ⟨aq8,aq0⟩
  subst c60
  rw [if_pos rfl] at H
  obtain ⟨ji61,hji61⟩:∃ j_:Int,(wrap64 ((wrap64 ((wrap64 (Int.tdiv a1 a0_0)) * a0_0)) + (wrap64 ((Int.tmod a1 a0_0) - 1)))) = j_:=⟨_,rfl⟩
  first | rw [hji61] at H | simp only [hji61] at H
  (try rw [hji61] at A59)
  have hji61w:(IntKind.i64.wrap ((wrap64 ((wrap64 (Int.tdiv a1 a0_0)) * a0_0)) + (wrap64 ((Int.tmod a1 a0_0) - 1)))) = ji61:=(i64_w _).trans hji61
  replace H:=gd H
  obtain ⟨c62,H⟩:=H
  have c62b0:=decide_eq_true c62
  clear c62
  replace H:=gd H
  obtain ⟨c63,H⟩:=H
  have c63b0:=decide_eq_true c63
  clear c63
  by_cases c64:(rd l0_2 (ji61)) = 35
  rotate_left
  ·rw [if_neg c64] at H
   have c64b0:=beq_eq_false_iff_ne.mpr c64
   have c64b1:=bne_iff_ne.mpr c64
   obtain rfl:=Option.some.inj H
   go_enter Tryz.func160,Tryz.ntmps160
   go_wp2_with (first | (refine bx 3 #[.int .i64 a0_0,.int .i64 a0_1,.slice A0_2 l0_2.length c0_2] 75 ?_;intro gb101 hg w69 hbox hb;have BK101:=am (hbox);have GW101:=am ((by rw [hg];exact (below_size aq1):w.heap.size ≤ gb101));have GE101:=GW101;replace HB:=am (below_step aq1 hb);clear hb hbox hg;obtain ⟨hcz70_0,hcz70_1,hcz70_2,hfz70_0,hfz70_1,hfz70_2⟩:=blk3_ BK101.out))
   repeat (go_quiet (fail);try go_wp2_with (first | (go_at_call 192;(with_reducible refine (spec_tyCell.calls a0_0 a0_1 _ _ l0_2 (wrap64 ((Int.tmod a1 a0_0) - 1)) (wrap64 (Int.tdiv a1 a0_0)) true _ ?side1 ?side2 A59.out).mono ?_);(case side1=>exact aq9);(case side2=>exact HC0_2.out);rintro e w71 ⟨rfl,hb⟩;replace BK101:=am (bb BK101 hb);replace HB:=am (below_step aq0 hb);(try clear hb);obtain ⟨hcz72_0,hcz72_1,hcz72_2,hfz72_0,hfz72_1,hfz72_2⟩:=blk3_ BK101.out;have p109:0 ≤ ((ji61):Int):=of_decide_eq_true aq4;have q109:(ji61) < (l0_2.length:Int):=of_decide_eq_true aq4;obtain ⟨ad109,e109,hx109_0⟩:=Kd.at_int HR0_2.out (ji61) p109 q109;cases e109;replace hx109_0:=(HB.out.cell (World.block_lt_of_cell? w _ hx109_0)).trans hx109_0;replace p109:=eq_true p109;replace q109:=eq_true q109)))
   go_ret
   exact ⟨aq64,aq0⟩
  rw [if_pos c64] at H
  have c64b0:=beq_iff_eq.mpr c64
  have c64b1:=bne_eq_false_iff_eq.mpr c64
  clear c64
  obtain rfl:=Option.some.inj H
  go_enter Tryz.func160,Tryz.ntmps160
  go_wp2_with (first | (refine bx 3 #[.int .i64 a0_0,.int .i64 a0_1,.slice A0_2 l0_2.length c0_2] 75 ?_;intro gb101 hg w65 hbox hb;have BK101:=am (hbox);have GW101:=am ((by rw [hg];exact (below_size aq1):w.heap.size ≤ gb101));have GE101:=GW101;replace HB:=am (below_step aq1 hb);clear hb hbox hg;obtain ⟨hcz66_0,hcz66_1,hcz66_2,hfz66_0,hfz66_1,hfz66_2⟩:=blk3_ BK101.out))
  repeat (go_quiet (fail);try go_wp2_with (first | (go_at_call 192;(with_reducible refine (spec_tyCell.calls a0_0 a0_1 _ _ l0_2 (wrap64 ((Int.tmod a1 a0_0) - 1)) (wrap64 (Int.tdiv a1 a0_0)) true _ ?side1 ?side2 A59.out).mono ?_);(case side1=>exact aq9);(case side2=>exact HC0_2.out);rintro e w67 ⟨rfl,hb⟩;replace BK101:=am (bb BK101 hb);replace HB:=am (below_step aq0 hb);(try clear hb);obtain ⟨hcz68_0,hcz68_1,hcz68_2,hfz68_0,hfz68_1,hfz68_2⟩:=blk3_ BK101.out;have p109:0 ≤ ((ji61):Int):=of_decide_eq_true aq4;have q109:(ji61) < (l0_2.length:Int):=of_decide_eq_true aq4;obtain ⟨ad109,e109,hx109_0⟩:=Kd.at_int HR0_2.out (ji61) p109 q109;cases e109;replace hx109_0:=(HB.out.cell (World.block_lt_of_cell? w _ hx109_0)).trans hx109_0;replace p109:=eq_true p109;replace q109:=eq_true q109)))
  go_ret
  exact ⟨aq64,aq0⟩
 rw [if_pos c41] at H
 have c41b0:=beq_iff_eq.mpr c41
 have c41b1:=bne_eq_false_iff_eq.mpr c41
 clear c41
 obtain ⟨t106,A42,H⟩:=bn H
 by_cases c43:t106 = true
 rotate_left
 ·replace c43:=Bool.eq_false_iff.mpr c43
  subst c43
  rw [if_neg Bool.false_ne_true] at H
  obtain rfl:=Option.some.inj H
  go_enter Tryz.func160,Tryz.ntmps160
  go_wp2_with (first | (refine bx 3 #[.int .i64 a0_0,.int .i64 a0_1,.slice A0_2 l0_2.length c0_2] 75 ?_;intro gb101 hg w56 hbox hb;have BK101:=am (hbox);have GW101:=am ((by rw [hg];exact (below_size aq1):w.heap.size ≤ gb101));have GE101:=GW101;replace HB:=am (below_step aq1 hb);clear hb hbox hg;obtain ⟨hcz57_0,hcz57_1,hcz57_2,hfz57_0,hfz57_1,hfz57_2⟩:=blk3_ BK101.out))
  repeat (go_quiet (fail);try go_wp2_with (first | (go_at_call 192;(with_reducible refine (spec_tyCell.calls a0_0 a0_1 _ _ l0_2 (Int.tmod a1 a0_0) (wrap64 ((wrap64 (Int.tdiv a1 a0_0)) + 1)) false _ ?side1 ?side2 A42.out).mono ?_);(case side1=>exact aq9);(case side2=>exact HC0_2.out);rintro e w58 ⟨rfl,hb⟩;replace BK101:=am (bb BK101 hb);replace HB:=am (below_step aq0 hb);(try clear hb))))
  go_ret
  exact ⟨aq8,aq0⟩
 subst c43
 rw [if_pos rfl] at H
 obtain ⟨ji44,hji44⟩:∃ j_:Int,(wrap64 ((wrap64 ((wrap64 ((wrap64 (Int.tdiv a1 a0_0)) + 1)) * a0_0)) + (Int.tmod a1 a0_0))) = j_:=⟨_,rfl⟩
 first | rw [hji44] at H | simp only [hji44] at H
 (try rw [hji44] at A42)
 have hji44w:(IntKind.i64.wrap ((wrap64 ((wrap64 ((wrap64 (Int.tdiv a1 a0_0)) + 1)) * a0_0)) + (Int.tmod a1 a0_0))) = ji44:=(i64_w _).trans hji44
 replace H:=gd H
 obtain ⟨c45,H⟩:=H
 have c45b0:=decide_eq_true c45
 clear c45
 replace H:=gd H
 obtain ⟨c46,H⟩:=H
 have c46b0:=decide_eq_true c46
 clear c46
 by_cases c47:(rd l0_2 (ji44)) = 35
 rotate_left
 ·rw [if_neg c47] at H
  have c47b0:=beq_eq_false_iff_ne.mpr c47
  have c47b1:=bne_iff_ne.mpr c47
  obtain rfl:=Option.some.inj H
  go_enter Tryz.func160,Tryz.ntmps160
  go_wp2_with (first | (refine bx 3 #[.int .i64 a0_0,.int .i64 a0_1,.slice A0_2 l0_2.length c0_2] 75 ?_;intro gb101 hg w52 hbox hb;have BK101:=am (hbox);have GW101:=am ((by rw [hg];exact (below_size aq1):w.heap.size ≤ gb101));have GE101:=GW101;replace HB:=am (below_step aq1 hb);clear hb hbox hg;obtain ⟨hcz53_0,hcz53_1,hcz53_2,hfz53_0,hfz53_1,hfz53_2⟩:=blk3_ BK101.out))
  repeat (go_quiet (fail);try go_wp2_with (first | (go_at_call 192;(with_reducible refine (spec_tyCell.calls a0_0 a0_1 _ _ l0_2 (Int.tmod a1 a0_0) (wrap64 ((wrap64 (Int.tdiv a1 a0_0)) + 1)) true _ ?side1 ?side2 A42.out).mono ?_);(case side1=>exact aq9);(case side2=>exact HC0_2.out);rintro e w54 ⟨rfl,hb⟩;replace BK101:=am (bb BK101 hb);replace HB:=am (below_step aq0 hb);(try clear hb);obtain ⟨hcz55_0,hcz55_1,hcz55_2,hfz55_0,hfz55_1,hfz55_2⟩:=blk3_ BK101.out;have p107:0 ≤ ((ji44):Int):=of_decide_eq_true aq4;have q107:(ji44) < (l0_2.length:Int):=of_decide_eq_true aq4;obtain ⟨ad107,e107,hx107_0⟩:=Kd.at_int HR0_2.out (ji44) p107 q107;cases e107;replace hx107_0:=(HB.out.cell (World.block_lt_of_cell? w _ hx107_0)).trans hx107_0;replace p107:=eq_true p107;replace q107:=eq_true q107)))
  go_ret
  exact ⟨aq65,aq0⟩
 rw [if_pos c47] at H
 have c47b0:=beq_iff_eq.mpr c47
 have c47b1:=bne_eq_false_iff_eq.mpr c47
 clear c47
 obtain rfl:=Option.some.inj H
 go_enter Tryz.func160,Tryz.ntmps160
 go_wp2_with (first | (refine bx 3 #[.int .i64 a0_0,.int .i64 a0_1,.slice A0_2 l0_2.length c0_2] 75 ?_;intro gb101 hg w48 hbox hb;have BK101:=am (hbox);have GW101:=am ((by rw [hg];exact (below_size aq1):w.heap.size ≤ gb101));have GE101:=GW101;replace HB:=am (below_step aq1 hb);clear hb hbox hg;obtain ⟨hcz49_0,hcz49_1,hcz49_2,hfz49_0,hfz49_1,hfz49_2⟩:=blk3_ BK101.out))
 repeat (go_quiet (fail);try go_wp2_with (first | (go_at_call 192;(with_reducible refine (spec_tyCell.calls a0_0 a0_1 _ _ l0_2 (Int.tmod a1 a0_0) (wrap64 ((wrap64 (Int.tdiv a1 a0_0)) + 1)) true _ ?side1 ?side2 A42.out).mono ?_);(case side1=>exact aq9);(case side2=>exact HC0_2.out);rintro e w50 ⟨rfl,hb⟩;replace BK101:=am (bb BK101 hb);replace HB:=am (below_step aq0 hb);(try clear hb);obtain ⟨hcz51_0,hcz51_1,hcz51_2,hfz51_0,hfz51_1,hfz51_2⟩:=blk3_ BK101.out;have p107:0 ≤ ((ji44):Int):=of_decide_eq_true aq4;have q107:(ji44) < (l0_2.length:Int):=of_decide_eq_true aq4;obtain ⟨ad107,e107,hx107_0⟩:=Kd.at_int HR0_2.out (ji44) p107 q107;cases e107;replace hx107_0:=(HB.out.cell (World.block_lt_of_cell? w _ hx107_0)).trans hx107_0;replace p107:=eq_true p107;replace q107:=eq_true q107)))
 go_ret
 exact ⟨aq65,aq0⟩
def spec_l1Least.f (a0:Int) (a1:Int):Option (Int):=if a0 < a1 then (some a0) else (some a1)
theorem spec_l1Least.calls (a0:Int) (a1:Int) (r:Int) (w:World) (h:spec_l1Least.f a0 a1 = some r) :
  Calls Tryz.prog 193 #[.int .i64 a0,.int .i64 a1] w fun e w'=>e = .returned (.int .i64 r) ∧ Drawn0 w w':=by
 have H:(if a0 < a1 then (some a0) else (some a1)) = some r:=h
 clear h
 by_cases c3:a0 < a1
 rotate_left
 ·rw [if_neg c3] at H
  have c3b0:=decide_eq_false c3
  clear c3
  obtain rfl:=Option.some.inj H
  go_enter Tryz.func193,Tryz.ntmps193
  go_wp2
  go_ret
  exact ⟨aq6,aq17⟩
 rw [if_pos c3] at H
 have c3b0:=decide_eq_true c3
 clear c3
 obtain rfl:=Option.some.inj H
 go_enter Tryz.func193,Tryz.ntmps193
 go_wp2
 go_ret
 exact ⟨aq6,aq17⟩
def spec_tiFirst.l0:Nat → Int → List Int → Int → Int → Option (Int)
 | 0,_,_,_,_=>none
 | k + 1,x3,x9,x10,x11=>if x11 < x10 then (if 0 ≤ x11 then (if x11 < (x9.length:Int) then ((spec_l1Least.f x3 (rd x9 x11)).bind fun t103=>(spec_tiFirst.l0 k t103 x9 x10 (wrap64 (x11 + 1)))) else (none)) else (none)) else (some x3)
def spec_tiFirst.f (k:Nat) (l0:List Int):Option (Int):=if 0 < (l0.length:Int) then (spec_tiFirst.l0 k (rd l0 0) l0 (l0.length:Int) 0) else (none)
theorem spec_tiFirst.mono_l:∀ k,(∀ y0 y1 y2 y3,LeO (spec_tiFirst.l0 k y0 y1 y2 y3) (spec_tiFirst.l0 (k + 1) y0 y1 y2 y3))
 | 0=>fun _ _ _ _ r h=>by simp [spec_tiFirst.l0] at h
 | k + 1=>by
  have ih0:=spec_tiFirst.mono_l k
  ·intro y0 y1 y2 y3
   unfold spec_tiFirst.l0
   exact mo
theorem spec_tiFirst.mono:∀ a0 k,LeO (spec_tiFirst.f k a0) (spec_tiFirst.f (k + 1) a0):=by
 intro a0 k
 have ih0:=spec_tiFirst.mono_l k
 unfold spec_tiFirst.f
 exact mo
theorem spec_tiFirst.calls (k:Nat) (A0:Option Addr) (c0:Nat) (l0:List Int) (r:Int) (w:World) (hr0:Kd.C (Kd.int .i64) w A0 l0.length l0) (hc0:l0.length ≤ c0) (h:spec_tiFirst.f k l0 = some r) :
  Calls Tryz.prog 161 #[.slice A0 l0.length c0] w fun e w'=>e = .returned (.int .i64 r) ∧ Drawn0 w w':=by
 have HR0:=am hr0
 have HC0:=am hc0
 clear hr0 hc0
 have H:(if 0 < (l0.length:Int) then (spec_tiFirst.l0 k (rd l0 0) l0 (l0.length:Int) 0) else (none)) = some r:=h
 clear h
 replace H:=gd H
 obtain ⟨c2,H⟩:=H
 have c2b0:=decide_eq_true c2
 have c2b1:decide (0 < l0.length) = true:=decide_eq_true o_m
 clear c2
 have H':=am H
 clear H
 have p101:0 ≤ (0:Int):=o_m
 have q101:0 < (l0.length:Int):=of_decide_eq_true aq4
 obtain ⟨ad101,e101,hx101_0⟩:=Kd.at_int HR0.out 0 p101 q101
 cases e101
 have qi101:(0 < l0.length) = True:=eq_true o_m
 (try rw [show ((0:Int)).toNat = 0 from rfl] at hx101_0)
 (try rw [Addr.add_zero'] at hx101_0)
 replace p101:=eq_true p101
 replace q101:=eq_true q101
 go_enter Tryz.func161,Tryz.ntmps161
 go_wp2
 go_loopg [3,11] k (fun kq v3 v11 w'=>∃ (x3_1:Int) (x11_1:Int),v3 = .int .i64 x3_1 ∧ v11 = .int .i64 x11_1 ∧ Aside0 (spec_tiFirst.l0 kq x3_1 l0 (l0.length:Int) x11_1 = some r) ∧ Aside0 (kq ≤ k) ∧ Drawn0 w w')
 case atStart=>exact ⟨(rd l0 0),(0),aq6,aq6,H',⟨Nat.le_refl _⟩,aq17⟩
 case round =>
  clear H'
  try clear c1
  try clear p1
  try clear q1
  try clear hx1
  try clear qi1
  try clear c2
  try clear c2b0
  try clear c2b1
  try clear p2
  try clear hx101_0
  try clear p101
  try clear q101
  obtain ⟨x3_1,x11_1,rfl,rfl,HA,HK1,⟨m1,rfl⟩⟩:=hrel
  cases gk with
  | zero=>exact absurd HA.out (by simp [spec_tiFirst.l0])
  | succ k1 =>
   have H:=HA.out
   clear HA
   simp only [spec_tiFirst.l0] at H
   by_cases c3:x11_1 < (l0.length:Int)
   rotate_left
   ·rw [if_neg c3] at H
    have c3b0:=decide_eq_false c3
    clear c3
    obtain rfl:=Option.some.inj H
    go_wp2
    go_ret
    exact ⟨aq6,aq17⟩
   rw [if_pos c3] at H
   have c3b0:=decide_eq_true c3
   clear c3
   replace H:=gd H
   obtain ⟨c4,H⟩:=H
   have c4b0:=decide_eq_true c4
   clear c4
   replace H:=gd H
   obtain ⟨c5,H⟩:=H
   have c5b0:=decide_eq_true c5
   clear c5
   obtain ⟨t103,A6,H⟩:=bn H
   have H':=am H
   clear H
   have p102:0 ≤ (x11_1:Int):=of_decide_eq_true aq4
   have q102:x11_1 < (l0.length:Int):=of_decide_eq_true aq4
   obtain ⟨ad102,e102,hx102_0⟩:=Kd.at_int HR0.out x11_1 p102 q102
   obtain rfl:ad101 = ad102:=(by injection e102)
   replace p102:=eq_true p102
   replace q102:=eq_true q102
   go_wp2_with (first | ((with_reducible refine gate_callee (f:=193) rfl ?_);refine goesL_ (some 17) rfl rfl Tryz.func193 k_r rfl #[.int .i64 x3_1,.int .i64 (rd l0 x11_1)] rfl aq7 ?_;(with_reducible refine (spec_l1Least.calls x3_1 (rd l0 x11_1) t103 _ A6.out).mono ?_);rintro e w' ⟨rfl,⟨nd,rfl⟩⟩;refine ⟨_,rfl,?_⟩))
   go_roundg k1
   case measure=>have:=HK1.out;omega
   case rel=>exact ⟨(t103),(wrap64 (x11_1 + 1)),aq6,aq6,H',⟨aq63⟩,aq17⟩
mutual
def spec_tiStretches.l0:Nat → Int → List (List Int) → List Int → Int → Int → Int → Int → List Int → Option ((List (List Int)))
 | 0,_,_,_,_,_,_,_,_=>none
 | k + 1,x1,x5,x13,x14,x15,x102000,x102001,x102002=>if x15 < x14 then (if 0 ≤ x15 then (if x15 < (x13.length:Int) then (if (rd x13 x15) = 35 then (spec_tiStretches.j1 k x1 x5 x15 x13 x14 x15 true x102000 x102001 x102002) else ((spec_tiAhead.f x102000 x102001 x102002 x15 x1).bind fun t103=>(spec_tiStretches.j1 k x1 x5 x15 x13 x14 x15 (decide (t103 ≥ 0)) x102000 x102001 x102002))) else (none)) else (none)) else (some x5)
def spec_tiStretches.j1:Nat → Int → List (List Int) → Int → List Int → Int → Int → Bool → Int → Int → List Int → Option ((List (List Int)))
 | 0,_,_,_,_,_,_,_,_,_,_=>none
 | k + 1,x1,x5,x6,x13,x14,x15,x28,x102000,x102001,x102002=>if x28 = true then (spec_tiStretches.l0 k x1 x5 x13 x14 (wrap64 (x15 + 1)) x102000 x102001 x102002) else ((spec_tiAhead.f x102000 x102001 x102002 x6 (Int.tmod (wrap64 (x1 + 2)) 4)).bind fun t107=>(spec_tiStretches.l1 k x1 x5 (([x6]:List Int)) t107 x13 x14 x15 x102000 x102001 x102002))
def spec_tiStretches.l1:Nat → Int → List (List Int) → List Int → Int → List Int → Int → Int → Int → Int → List Int → Option ((List (List Int)))
 | 0,_,_,_,_,_,_,_,_,_,_=>none
 | k + 1,x1,x5,x8,x9,x13,x14,x15,x102000,x102001,x102002=>if x9 ≥ 0 then (if x8.length < 17592186044416 then ((spec_tiAhead.f x102000 x102001 x102002 x9 (Int.tmod (wrap64 (x1 + 2)) 4)).bind fun t111=>(spec_tiStretches.l1 k x1 x5 (x8 ++ [x9]) t111 x13 x14 x15 x102000 x102001 x102002)) else (none)) else (spec_tiStretches.l2 k x1 x5 x8 0 x13 x14 x15 x102000 x102001 x102002)
def spec_tiStretches.l2:Nat → Int → List (List Int) → List Int → Int → List Int → Int → Int → Int → Int → List Int → Option ((List (List Int)))
 | 0,_,_,_,_,_,_,_,_,_,_=>none
 | k + 1,x1,x5,x8,x10,x13,x14,x15,x102000,x102001,x102002=>if x10 < (x5.length:Int) then (if 0 ≤ x10 then ((spec_tiFirst.f k (rd_L3 x5 x10)).bind fun t113=>((spec_tiFirst.f k x8).bind fun t114=>(if t113 < t114 then (spec_tiStretches.l2 k x1 x5 x8 (wrap64 (x10 + 1)) x13 x14 x15 x102000 x102001 x102002) else ((some (([]:List (List Int)):List (List Int))).bind fun y115=>(if x10 ≤ (x5.length:Int) then ((some (x5.take (x10:Int).toNat:List (List Int))).bind fun y118=>(if y115.length + y118.length < 5864062014805 then ((some (y115 ++ y118:List (List Int))).bind fun y123=>(if y123.length < 5864062014805 then ((some (y123 ++ [x8]:List (List Int))).bind fun y126=>((some (x5.drop (x10:Int).toNat:List (List Int))).bind fun y129=>(if y126.length + y129.length < 5864062014805 then (spec_tiStretches.l0 k x1 (y126 ++ y129) x13 x14 (wrap64 (x15 + 1)) x102000 x102001 x102002) else (none)))) else (none))) else (none))) else (none)))))) else (none)) else ((some (([]:List (List Int)):List (List Int))).bind fun y137=>(if 0 ≤ x10 then (if x10 ≤ (x5.length:Int) then ((some (x5.take (x10:Int).toNat:List (List Int))).bind fun y140=>(if y137.length + y140.length < 5864062014805 then ((some (y137 ++ y140:List (List Int))).bind fun y145=>(if y145.length < 5864062014805 then ((some (y145 ++ [x8]:List (List Int))).bind fun y148=>((some (x5.drop (x10:Int).toNat:List (List Int))).bind fun y151=>(if y148.length + y151.length < 5864062014805 then (spec_tiStretches.l0 k x1 (y148 ++ y151) x13 x14 (wrap64 (x15 + 1)) x102000 x102001 x102002) else (none)))) else (none))) else (none))) else (none)) else (none)))
end
def spec_tiStretches.f (k:Nat) (a0_0:Int) (a0_1:Int) (l0_2:List Int) (a1:Int):Option ((List (List Int))):=spec_tiStretches.l0 k a1 ([]:List (List Int)) l0_2 (l0_2.length:Int) 0 a0_0 a0_1 l0_2
theorem spec_tiStretches.mono_l:∀ k,(∀ y0 y1 y2 y3 y4 y5 y6 y7,LeO (spec_tiStretches.l0 k y0 y1 y2 y3 y4 y5 y6 y7) (spec_tiStretches.l0 (k + 1) y0 y1 y2 y3 y4 y5 y6 y7)) ∧ (∀ y0 y1 y2 y3 y4 y5 y6 y7 y8 y9,LeO (spec_tiStretches.j1 k y0 y1 y2 y3 y4 y5 y6 y7 y8 y9) (spec_tiStretches.j1 (k + 1) y0 y1 y2 y3 y4 y5 y6 y7 y8 y9)) ∧ (∀ y0 y1 y2 y3 y4 y5 y6 y7 y8 y9,LeO (spec_tiStretches.l1 k y0 y1 y2 y3 y4 y5 y6 y7 y8 y9) (spec_tiStretches.l1 (k + 1) y0 y1 y2 y3 y4 y5 y6 y7 y8 y9)) ∧ (∀ y0 y1 y2 y3 y4 y5 y6 y7 y8 y9,LeO (spec_tiStretches.l2 k y0 y1 y2 y3 y4 y5 y6 y7 y8 y9) (spec_tiStretches.l2 (k + 1) y0 y1 y2 y3 y4 y5 y6 y7 y8 y9))
 | 0=>⟨fun _ _ _ _ _ _ _ _ r h=>by simp [spec_tiStretches.l0] at h,fun _ _ _ _ _ _ _ _ _ _ r h=>by simp [spec_tiStretches.j1] at h,fun _ _ _ _ _ _ _ _ _ _ r h=>by simp [spec_tiStretches.l1] at h,fun _ _ _ _ _ _ _ _ _ _ r h=>by simp [spec_tiStretches.l2] at h⟩
 | k + 1=>by
  obtain ⟨ih0,ih1,ih2,ih3⟩:=spec_tiStretches.mono_l k
  refine ⟨?_,?_,?_,?_⟩
  ·intro y0 y1 y2 y3 y4 y5 y6 y7
   unfold spec_tiStretches.l0
   have im0:=@spec_tiFirst.mono;exact mo
  ·intro y0 y1 y2 y3 y4 y5 y6 y7 y8 y9
   unfold spec_tiStretches.j1
   have im0:=@spec_tiFirst.mono;exact mo
  ·intro y0 y1 y2 y3 y4 y5 y6 y7 y8 y9
   unfold spec_tiStretches.l1
   have im0:=@spec_tiFirst.mono;exact mo
  ·intro y0 y1 y2 y3 y4 y5 y6 y7 y8 y9
   unfold spec_tiStretches.l2
   have im0:=@spec_tiFirst.mono;exact mo
theorem spec_tiStretches.calls (k:Nat) (a0_0:Int) (a0_1:Int) (A0_2:Option Addr) (c0_2:Nat) (l0_2:List Int) (a1:Int) (r:List (List Int)) (w:World) (hr0_2:Kd.C (Kd.int .u8) w A0_2 l0_2.length l0_2) (hc0_2:l0_2.length ≤ c0_2) (h:spec_tiStretches.f k a0_0 a0_1 l0_2 a1 = some r) :
  Calls Tryz.prog 120 #[.agg #[.int .i64 a0_0,.int .i64 a0_1,.slice A0_2 l0_2.length c0_2],.int .i64 a1] w fun e w'=>∃ v0_:Value,e = .returned (v0_) ∧ Kd.N (Kd.slice 3 (Kd.int .i64)) 40 w' w.heap.size (fun k_=>(w.heap.size ≤ k_)) v0_ r ∧ Below w.heap.size w w':=by
 have hu75:=Tryz.underlying75
 have HR0_2:=am hr0_2
 have HC0_2:=am hc0_2
 clear hr0_2 hc0_2
 have HB:=am (Below.refl w.heap.size w)
 have H:(spec_tiStretches.l0 k a1 ([]:List (List Int)) l0_2 (l0_2.length:Int) 0 a0_0 a0_1 l0_2) = some r:=h
 clear h
 have H':=am H
 clear H
 go_enter Tryz.func120,Tryz.ntmps120
 go_wp2_with (first | (refine bx 2 #[.int .i64 a0_0,.int .i64 a0_1,.slice A0_2 l0_2.length c0_2] 75 ?_;intro gb101 hg w3 hbox hb;have BK101:=am (hbox);have GW101:=am ((by rw [hg];exact (below_size aq1):w.heap.size ≤ gb101));have GE101:=GW101;replace HB:=am (below_step aq1 hb);clear hb hbox hg;obtain ⟨hcz4_0,hcz4_1,hcz4_2,hfz4_0,hfz4_1,hfz4_2⟩:=blk3_ BK101.out))
 go_loopg [5,15] k (fun kq v5 v15 w'=>∃ (x5_1:List (List Int)) (x15_1:Int),v15 = .int .i64 x15_1 ∧ Aside0 (spec_tiStretches.l0 kq a1 x5_1 l0_2 (l0_2.length:Int) x15_1 a0_0 a0_1 l0_2 = some r) ∧ Aside0 (kq ≤ k) ∧ Aside0 (Kd.N (Kd.slice 3 (Kd.int .i64)) 40 w' w.heap.size (fun k_=>(w.heap.size ≤ k_) ∧ k_ ≠ gb101) v5 x5_1) ∧ Aside0 (w'.heap[gb101]? = some (.cells #[.int .i64 a0_0,.int .i64 a0_1,(.slice A0_2 l0_2.length c0_2)] 75 (0,0))) ∧ Aside0 (Below w.heap.size w w'))
 case atStart=>exact ⟨(([]:List (List Int))),(0),aq6,H',⟨Nat.le_refl _⟩,⟨by first | exact Kd.S_nil _ _ _ _ _ | exact Kd.N_nil _ _ _ _ _ | exact Kd.V_nil _ _ _ _ _ | exact Kd.Q_nil _ _ _ _ _ | exact Kd.R_nil _ _ _ _ _⟩,⟨aq2⟩,⟨aq0⟩⟩
 case round =>
  clear H'
  try clear c1
  try clear p2
  try clear hcz4_0
  try clear hcz4_1
  try clear hcz4_2
  try clear hfz4_0
  try clear hfz4_1
  try clear hfz4_2
  obtain ⟨x5_1,x15_1,rfl,HA,HK1,HO_5,BK101,HB⟩:=hrel
  cases gk with
  | zero=>exact absurd HA.out (by simp [spec_tiStretches.l0])
  | succ k1 =>
   have H:=HA.out
   clear HA
   simp only [spec_tiStretches.l0] at H
   by_cases c5:x15_1 < (l0_2.length:Int)
   rotate_left
   ·rw [if_neg c5] at H
    have c5b0:=decide_eq_false c5
    clear c5
    obtain rfl:=Option.some.inj H
    go_wp2
    go_ret
    exact ⟨_,aq8,by (with_reducible repeat (first | apply Kd.N_alloc | apply Kd.N_drewN | apply Kd.N_drew));exact Kd.N_mono HO_5.out (fun _ hk=>hk.1),aq0⟩
   rw [if_pos c5] at H
   have c5b0:=decide_eq_true c5
   clear c5
   replace H:=gd H
   obtain ⟨c6,H⟩:=H
   have c6b0:=decide_eq_true c6
   clear c6
   replace H:=gd H
   obtain ⟨c7,H⟩:=H
   have c7b0:=decide_eq_true c7
   clear c7
   have HC8:=am H
   clear H
   have p102:0 ≤ (x15_1:Int):=of_decide_eq_true aq4
   have q102:x15_1 < (l0_2.length:Int):=of_decide_eq_true aq4
   obtain ⟨ad102,e102,hx102_0⟩:=Kd.at_int HR0_2.out x15_1 p102 q102
   cases e102
   try replace hx102_0:=(HB.out.cell (World.block_lt_of_cell? w _ hx102_0)).trans hx102_0
   replace p102:=eq_true p102
   replace q102:=eq_true q102
   go_upto_region 5 with (fail)
   go_cut [28] (fun v28 wc=>∃ (kq:Nat) (x28_7:Bool),v28 = .bool x28_7 ∧ Aside0 (spec_tiStretches.j1 kq a1 x5_1 x15_1 l0_2 (l0_2.length:Int) x15_1 x28_7 a0_0 a0_1 l0_2 = some r) ∧ Aside0 (kq ≤ k1) ∧ Aside0 (Kd.N (Kd.slice 3 (Kd.int .i64)) 40 wc w.heap.size (fun k_=>(w.heap.size ≤ k_) ∧ k_ ≠ gb101) u5 x5_1) ∧ Aside0 (wc.heap[gb101]? = some (.cells #[.int .i64 a0_0,.int .i64 a0_1,(.slice (some ad102) l0_2.length c0_2)] 75 (0,0))) ∧ Aside0 (Below w.heap.size w wc))
   case first =>
    have H:=HC8.out
    clear HC8
    by_cases c9:(rd l0_2 x15_1) = 35
    ·rw [if_pos c9] at H
     have c9b0:=beq_iff_eq.mpr c9
     have c9b1:=bne_eq_false_iff_eq.mpr c9
     clear c9
     (first | rw [c9b0] | (simp only [i64_w,i32_w];rw [c9b0]) | skip)
     have H':=am H
     clear H
     go_wp2
     go_meet
     case rel=>exact ⟨_,(true),aq6,H',⟨aq49⟩,⟨aq13⟩,⟨aq2⟩,⟨aq0⟩⟩
    rw [if_neg c9] at H
    have c9b0:=beq_eq_false_iff_ne.mpr c9
    have c9b1:=bne_iff_ne.mpr c9
    (first | rw [c9b0] | (simp only [i64_w,i32_w];rw [c9b0]) | skip)
    obtain ⟨t103,A10,H⟩:=bn H
    have H':=am H
    clear H
    obtain ⟨hcz11_0,hcz11_1,hcz11_2,hfz11_0,hfz11_1,hfz11_2⟩:=blk3_ BK101.out
    go_wp2_with (first | (go_at_call 160;(with_reducible refine (spec_tiAhead.calls a0_0 a0_1 _ _ l0_2 x15_1 a1 t103 _ ?side1 ?side2 A10.out).mono ?_);(case side1=>exact aq9);(case side2=>exact HC0_2.out);rintro e w12 ⟨rfl,hb⟩;replace HO_5:=am (Kd.N_below aq13 hb);replace BK101:=am (bb BK101 hb);replace HB:=am (below_step aq0 hb);(try clear hb)))
    go_meet
    case rel=>exact ⟨_,(decide (t103 ≥ 0)),aq6,H',⟨aq49⟩,⟨aq13⟩,⟨aq2⟩,⟨aq0⟩⟩
   case rest =>
    clear HC8
    try clear c1
    try clear p1
    try clear q1
    try clear hx1
    try clear p2
    try clear c5
    try clear c5b0
    try clear c6
    try clear c6b0
    try clear c7
    try clear c7b0
    try clear c9
    try clear c9b0
    try clear c9b1
    try clear p10
    try clear q10
    try clear hx10
    try clear c12
    try clear hcz11_0
    try clear hcz11_1
    try clear hcz11_2
    try clear hcz4_0
    try clear hcz4_1
    try clear hcz4_2
    try clear hfz11_0
    try clear hfz11_1
    try clear hfz11_2
    try clear hfz4_0
    try clear hfz4_1
    try clear hfz4_2
    try clear hx102_0
    try clear p102
    try clear p2
    try clear q102
    obtain ⟨kq,x28_7,rfl,HA,HJ7,HO_5,BK101,HB⟩:=hcut
    cases kq with
    | zero=>exact absurd HA.out (by simp [spec_tiStretches.j1])
    | succ kj7 =>
     have H:=HA.out
     clear HA
     simp only [spec_tiStretches.j1] at H
     by_cases c13:x28_7 = true
     ·subst c13
      rw [if_pos rfl] at H
      have H':=am H
      clear H
      go_wp2
      go_roundg kj7
      case measure=>have:=HK1.out;have:=HJ7.out;omega
      case rel=>exact ⟨(x5_1),(wrap64 (x15_1 + 1)),aq6,H',⟨by have:=HK1.out;have:=HJ7.out;omega⟩,⟨aq13⟩,⟨aq2⟩,⟨aq0⟩⟩
     replace c13:=Bool.eq_false_iff.mpr c13
     subst c13
     rw [if_neg Bool.false_ne_true] at H
     obtain ⟨y104,hy_⟩:∃ y_:List Int,y_ = (([x15_1]:List Int)):=⟨_,rfl⟩
     replace H:((spec_tiAhead.f a0_0 a0_1 l0_2 x15_1 (Int.tmod (wrap64 (a1 + 2)) 4)).bind fun t107=>(spec_tiStretches.l1 kj7 a1 x5_1 y104 t107 l0_2 (l0_2.length:Int) x15_1 a0_0 a0_1 l0_2)) = some r:=aq3
     have Ny104:=am hy_
     clear hy_
     obtain ⟨t107,A14,H⟩:=bn H
     have H':=am H
     clear H
     go_wp2_with (first | ((with_reducible refine gate_dst (N:=30) rfl ?_);refine Kd.R_lit (Kd.int .i64) _ 3 ?hg (N:=30) ?hd (xs:=([x15_1]:List Int)) (inner:=[.int .i64 x15_1]) (ok:=fun _=>True) (okp:=fun _=>True) ?hr ?hp (fun _ hk=>hk) trivial (Below.refl _ _) (Nat.le_refl _) (by simp) ?_;(case hd=>rfl);(case hg=>rfl);(case hr=>exact aq12);(case hp=>exact (Reps.one (show Kd.M (Kd.int .i64) _ _ _ x15_1 [.int .i64 x15_1] from rfl) (Reps.none _ _)));intro v105 w15 ho16 hb hg_ hnew_;clear hg_ hnew_;(first | rw [← Ny104.out] at ho16 | (simp only [Int.reduceToNat] at ho16;rw [← Ny104.out] at ho16));replace HO_5:=am (Kd.N_elder' aq13 (Kd.R_base ho16) hb);have HO106:=am (Kd.R_lower (Kd.R_newM (M:=fun k_=>(w.heap.size ≤ k_)) ho16 (below_size aq0) (fun k_ h_=>h_)) (below_size aq0));replace BK101:=am (bb BK101 hb);replace HB:=am (below_step aq0 hb);clear hb ho16;obtain ⟨hcz17_0,hcz17_1,hcz17_2,hfz17_0,hfz17_1,hfz17_2⟩:=blk3_ BK101.out) | ((with_reducible refine gate_callee (f:=160) rfl ?_);refine goesL_ (some 36) rfl rfl Tryz.func160 k_r rfl #[.agg #[.int .i64 a0_0,.int .i64 a0_1,.slice (some ad102) l0_2.length c0_2],.int .i64 x15_1,.int .i64 (Int.tmod (wrap64 (a1 + 2)) 4)] rfl aq7 ?_;(with_reducible refine (spec_tiAhead.calls a0_0 a0_1 _ _ l0_2 x15_1 (Int.tmod (wrap64 (a1 + 2)) 4) t107 _ ?side1 ?side2 A14.out).mono ?_);(case side1=>exact aq9);(case side2=>exact HC0_2.out);rintro e w18 ⟨rfl,hb⟩;refine ⟨_,rfl,?_⟩;replace HO_5:=am (Kd.N_below aq13 hb);replace HO106:=am (Kd.R_below (by (with_reducible repeat (first | apply Kd.R_alloc | apply Kd.R_drewN | apply Kd.R_drew));exact HO106.out) hb);replace BK101:=am (bb BK101 hb);replace HB:=am (below_step aq0 hb);(try clear hb)))
     go_loopg [8,9] kj7 (fun kq v8 v9 w'=>∃ (x8_3:List Int) (x9_3:Int),v9 = .int .i64 x9_3 ∧ Aside0 (spec_tiStretches.l1 kq a1 x5_1 x8_3 x9_3 l0_2 (l0_2.length:Int) x15_1 a0_0 a0_1 l0_2 = some r) ∧ Aside0 (kq ≤ kj7) ∧ Aside0 (Kd.N (Kd.slice 3 (Kd.int .i64)) 40 w' w.heap.size (fun k_=>(w.heap.size ≤ k_) ∧ some k_ ≠ (v8:Value).ownBlock ∧ k_ ≠ gb101) u5 x5_1) ∧ Aside0 (Kd.R (Kd.int .i64) 3 w' w.heap.size (fun k_=>(w.heap.size ≤ k_)) v8 x8_3) ∧ Aside0 (w'.heap[gb101]? = some (.cells #[.int .i64 a0_0,.int .i64 a0_1,(.slice (some ad102) l0_2.length c0_2)] 75 (0,0))) ∧ Aside0 (Below w.heap.size w w'))
     case atStart=>exact ⟨(y104),(t107),aq6,H',⟨Nat.le_refl _⟩,⟨aq80⟩,⟨by (with_reducible repeat (first | apply Kd.R_alloc | apply Kd.R_drewN | apply Kd.R_drew));exact Kd.R_mono HO106.out (fun _ hk=>hk.1)⟩,⟨aq2⟩,⟨aq0⟩⟩
     case round =>
      clear H'
      try clear c1
      try clear p1
      try clear q1
      try clear hx1
      try clear p2
      try clear c5
      try clear c5b0
      try clear c6
      try clear c6b0
      try clear p6
      try clear c7
      try clear c7b0
      try clear c9
      try clear c9b0
      try clear c9b1
      try clear p10
      try clear q10
      try clear hx10
      try clear c12
      try clear c13
      try clear c16
      try clear hcz11_0
      try clear hcz11_1
      try clear hcz11_2
      try clear hcz17_0
      try clear hcz17_1
      try clear hcz17_2
      try clear hcz4_0
      try clear hcz4_1
      try clear hcz4_2
      try clear hfz11_0
      try clear hfz11_1
      try clear hfz11_2
      try clear hfz17_0
      try clear hfz17_1
      try clear hfz17_2
      try clear hfz4_0
      try clear hfz4_1
      try clear hfz4_2
      try clear hx102_0
      try clear p1
      try clear p10
      try clear p102
      try clear p2
      try clear q1
      try clear q10
      try clear q102
      obtain ⟨x8_3,x9_3,rfl,HA,HK3,HO_5,HO_8,BK101,HB⟩:=hrel
      cases gk with
      | zero=>exact absurd HA.out (by simp [spec_tiStretches.l1])
      | succ k3 =>
       have H:=HA.out
       clear HA
       simp only [spec_tiStretches.l1] at H
       by_cases c19:x9_3 ≥ 0
       ·rw [if_pos c19] at H
        have c19b0:=decide_eq_true c19
        clear c19
        replace H:=gd H
        obtain ⟨c20,H⟩:=H
        have LMc20:=am c20
        clear c20
        obtain ⟨y108,hy_⟩:∃ y_:List Int,y_ = (x8_3 ++ [x9_3]):=⟨_,rfl⟩
        replace H:((spec_tiAhead.f a0_0 a0_1 l0_2 x9_3 (Int.tmod (wrap64 (a1 + 2)) 4)).bind fun t111=>(spec_tiStretches.l1 k3 a1 x5_1 y108 t111 l0_2 (l0_2.length:Int) x15_1 a0_0 a0_1 l0_2)) = some r:=aq3
        have Ny108:=am hy_
        clear hy_
        obtain ⟨t111,A21,H⟩:=bn H
        have H':=am H
        clear H
        go_wp2_with (first | ((with_reducible refine gate_builtin (b:=.append) (xs:=#[.tmp 45,.tmp 47]) rfl ?_);at_builtin;refine Kd.R_append (Kd.int .i64) (w0:=w) w.heap.size rfl (.tmp 45) (.tmp 47) 40 3 (.int .i64 0) 8 rfl Tryz.underlying40 info3 rfl d_c o_m u8 x8_3 x9_3 [.int .i64 x9_3] (fun k_=>(w.heap.size ≤ k_)) (fun _=>False) rfl rfl ?aP (fun _ hk=>hk.elim) ?aF ?aO ?aB ?aS ?aL ?_;(case aP=>exact rfl);(case aB=>exact aq0);(case aF=>exact (fun k_ hk=>(Nat.le_trans (below_size aq0) hk)));(case aO=>exact aq20);(case aS=>exact aq52);(case aL=>have:=LMc20.out;omega);intro v109 w22 ho hb hg hat;rw [← Ny108.out] at ho;replace HO_5:=am (Kd.N_afterv (ok:=(fun k_=>(w.heap.size ≤ k_) ∧ k_ ≠ gb101)) (by (with_reducible repeat (first | apply Kd.N_alloc | apply Kd.N_drewN | apply Kd.N_drew));exact Kd.N_mono HO_5.out (fun _ hk=>⟨⟨hk.1,hk.2.2⟩,hk.2.1⟩)) hg hat);replace BK101:=am (bg BK101 hg (Kd.R_ne HO_8.out BK101.out d_c));replace HB:=am (hb);have HO110:=am (ho);clear HO_8 ho hb hg hat;obtain ⟨hcz23_0,hcz23_1,hcz23_2,hfz23_0,hfz23_1,hfz23_2⟩:=blk3_ BK101.out) | ((with_reducible refine gate_callee (f:=160) rfl ?_);refine goesL_ (some 44) rfl rfl Tryz.func160 k_r rfl #[.agg #[.int .i64 a0_0,.int .i64 a0_1,.slice (some ad102) l0_2.length c0_2],.int .i64 x9_3,.int .i64 (Int.tmod (wrap64 (a1 + 2)) 4)] rfl aq7 ?_;(with_reducible refine (spec_tiAhead.calls a0_0 a0_1 _ _ l0_2 x9_3 (Int.tmod (wrap64 (a1 + 2)) 4) t111 _ ?side1 ?side2 A21.out).mono ?_);(case side1=>exact aq9);(case side2=>exact HC0_2.out);rintro e w24 ⟨rfl,hb⟩;refine ⟨_,rfl,?_⟩;replace HO_5:=am (Kd.N_below aq13 hb);replace HO110:=am (Kd.R_below aq29 hb);replace BK101:=am (bb BK101 hb);replace HB:=am (below_step aq0 hb);(try clear hb)))
        go_roundg k3
        case measure=>have:=HK1.out;have:=HJ7.out;have:=HK3.out;omega
        case rel=>exact ⟨(y108),(t111),aq6,H',⟨by have:=HK1.out;have:=HJ7.out;have:=HK3.out;omega⟩,⟨aq80⟩,⟨aq29⟩,⟨aq2⟩,⟨aq0⟩⟩
       rw [if_neg c19] at H
       have c19b0:=decide_eq_false c19
       clear c19
       have H':=am H
       clear H
       go_wp2
       go_loopg [10] k3 (fun kq v10 w'=>∃ (x10_4:Int),v10 = .int .i64 x10_4 ∧ Aside0 (spec_tiStretches.l2 kq a1 x5_1 x8_3 x10_4 l0_2 (l0_2.length:Int) x15_1 a0_0 a0_1 l0_2 = some r) ∧ Aside0 (kq ≤ k3) ∧ Aside0 (Kd.N (Kd.slice 3 (Kd.int .i64)) 40 w' w.heap.size (fun k_=>(w.heap.size ≤ k_) ∧ some k_ ≠ (u8:Value).ownBlock ∧ k_ ≠ gb101) u5 x5_1) ∧ Aside0 (Kd.R (Kd.int .i64) 3 w' w.heap.size (fun k_=>(w.heap.size ≤ k_)) u8 x8_3) ∧ Aside0 (w'.heap[gb101]? = some (.cells #[.int .i64 a0_0,.int .i64 a0_1,(.slice (some ad102) l0_2.length c0_2)] 75 (0,0))) ∧ Aside0 (Below w.heap.size w w'))
       case atStart=>exact ⟨(0),aq6,H',⟨Nat.le_refl _⟩,⟨aq13⟩,⟨aq20⟩,⟨aq2⟩,⟨aq0⟩⟩
       case round =>
        clear H'
        try clear c1
        try clear p1
        try clear q1
        try clear hx1
        try clear c2
        try clear p2
        try clear c5
        try clear c5b0
        try clear c6
        try clear c6b0
        try clear p6
        try clear c7
        try clear c7b0
        try clear c9
        try clear c9b0
        try clear c9b1
        try clear p10
        try clear q10
        try clear hx10
        try clear c12
        try clear c13
        try clear c16
        try clear c19
        try clear c19b0
        try clear c20
        try clear hcz11_0
        try clear hcz11_1
        try clear hcz11_2
        try clear hcz17_0
        try clear hcz17_1
        try clear hcz17_2
        try clear hcz23_0
        try clear hcz23_1
        try clear hcz23_2
        try clear hcz4_0
        try clear hcz4_1
        try clear hcz4_2
        try clear hfz11_0
        try clear hfz11_1
        try clear hfz11_2
        try clear hfz17_0
        try clear hfz17_1
        try clear hfz17_2
        try clear hfz23_0
        try clear hfz23_1
        try clear hfz23_2
        try clear hfz4_0
        try clear hfz4_1
        try clear hfz4_2
        try clear hx102_0
        try clear p1
        try clear p10
        try clear p102
        try clear p2
        try clear p6
        try clear q1
        try clear q10
        try clear q102
        obtain ⟨x10_4,rfl,HA,HK4,HO_5,HO_8,BK101,HB⟩:=hrel
        cases gk with
        | zero=>exact absurd HA.out (by simp [spec_tiStretches.l2])
        | succ k4 =>
         have H:=HA.out
         clear HA
         simp only [spec_tiStretches.l2] at H
         by_cases c25:x10_4 < (x5_1.length:Int)
         rotate_left
         ·rw [if_neg c25] at H
          have c25b0:=decide_eq_false c25
          clear c25
          obtain ⟨y137,hy_⟩:∃ y_:List (List Int),y_ = (([]:List (List Int))):=⟨_,rfl⟩
          replace H:(if 0 ≤ x10_4 then (if x10_4 ≤ (x5_1.length:Int) then ((some (x5_1.take (x10_4:Int).toNat:List (List Int))).bind fun y140=>(if y137.length + y140.length < 5864062014805 then ((some (y137 ++ y140:List (List Int))).bind fun y145=>(if y145.length < 5864062014805 then ((some (y145 ++ [x8_3]:List (List Int))).bind fun y148=>((some (x5_1.drop (x10_4:Int).toNat:List (List Int))).bind fun y151=>(if y148.length + y151.length < 5864062014805 then (spec_tiStretches.l0 k4 a1 (y148 ++ y151) l0_2 (l0_2.length:Int) (wrap64 (x15_1 + 1)) a0_0 a0_1 l0_2) else (none)))) else (none))) else (none))) else (none)) else (none)) = some r:=aq3
          have Ny137:=am hy_
          clear hy_
          replace H:=gd H
          obtain ⟨c48,H⟩:=H
          have c48b0:=eq_true c48
          have c48b1:=decide_eq_true c48
          clear c48
          replace H:=gd H
          obtain ⟨c49,H⟩:=H
          have c49b0:=eq_true c49
          have c49b1:=decide_eq_true c49
          clear c49
          obtain ⟨y140,hy_⟩:∃ y_:List (List Int),y_ = (x5_1.take (x10_4:Int).toNat):=⟨_,rfl⟩
          replace H:(if y137.length + y140.length < 5864062014805 then ((some (y137 ++ y140:List (List Int))).bind fun y145=>(if y145.length < 5864062014805 then ((some (y145 ++ [x8_3]:List (List Int))).bind fun y148=>((some (x5_1.drop (x10_4:Int).toNat:List (List Int))).bind fun y151=>(if y148.length + y151.length < 5864062014805 then (spec_tiStretches.l0 k4 a1 (y148 ++ y151) l0_2 (l0_2.length:Int) (wrap64 (x15_1 + 1)) a0_0 a0_1 l0_2) else (none)))) else (none))) else (none)) = some r:=aq3
          have Ny140:=am hy_
          clear hy_
          replace H:=gd H
          obtain ⟨c50,H⟩:=H
          have LMc50:=am c50
          clear c50
          obtain ⟨y145,hy_⟩:∃ y_:List (List Int),y_ = (y137 ++ y140):=⟨_,rfl⟩
          replace H:(if y145.length < 5864062014805 then ((some (y145 ++ [x8_3]:List (List Int))).bind fun y148=>((some (x5_1.drop (x10_4:Int).toNat:List (List Int))).bind fun y151=>(if y148.length + y151.length < 5864062014805 then (spec_tiStretches.l0 k4 a1 (y148 ++ y151) l0_2 (l0_2.length:Int) (wrap64 (x15_1 + 1)) a0_0 a0_1 l0_2) else (none)))) else (none)) = some r:=aq3
          have Ny145:=am hy_
          clear hy_
          replace H:=gd H
          obtain ⟨c51,H⟩:=H
          have LMc51:=am c51
          clear c51
          obtain ⟨y148,hy_⟩:∃ y_:List (List Int),y_ = (y145 ++ [x8_3]):=⟨_,rfl⟩
          replace H:((some (x5_1.drop (x10_4:Int).toNat:List (List Int))).bind fun y151=>(if y148.length + y151.length < 5864062014805 then (spec_tiStretches.l0 k4 a1 (y148 ++ y151) l0_2 (l0_2.length:Int) (wrap64 (x15_1 + 1)) a0_0 a0_1 l0_2) else (none))) = some r:=aq3
          have Ny148:=am hy_
          clear hy_
          have c52b0:=eq_true (of_decide_eq_true aq4:0 ≤ x10_4)
          have c53b0:=eq_true (of_decide_eq_true aq4:x10_4 ≤ (x5_1.length:Int))
          obtain ⟨y151,hy_⟩:∃ y_:List (List Int),y_ = (x5_1.drop (x10_4:Int).toNat):=⟨_,rfl⟩
          replace H:(if y148.length + y151.length < 5864062014805 then (spec_tiStretches.l0 k4 a1 (y148 ++ y151) l0_2 (l0_2.length:Int) (wrap64 (x15_1 + 1)) a0_0 a0_1 l0_2) else (none)) = some r:=aq3
          have Ny151:=am hy_
          clear hy_
          replace H:=gd H
          obtain ⟨c54,H⟩:=H
          have LMc54:=am c54
          clear c54
          obtain ⟨y156,hy_⟩:∃ y_:List (List Int),y_ = (y148 ++ y151):=⟨_,rfl⟩
          replace H:(spec_tiStretches.l0 k4 a1 y156 l0_2 (l0_2.length:Int) (wrap64 (x15_1 + 1)) a0_0 a0_1 l0_2) = some r:=aq3
          have Ny156:=am hy_
          clear hy_
          have H':=am H
          clear H
          obtain ⟨Ao55,co55,eo55⟩:=Kd.N_slice HO_5.out
          subst eo55
          go_wp2_with (first | ((with_reducible refine gate_dst (N:=65) rfl ?_);refine Kd.N_lit (Kd.slice 3 (Kd.int .i64)) _ 40 ?hg (N':=65) ?hd (xs:=([]:List (List Int))) (inner:=[]) (ok:=(fun k_=>(w.heap.size ≤ k_) ∧ some k_ ≠ (.slice Ao55 x5_1.length co55:Value).ownBlock ∧ some k_ ≠ (u8:Value).ownBlock ∧ k_ ≠ gb101)) (okp:=(fun k_=>(w.heap.size ≤ k_) ∧ some k_ ≠ (.slice Ao55 x5_1.length co55:Value).ownBlock ∧ some k_ ≠ (u8:Value).ownBlock ∧ k_ ≠ gb101)) ?hr ?hp (fun _ hk=>hk) ((show ∀ k_,wr.heap.size ≤ k_ → (fun k_=>(w.heap.size ≤ k_) ∧ some k_ ≠ (.slice Ao55 x5_1.length co55:Value).ownBlock ∧ some k_ ≠ (u8:Value).ownBlock ∧ k_ ≠ gb101) k_ from fun k_ hk=>⟨(Nat.le_trans (below_size aq0) hk),Kd.fresh' (Kd.N_lt aq13) k_ hk,Kd.fresh' (Kd.R_lt aq20) k_ hk,Kd.freshB (g:=gb101) (o:=.cells #[.int .i64 a0_0,.int .i64 a0_1,.slice (some ad102) l0_2.length c0_2] 75 (0,0)) aq2 k_ hk⟩) _ (Nat.le_refl _)) (Below.refl _ _) (Nat.le_refl _) (by simp) ?_;(case hd=>rfl);(case hg=>rfl);(case hr=>exact aq12);(case hp=>exact aq83);intro v138 w56 ho57 hb hg_ hnew_;clear hg_ hnew_;(first | rw [← Ny137.out] at ho57 | (simp only [Int.reduceToNat] at ho57;rw [← Ny137.out] at ho57));replace HO_5:=am (Kd.N_elder' aq13 (Kd.N_base ho57) hb);replace HO_8:=am (Kd.R_below aq20 hb);have HO139:=am (Kd.N_lower ho57 (below_size aq0));replace BK101:=am (bb BK101 hb);replace HB:=am (below_step aq0 hb);clear hb ho57;have q58:(x10_4:Int) ≤ ((x5_1.length:Int):Int):=of_decide_eq_true aq4;obtain ⟨i058,hi058,_,hsz58,_⟩:=info_parts info40;have hroom58:x5_1.length ≤ co55:=(Kd.N_reads' HO_5.out).2.1;have hC58:Kd.F (Kd.slice 3 (Kd.int .i64)) _ _ Ao55 x5_1.length x5_1:=(Kd.V_at (base:=w.heap.size) (Kd.N_V HO_5.out)).2.2;have hcut58:=cut_to (P:=Tryz.prog) 57 40 .i64 Tryz.underlying57 hi058 Ao55 x5_1.length co55 x10_4 (of_decide_eq_true aq4) q58 hroom58;have hr58:=Kd.F_take (m:=(x10_4:Int).toNat) hC58 o_m;have hy58:y140.length = (x10_4:Int).toNat:=(by rw [Ny140.out,List.length_take];omega);rw [← Ny140.out] at hr58;rw [← hy58] at hcut58;have HO144:=am (show Kd.V (Kd.slice 3 (Kd.int .i64)) 40 _ w.heap.size _ (.slice Ao55 y140.length co55) y140 from Kd.V_mk o_m hr58);have HC144:=am (show y140.length ≤ co55 from by omega);clear hr58 hC58 hroom58 hi058 hsz58;have KY58:=am hy58;clear hy58;replace q58:=eq_true q58) | ((with_reducible refine gate_builtin (b:=.append) (xs:=#[.tmp 65,.tmp 68]) rfl ?_);at_builtin;refine Kd.N_append_rows (Kd.slice 3 (Kd.int .i64)) (w0:=w) w.heap.size rfl (.tmp 65) (.tmp 68) 57 40 (.slice none 0 0) 24 rfl Tryz.underlying57 info40 rfl d_c o_m v138 y137 y140 _ _ _ (fun k_=>(w.heap.size ≤ k_) ∧ some k_ ≠ (u8:Value).ownBlock ∧ k_ ≠ gb101) (fun k_=>((fun k_=>(w.heap.size ≤ k_) ∧ some k_ ≠ (u8:Value).ownBlock ∧ k_ ≠ gb101)) k_ ∧ some k_ ≠ (v138:Value).ownBlock) rfl rfl ?aO ?aR (fun _ hk=>hk) ?aF ?aB ?aS ?aL ?_;(case aR=>exact (by skip;exact Kd.V_F (Kd.V_mono (ok':=(fun k_=>((fun k_=>(w.heap.size ≤ k_) ∧ some k_ ≠ (u8:Value).ownBlock ∧ k_ ≠ gb101)) k_ ∧ some k_ ≠ (v138:Value).ownBlock)) (HO144.out) (fun k_ hk=>⟨⟨hk.1.1,⟨hk.1.2.1,hk.1.2.2⟩⟩,hk.2⟩))));(case aB=>exact aq0);(case aF=>exact aq59);(case aO=>exact (by (with_reducible repeat (first | apply Kd.N_alloc | apply Kd.N_drewN | apply Kd.N_drew));exact Kd.N_mono HO139.out (fun _ hk=>⟨hk.1,⟨hk.2.2.1,hk.2.2.2⟩⟩)));(case aS=>exact aq52);(case aL=>have:=LMc50.out;omega);intro v146 w59 ho hb hg hat;rw [← Ny145.out] at ho;replace HO_5:=am (Kd.N_afterv (ok:=(fun k_=>(w.heap.size ≤ k_) ∧ some k_ ≠ (u8:Value).ownBlock ∧ k_ ≠ gb101)) aq13 hg hat);replace HO_8:=am (Kd.R_over' aq20 (Kd.N_typed (by (with_reducible repeat (first | apply Kd.N_alloc | apply Kd.N_drewN | apply Kd.N_drew));exact HO139.out)) d_c hg);replace BK101:=am (bg BK101 hg (Kd.N_ne HO139.out BK101.out d_c));replace HO144:=am (Kd.V_afterv (ok:=(fun k_=>(w.heap.size ≤ k_) ∧ some k_ ≠ (u8:Value).ownBlock ∧ k_ ≠ gb101)) (by (with_reducible repeat (first | apply Kd.V_alloc | apply Kd.V_drewN | apply Kd.V_drew));exact HO144.out) hg hat);replace HB:=am (hb);have HO147:=am (ho);clear HO139 ho hb hg hat;obtain ⟨Ao61,co61,eo61⟩:=Kd.R_slice HO_8.out;subst eo61) | ((with_reducible refine gate_builtin (b:=.append) (xs:=#[.tmp 69,.tmp 71]) rfl ?_);at_builtin;refine Kd.N_append (Kd.slice 3 (Kd.int .i64)) (w0:=w) w.heap.size rfl (.tmp 69) (.tmp 71) 57 40 (.slice none 0 0) 24 rfl Tryz.underlying57 info40 rfl d_c o_m v146 y145 x8_3 [.slice Ao61 x8_3.length co61] (fun k_=>(w.heap.size ≤ k_) ∧ k_ ≠ gb101) (fun k_=>((fun k_=>(w.heap.size ≤ k_) ∧ k_ ≠ gb101)) k_ ∧ some k_ ≠ (v146:Value).ownBlock) rfl rfl ?aP (fun _ hk=>hk) ?aF ?aO ?aB ?aS ?aL ?_;(case aP=>exact (Kd.FK_slice_mk (Kd.R_reads' (Kd.R_mono (ok':=(fun k_=>((fun k_=>(w.heap.size ≤ k_) ∧ k_ ≠ gb101)) k_ ∧ some k_ ≠ (v146:Value).ownBlock)) (Kd.R_types (Kd.R_apart' (HO_8.out) (Kd.N_typed HO147.out) d_c) BK101.out d_c) (fun k_ hk=>⟨⟨hk.1.1,hk.2⟩,hk.1.2⟩))).2.1 (Kd.R_F (Kd.R_mono (ok':=(fun k_=>((fun k_=>(w.heap.size ≤ k_) ∧ k_ ≠ gb101)) k_ ∧ some k_ ≠ (v146:Value).ownBlock)) (Kd.R_types (Kd.R_apart' (HO_8.out) (Kd.N_typed HO147.out) d_c) BK101.out d_c) (fun k_ hk=>⟨⟨hk.1.1,hk.2⟩,hk.1.2⟩)))));(case aB=>exact aq0);(case aF=>exact aq32);(case aO=>exact (by (with_reducible repeat (first | apply Kd.N_alloc | apply Kd.N_drewN | apply Kd.N_drew));exact Kd.N_mono HO147.out (fun _ hk=>⟨hk.1,hk.2.2⟩)));(case aS=>exact aq52);(case aL=>have:=LMc51.out;omega);intro v149 w60 ho hb hg hat;rw [← Ny148.out] at ho;replace HO_5:=am (Kd.N_afterv (ok:=(fun k_=>(w.heap.size ≤ k_) ∧ some k_ ≠ (.slice Ao61 x8_3.length co61:Value).ownBlock ∧ k_ ≠ gb101)) aq13 hg hat);replace BK101:=am (bg BK101 hg (Kd.N_ne HO147.out BK101.out d_c));replace HO144:=am (Kd.V_afterv (ok:=(fun k_=>(w.heap.size ≤ k_) ∧ some k_ ≠ (.slice Ao61 x8_3.length co61:Value).ownBlock ∧ k_ ≠ gb101)) (by (with_reducible repeat (first | apply Kd.V_alloc | apply Kd.V_drewN | apply Kd.V_drew));exact HO144.out) hg hat);replace HB:=am (hb);have HO150:=am (ho);clear HO147 HO_8 ho hb hg hat;have q62:(x10_4:Int) ≤ ((x5_1.length:Int):Int):=of_decide_eq_true aq4;obtain ⟨i062,hi062,_,hsz62,_⟩:=info_parts info40;have hroom62:x5_1.length ≤ co55:=(Kd.N_reads' HO_5.out).2.1;have hC62:Kd.F (Kd.slice 3 (Kd.int .i64)) _ _ Ao55 x5_1.length x5_1:=(Kd.V_at (base:=w.heap.size) (Kd.N_V HO_5.out)).2.2;have q062:(0:Int) ≤ (x10_4:Int):=of_decide_eq_true aq4;have hcut62:=cut_from (P:=Tryz.prog) 57 40 .i64 Tryz.underlying57 hi062 1 hsz62 Ao55 x5_1.length co55 x10_4 q062 q62;have hr62:=Kd.F_cut (m:=(x10_4:Int).toNat) (c:=co55) hC62 o_m hroom62;obtain ⟨A62,hA62⟩:∃ A1,A1 = (if co55 = (x10_4:Int).toNat then Ao55 else (Ao55:Option Addr).map (·.add ((x10_4:Int).toNat * 1))):=⟨_,rfl⟩;obtain ⟨c62,hc62⟩:∃ c1,c1 = co55 - (x10_4:Int).toNat:=⟨_,rfl⟩;have hy62:y151.length = x5_1.length - (x10_4:Int).toNat:=(by rw [Ny151.out,List.length_drop] <;> omega);rw [show (x5_1).drop (x10_4:Int).toNat = y151 from Ny151.out.symm] at hr62;replace hr62:Kd.F (Kd.slice 3 (Kd.int .i64)) _ _ A62 y151.length y151:=(by rw [hA62];exact hr62);rw [← hy62,← hA62,← hc62] at hcut62;have HO155:=am (show Kd.V (Kd.slice 3 (Kd.int .i64)) 40 _ w.heap.size _ (.slice A62 y151.length c62) y151 from Kd.V_mk (by rw [hy62,hc62];exact Nat.sub_le_sub_right hroom62 _) hr62);have HC155:=am (show y151.length ≤ c62 from by rw [hy62,hc62];exact Nat.sub_le_sub_right hroom62 _);clear hr62 hC62 hroom62 hi062 hsz62 hc62;have KY62:=am hy62;have KA62:=am hA62;clear hy62 hA62;replace q62:=eq_true q62) | ((with_reducible refine gate_builtin (b:=.append) (xs:=#[.tmp 73,.tmp 76]) rfl ?_);at_builtin;refine Kd.N_append_rows (Kd.slice 3 (Kd.int .i64)) (w0:=w) w.heap.size rfl (.tmp 73) (.tmp 76) 57 40 (.slice none 0 0) 24 rfl Tryz.underlying57 info40 rfl d_c o_m v149 y148 y151 _ _ _ (fun k_=>(w.heap.size ≤ k_) ∧ k_ ≠ gb101) (fun k_=>((fun k_=>(w.heap.size ≤ k_) ∧ k_ ≠ gb101)) k_ ∧ some k_ ≠ (v149:Value).ownBlock) rfl rfl ?aO ?aR (fun _ hk=>hk) ?aF ?aB ?aS ?aL ?_;(case aR=>exact (by skip;exact Kd.V_F (Kd.V_mono (ok':=(fun k_=>((fun k_=>(w.heap.size ≤ k_) ∧ k_ ≠ gb101)) k_ ∧ some k_ ≠ (v149:Value).ownBlock)) (HO155.out) (fun k_ hk=>⟨⟨hk.1.1,hk.1.2.2⟩,hk.2⟩))));(case aB=>exact aq0);(case aF=>exact aq32);(case aO=>exact (by (with_reducible repeat (first | apply Kd.N_alloc | apply Kd.N_drewN | apply Kd.N_drew));exact HO150.out));(case aS=>exact aq52);(case aL=>have:=LMc54.out;omega);intro v157 w63 ho hb hg hat;rw [← Ny156.out] at ho;replace HO_5:=am (Kd.N_afterv (ok:=(fun k_=>(w.heap.size ≤ k_) ∧ k_ ≠ gb101)) aq77 hg hat);replace BK101:=am (bg BK101 hg (Kd.N_ne HO150.out BK101.out d_c));replace HO144:=am (Kd.V_afterv (ok:=(fun k_=>(w.heap.size ≤ k_) ∧ k_ ≠ gb101)) (by (with_reducible repeat (first | apply Kd.V_alloc | apply Kd.V_drewN | apply Kd.V_drew));exact Kd.V_mono HO144.out (fun _ hk=>⟨⟨hk.1.1,hk.1.2.2⟩,hk.2⟩)) hg hat);replace HO155:=am (Kd.V_afterv (ok:=(fun k_=>(w.heap.size ≤ k_) ∧ k_ ≠ gb101)) (by (with_reducible repeat (first | apply Kd.V_alloc | apply Kd.V_drewN | apply Kd.V_drew));exact Kd.V_mono HO155.out (fun _ hk=>⟨⟨hk.1.1,hk.1.2.2⟩,hk.2⟩)) hg hat);replace HB:=am (hb);have HO158:=am (ho);clear HO150 ho hb hg hat))
          go_roundg k4
          case measure=>have:=HK1.out;have:=HJ7.out;have:=HK3.out;have:=HK4.out;omega
          case rel=>exact ⟨(y156),(wrap64 (x15_1 + 1)),aq6,H',⟨aq78⟩,⟨by (with_reducible repeat (first | apply Kd.N_alloc | apply Kd.N_drewN | apply Kd.N_drew));exact HO158.out⟩,⟨aq2⟩,⟨aq0⟩⟩
         rw [if_pos c25] at H
         have c25b0:=decide_eq_true c25
         clear c25
         replace H:=gd H
         obtain ⟨c26,H⟩:=H
         have c26b0:=decide_eq_true c26
         clear c26
         obtain ⟨t113,A27,H⟩:=bn H
         obtain ⟨t114,A28,H⟩:=bn H
         by_cases c29:t113 < t114
         ·rw [if_pos c29] at H
          have c29b0:=decide_eq_true c29
          clear c29
          have H':=am H
          clear H
          obtain ⟨Ao30,co30,eo30⟩:=Kd.N_slice HO_5.out
          subst eo30
          have p112:0 ≤ (x10_4:Int):=of_decide_eq_true aq4
          have q112:x10_4 < (x5_1.length:Int):=of_decide_eq_true aq4
          obtain ⟨ad112,A112_0,c112_0,e112,hx112_0,hl112_0,hi112_0⟩:=at_L3 (Kd.N_reads' HO_5.out).2.2 x10_4 p112 q112
          cases e112
          obtain ⟨ce112,hce112,hMe112,hcc112⟩:=Kd.N_get HO_5.out [] x10_4 p112 (by first | exact q112 | exact of_decide_eq_true aq4 | (have e_:=(Kd.N_reads' HO_5.out).1;omega))
          obtain ⟨ua112_0,uc112_0,rfl,ul112_0,ge112_0⟩:=Kd.FK_slice_open hMe112
          have hv112_0:=hcc112 0 _ rfl
          rw [Nat.add_zero,show ((Kd.slice 3 (Kd.int .i64))).sz = 1 from rfl,Nat.mul_one] at hv112_0
          replace hv112_0:=Option.some.inj (hv112_0.symm.trans hx112_0)
          injection hv112_0 with hva_ hvn_ hvc_
          rw [hva_] at ge112_0
          rw [hvc_] at ul112_0
          have HL112_0:=am (show Kd.V (Kd.int .i64) 3 _ w.heap.size _ _ (rd_L3 x5_1 x10_4) from Kd.V_mk ul112_0 ge112_0)
          clear hva_ hvn_ hvc_ ge112_0 ul112_0 hcc112 hce112
          have HR112_0:=am hi112_0
          have HC112_0:=am hl112_0
          clear hi112_0 hl112_0
          replace p112:=eq_true p112
          replace q112:=eq_true q112
          go_wp2_with (first | (go_at_call 161;(with_reducible refine (spec_tiFirst.calls k4 _ _ (rd_L3 x5_1 x10_4) t113 _ ?side1 ?side2 A27.out).mono ?_);(case side1=>exact aq87);(case side2=>exact HC112_0.out);rintro e w' ⟨rfl,⟨nd,rfl⟩⟩;obtain ⟨Ao31,co31,eo31⟩:=Kd.R_slice HO_8.out;subst eo31) | (go_at_call 161;(with_reducible refine (spec_tiFirst.calls k4 _ _ x8_3 t114 _ ?side1 ?side2 A28.out).mono ?_);(case side1=>exact aq72);(case side2=>exact (Kd.R_reads' HO_8.out).2.1);rintro e w' ⟨rfl,⟨nd,rfl⟩⟩))
          go_roundg k4
          case measure=>have:=HK1.out;have:=HJ7.out;have:=HK3.out;have:=HK4.out;omega
          case rel=>exact ⟨(wrap64 (x10_4 + 1)),aq6,H',⟨aq78⟩,⟨aq13⟩,⟨aq20⟩,⟨aq2⟩,⟨aq0⟩⟩
         rw [if_neg c29] at H
         have c29b0:=decide_eq_false c29
         clear c29
         obtain ⟨y115,hy_⟩:∃ y_:List (List Int),y_ = (([]:List (List Int))):=⟨_,rfl⟩
         replace H:(if x10_4 ≤ (x5_1.length:Int) then ((some (x5_1.take (x10_4:Int).toNat:List (List Int))).bind fun y118=>(if y115.length + y118.length < 5864062014805 then ((some (y115 ++ y118:List (List Int))).bind fun y123=>(if y123.length < 5864062014805 then ((some (y123 ++ [x8_3]:List (List Int))).bind fun y126=>((some (x5_1.drop (x10_4:Int).toNat:List (List Int))).bind fun y129=>(if y126.length + y129.length < 5864062014805 then (spec_tiStretches.l0 k4 a1 (y126 ++ y129) l0_2 (l0_2.length:Int) (wrap64 (x15_1 + 1)) a0_0 a0_1 l0_2) else (none)))) else (none))) else (none))) else (none)) = some r:=aq3
         have Ny115:=am hy_
         clear hy_
         have c32b0:=eq_true (of_decide_eq_true aq4:0 ≤ x10_4)
         replace H:=gd H
         obtain ⟨c33,H⟩:=H
         have c33b0:=eq_true c33
         have c33b1:=decide_eq_true c33
         clear c33
         obtain ⟨y118,hy_⟩:∃ y_:List (List Int),y_ = (x5_1.take (x10_4:Int).toNat):=⟨_,rfl⟩
         replace H:(if y115.length + y118.length < 5864062014805 then ((some (y115 ++ y118:List (List Int))).bind fun y123=>(if y123.length < 5864062014805 then ((some (y123 ++ [x8_3]:List (List Int))).bind fun y126=>((some (x5_1.drop (x10_4:Int).toNat:List (List Int))).bind fun y129=>(if y126.length + y129.length < 5864062014805 then (spec_tiStretches.l0 k4 a1 (y126 ++ y129) l0_2 (l0_2.length:Int) (wrap64 (x15_1 + 1)) a0_0 a0_1 l0_2) else (none)))) else (none))) else (none)) = some r:=aq3
         have Ny118:=am hy_
         clear hy_
         replace H:=gd H
         obtain ⟨c34,H⟩:=H
         have LMc34:=am c34
         clear c34
         obtain ⟨y123,hy_⟩:∃ y_:List (List Int),y_ = (y115 ++ y118):=⟨_,rfl⟩
         replace H:(if y123.length < 5864062014805 then ((some (y123 ++ [x8_3]:List (List Int))).bind fun y126=>((some (x5_1.drop (x10_4:Int).toNat:List (List Int))).bind fun y129=>(if y126.length + y129.length < 5864062014805 then (spec_tiStretches.l0 k4 a1 (y126 ++ y129) l0_2 (l0_2.length:Int) (wrap64 (x15_1 + 1)) a0_0 a0_1 l0_2) else (none)))) else (none)) = some r:=aq3
         have Ny123:=am hy_
         clear hy_
         replace H:=gd H
         obtain ⟨c35,H⟩:=H
         have LMc35:=am c35
         clear c35
         obtain ⟨y126,hy_⟩:∃ y_:List (List Int),y_ = (y123 ++ [x8_3]):=⟨_,rfl⟩
         replace H:((some (x5_1.drop (x10_4:Int).toNat:List (List Int))).bind fun y129=>(if y126.length + y129.length < 5864062014805 then (spec_tiStretches.l0 k4 a1 (y126 ++ y129) l0_2 (l0_2.length:Int) (wrap64 (x15_1 + 1)) a0_0 a0_1 l0_2) else (none))) = some r:=aq3
         have Ny126:=am hy_
         clear hy_
         have c36b0:=eq_true (of_decide_eq_true aq4:0 ≤ x10_4)
         have c37b0:=eq_true (of_decide_eq_true aq4:x10_4 ≤ (x5_1.length:Int))
         obtain ⟨y129,hy_⟩:∃ y_:List (List Int),y_ = (x5_1.drop (x10_4:Int).toNat):=⟨_,rfl⟩
         replace H:(if y126.length + y129.length < 5864062014805 then (spec_tiStretches.l0 k4 a1 (y126 ++ y129) l0_2 (l0_2.length:Int) (wrap64 (x15_1 + 1)) a0_0 a0_1 l0_2) else (none)) = some r:=aq3
         have Ny129:=am hy_
         clear hy_
         replace H:=gd H
         obtain ⟨c38,H⟩:=H
         have LMc38:=am c38
         clear c38
         obtain ⟨y134,hy_⟩:∃ y_:List (List Int),y_ = (y126 ++ y129):=⟨_,rfl⟩
         replace H:(spec_tiStretches.l0 k4 a1 y134 l0_2 (l0_2.length:Int) (wrap64 (x15_1 + 1)) a0_0 a0_1 l0_2) = some r:=aq3
         have Ny134:=am hy_
         clear hy_
         have H':=am H
         clear H
         obtain ⟨Ao39,co39,eo39⟩:=Kd.N_slice HO_5.out
         subst eo39
         have p112:0 ≤ (x10_4:Int):=of_decide_eq_true aq4
         have q112:x10_4 < (x5_1.length:Int):=of_decide_eq_true aq4
         obtain ⟨ad112,A112_0,c112_0,e112,hx112_0,hl112_0,hi112_0⟩:=at_L3 (Kd.N_reads' HO_5.out).2.2 x10_4 p112 q112
         cases e112
         obtain ⟨ce112,hce112,hMe112,hcc112⟩:=Kd.N_get HO_5.out [] x10_4 p112 (by first | exact q112 | exact of_decide_eq_true aq4 | (have e_:=(Kd.N_reads' HO_5.out).1;omega))
         obtain ⟨ua112_0,uc112_0,rfl,ul112_0,ge112_0⟩:=Kd.FK_slice_open hMe112
         have hv112_0:=hcc112 0 _ rfl
         rw [Nat.add_zero,show ((Kd.slice 3 (Kd.int .i64))).sz = 1 from rfl,Nat.mul_one] at hv112_0
         replace hv112_0:=Option.some.inj (hv112_0.symm.trans hx112_0)
         injection hv112_0 with hva_ hvn_ hvc_
         rw [hva_] at ge112_0
         rw [hvc_] at ul112_0
         have HL112_0:=am (show Kd.V (Kd.int .i64) 3 _ w.heap.size _ _ (rd_L3 x5_1 x10_4) from Kd.V_mk ul112_0 ge112_0)
         clear hva_ hvn_ hvc_ ge112_0 ul112_0 hcc112 hce112
         have HR112_0:=am hi112_0
         have HC112_0:=am hl112_0
         clear hi112_0 hl112_0
         replace p112:=eq_true p112
         replace q112:=eq_true q112
         go_wp2_with (first | (go_at_call 161;(with_reducible refine (spec_tiFirst.calls k4 _ _ (rd_L3 x5_1 x10_4) t113 _ ?side1 ?side2 A27.out).mono ?_);(case side1=>exact aq87);(case side2=>exact HC112_0.out);rintro e w' ⟨rfl,⟨nd,rfl⟩⟩;obtain ⟨Ao40,co40,eo40⟩:=Kd.R_slice HO_8.out;subst eo40) | (go_at_call 161;(with_reducible refine (spec_tiFirst.calls k4 _ _ x8_3 t114 _ ?side1 ?side2 A28.out).mono ?_);(case side1=>exact aq72);(case side2=>exact (Kd.R_reads' HO_8.out).2.1);rintro e w' ⟨rfl,⟨nd,rfl⟩⟩) | ((with_reducible refine gate_dst (N:=65) rfl ?_);refine Kd.N_lit (Kd.slice 3 (Kd.int .i64)) _ 40 ?hg (N':=65) ?hd (xs:=([]:List (List Int))) (inner:=[]) (ok:=(fun k_=>(w.heap.size ≤ k_) ∧ some k_ ≠ (.slice (some ad112) x5_1.length co39:Value).ownBlock ∧ some k_ ≠ (.slice Ao40 x8_3.length co40:Value).ownBlock ∧ k_ ≠ gb101)) (okp:=(fun k_=>(w.heap.size ≤ k_) ∧ some k_ ≠ (.slice (some ad112) x5_1.length co39:Value).ownBlock ∧ some k_ ≠ (.slice Ao40 x8_3.length co40:Value).ownBlock ∧ k_ ≠ gb101)) ?hr ?hp (fun _ hk=>hk) ((show ∀ k_,wr.heap.size ≤ k_ → (fun k_=>(w.heap.size ≤ k_) ∧ some k_ ≠ (.slice (some ad112) x5_1.length co39:Value).ownBlock ∧ some k_ ≠ (.slice Ao40 x8_3.length co40:Value).ownBlock ∧ k_ ≠ gb101) k_ from fun k_ hk=>⟨(Nat.le_trans (below_size aq0) hk),Kd.fresh' (Kd.N_lt aq13) k_ hk,Kd.fresh' (Kd.R_lt aq20) k_ hk,Kd.freshB (g:=gb101) (o:=.cells #[.int .i64 a0_0,.int .i64 a0_1,.slice (some ad102) l0_2.length c0_2] 75 (0,0)) aq2 k_ hk⟩) _ (Nat.le_refl _)) (Below.refl _ _) (Nat.le_refl _) (by simp) ?_;(case hd=>rfl);(case hg=>rfl);(case hr=>exact aq12);(case hp=>exact aq83);intro v116 w41 ho42 hb hg_ hnew_;clear hg_ hnew_;(first | rw [← Ny115.out] at ho42 | (simp only [Int.reduceToNat] at ho42;rw [← Ny115.out] at ho42));replace HO_5:=am (Kd.N_elder' aq13 (Kd.N_base ho42) hb);replace HO_8:=am (Kd.R_below aq20 hb);replace HL112_0:=am (Kd.V_elder' (by (with_reducible repeat (first | apply Kd.V_alloc | apply Kd.V_drewN | apply Kd.V_drew));exact HL112_0.out) (Kd.N_base ho42) hb);have HO117:=am (Kd.N_lower ho42 (below_size aq0));replace BK101:=am (bb BK101 hb);replace HR112_0:=am (Kd.C_below aq42 hb);replace HB:=am (below_step aq0 hb);clear hb ho42;have q43:(x10_4:Int) ≤ ((x5_1.length:Int):Int):=of_decide_eq_true aq4;obtain ⟨i043,hi043,_,hsz43,_⟩:=info_parts info40;have hroom43:x5_1.length ≤ co39:=(Kd.N_reads' HO_5.out).2.1;have hC43:Kd.F (Kd.slice 3 (Kd.int .i64)) _ _ (some ad112) x5_1.length x5_1:=(Kd.V_at (base:=w.heap.size) (Kd.N_V HO_5.out)).2.2;have hcut43:=cut_to (P:=Tryz.prog) 57 40 .i64 Tryz.underlying57 hi043 (some ad112) x5_1.length co39 x10_4 (of_decide_eq_true aq4) q43 hroom43;have hr43:=Kd.F_take (m:=(x10_4:Int).toNat) hC43 o_m;have hy43:y118.length = (x10_4:Int).toNat:=(by rw [Ny118.out,List.length_take];omega);rw [← Ny118.out] at hr43;rw [← hy43] at hcut43;have HO122:=am (show Kd.V (Kd.slice 3 (Kd.int .i64)) 40 _ w.heap.size _ (.slice (some ad112) y118.length co39) y118 from Kd.V_mk o_m hr43);have HC122:=am (show y118.length ≤ co39 from by omega);clear hr43 hC43 hroom43 hi043 hsz43;have KY43:=am hy43;clear hy43;replace q43:=eq_true q43) | ((with_reducible refine gate_builtin (b:=.append) (xs:=#[.tmp 65,.tmp 68]) rfl ?_);at_builtin;refine Kd.N_append_rows (Kd.slice 3 (Kd.int .i64)) (w0:=w) w.heap.size rfl (.tmp 65) (.tmp 68) 57 40 (.slice none 0 0) 24 rfl Tryz.underlying57 info40 rfl d_c o_m v116 y115 y118 _ _ _ (fun k_=>(w.heap.size ≤ k_) ∧ some k_ ≠ (.slice Ao40 x8_3.length co40:Value).ownBlock ∧ k_ ≠ gb101) (fun k_=>((fun k_=>(w.heap.size ≤ k_) ∧ some k_ ≠ (.slice Ao40 x8_3.length co40:Value).ownBlock ∧ k_ ≠ gb101)) k_ ∧ some k_ ≠ (v116:Value).ownBlock) rfl rfl ?aO ?aR (fun _ hk=>hk) ?aF ?aB ?aS ?aL ?_;(case aR=>exact (by skip;exact Kd.V_F (Kd.V_mono (ok':=(fun k_=>((fun k_=>(w.heap.size ≤ k_) ∧ some k_ ≠ (.slice Ao40 x8_3.length co40:Value).ownBlock ∧ k_ ≠ gb101)) k_ ∧ some k_ ≠ (v116:Value).ownBlock)) (HO122.out) (fun k_ hk=>⟨⟨hk.1.1,⟨hk.1.2.1,hk.1.2.2⟩⟩,hk.2⟩))));(case aB=>exact aq0);(case aF=>exact aq59);(case aO=>exact (by (with_reducible repeat (first | apply Kd.N_alloc | apply Kd.N_drewN | apply Kd.N_drew));exact Kd.N_mono HO117.out (fun _ hk=>⟨hk.1,⟨hk.2.2.1,hk.2.2.2⟩⟩)));(case aS=>exact aq52);(case aL=>have:=LMc34.out;omega);intro v124 w44 ho hb hg hat;rw [← Ny123.out] at ho;replace HO_5:=am (Kd.N_afterv (ok:=(fun k_=>(w.heap.size ≤ k_) ∧ some k_ ≠ (.slice Ao40 x8_3.length co40:Value).ownBlock ∧ k_ ≠ gb101)) aq13 hg hat);replace HO_8:=am (Kd.R_over' aq20 (Kd.N_typed (by (with_reducible repeat (first | apply Kd.N_alloc | apply Kd.N_drewN | apply Kd.N_drew));exact HO117.out)) d_c hg);replace BK101:=am (bg BK101 hg (Kd.N_ne HO117.out BK101.out d_c));replace HL112_0:=am (Kd.V_afterv (ok:=(fun k_=>(w.heap.size ≤ k_) ∧ some k_ ≠ (.slice (some ad112) x5_1.length co39:Value).ownBlock ∧ some k_ ≠ (.slice Ao40 x8_3.length co40:Value).ownBlock ∧ k_ ≠ gb101)) (by (with_reducible repeat (first | apply Kd.V_alloc | apply Kd.V_drewN | apply Kd.V_drew));exact Kd.V_mono HL112_0.out (fun _ hk=>⟨⟨hk.1.1.1,⟨hk.1.2,⟨hk.1.1.2.1,hk.1.1.2.2⟩⟩⟩,hk.2⟩)) hg hat);replace HO122:=am (Kd.V_afterv (ok:=(fun k_=>(w.heap.size ≤ k_) ∧ some k_ ≠ (.slice Ao40 x8_3.length co40:Value).ownBlock ∧ k_ ≠ gb101)) (by (with_reducible repeat (first | apply Kd.V_alloc | apply Kd.V_drewN | apply Kd.V_drew));exact HO122.out) hg hat);replace HB:=am (hb);have HO125:=am (ho);clear HO117 ho hb hg hat) | ((with_reducible refine gate_builtin (b:=.append) (xs:=#[.tmp 69,.tmp 71]) rfl ?_);at_builtin;refine Kd.N_append (Kd.slice 3 (Kd.int .i64)) (w0:=w) w.heap.size rfl (.tmp 69) (.tmp 71) 57 40 (.slice none 0 0) 24 rfl Tryz.underlying57 info40 rfl d_c o_m v124 y123 x8_3 [.slice Ao40 x8_3.length co40] (fun k_=>(w.heap.size ≤ k_) ∧ k_ ≠ gb101) (fun k_=>((fun k_=>(w.heap.size ≤ k_) ∧ k_ ≠ gb101)) k_ ∧ some k_ ≠ (v124:Value).ownBlock) rfl rfl ?aP (fun _ hk=>hk) ?aF ?aO ?aB ?aS ?aL ?_;(case aP=>exact (Kd.FK_slice_mk (Kd.R_reads' (Kd.R_mono (ok':=(fun k_=>((fun k_=>(w.heap.size ≤ k_) ∧ k_ ≠ gb101)) k_ ∧ some k_ ≠ (v124:Value).ownBlock)) (Kd.R_types (Kd.R_apart' (HO_8.out) (Kd.N_typed HO125.out) d_c) BK101.out d_c) (fun k_ hk=>⟨⟨hk.1.1,hk.2⟩,hk.1.2⟩))).2.1 (Kd.R_F (Kd.R_mono (ok':=(fun k_=>((fun k_=>(w.heap.size ≤ k_) ∧ k_ ≠ gb101)) k_ ∧ some k_ ≠ (v124:Value).ownBlock)) (Kd.R_types (Kd.R_apart' (HO_8.out) (Kd.N_typed HO125.out) d_c) BK101.out d_c) (fun k_ hk=>⟨⟨hk.1.1,hk.2⟩,hk.1.2⟩)))));(case aB=>exact aq0);(case aF=>exact aq32);(case aO=>exact (by (with_reducible repeat (first | apply Kd.N_alloc | apply Kd.N_drewN | apply Kd.N_drew));exact Kd.N_mono HO125.out (fun _ hk=>⟨hk.1,hk.2.2⟩)));(case aS=>exact aq52);(case aL=>have:=LMc35.out;omega);intro v127 w45 ho hb hg hat;rw [← Ny126.out] at ho;replace HO_5:=am (Kd.N_afterv (ok:=(fun k_=>(w.heap.size ≤ k_) ∧ some k_ ≠ (.slice Ao40 x8_3.length co40:Value).ownBlock ∧ k_ ≠ gb101)) aq13 hg hat);replace BK101:=am (bg BK101 hg (Kd.N_ne HO125.out BK101.out d_c));replace HL112_0:=am (Kd.V_afterv (ok:=(fun k_=>(w.heap.size ≤ k_) ∧ some k_ ≠ (.slice (some ad112) x5_1.length co39:Value).ownBlock ∧ some k_ ≠ (.slice Ao40 x8_3.length co40:Value).ownBlock ∧ k_ ≠ gb101)) (by (with_reducible repeat (first | apply Kd.V_alloc | apply Kd.V_drewN | apply Kd.V_drew));exact HL112_0.out) hg hat);replace HO122:=am (Kd.V_afterv (ok:=(fun k_=>(w.heap.size ≤ k_) ∧ some k_ ≠ (.slice Ao40 x8_3.length co40:Value).ownBlock ∧ k_ ≠ gb101)) (by (with_reducible repeat (first | apply Kd.V_alloc | apply Kd.V_drewN | apply Kd.V_drew));exact HO122.out) hg hat);replace HB:=am (hb);have HO128:=am (ho);clear HO125 HO_8 ho hb hg hat;have q46:(x10_4:Int) ≤ ((x5_1.length:Int):Int):=of_decide_eq_true aq4;obtain ⟨i046,hi046,_,hsz46,_⟩:=info_parts info40;have hroom46:x5_1.length ≤ co39:=(Kd.N_reads' HO_5.out).2.1;have hC46:Kd.F (Kd.slice 3 (Kd.int .i64)) _ _ (some ad112) x5_1.length x5_1:=(Kd.V_at (base:=w.heap.size) (Kd.N_V HO_5.out)).2.2;have q046:(0:Int) ≤ (x10_4:Int):=of_decide_eq_true aq4;have hcut46:=cut_from (P:=Tryz.prog) 57 40 .i64 Tryz.underlying57 hi046 1 hsz46 (some ad112) x5_1.length co39 x10_4 q046 q46;have hr46:=Kd.F_cut (m:=(x10_4:Int).toNat) (c:=co39) hC46 o_m hroom46;obtain ⟨A46,hA46⟩:∃ A1,A1 = (if co39 = (x10_4:Int).toNat then (some ad112) else ((some ad112):Option Addr).map (·.add ((x10_4:Int).toNat * 1))):=⟨_,rfl⟩;obtain ⟨c46,hc46⟩:∃ c1,c1 = co39 - (x10_4:Int).toNat:=⟨_,rfl⟩;have hy46:y129.length = x5_1.length - (x10_4:Int).toNat:=(by rw [Ny129.out,List.length_drop] <;> omega);rw [show (x5_1).drop (x10_4:Int).toNat = y129 from Ny129.out.symm] at hr46;replace hr46:Kd.F (Kd.slice 3 (Kd.int .i64)) _ _ A46 y129.length y129:=(by rw [hA46];exact hr46);rw [← hy46,← hA46,← hc46] at hcut46;have HO133:=am (show Kd.V (Kd.slice 3 (Kd.int .i64)) 40 _ w.heap.size _ (.slice A46 y129.length c46) y129 from Kd.V_mk (by rw [hy46,hc46];exact Nat.sub_le_sub_right hroom46 _) hr46);have HC133:=am (show y129.length ≤ c46 from by rw [hy46,hc46];exact Nat.sub_le_sub_right hroom46 _);clear hr46 hC46 hroom46 hi046 hsz46 hc46;have KY46:=am hy46;have KA46:=am hA46;clear hy46 hA46;replace q46:=eq_true q46) | ((with_reducible refine gate_builtin (b:=.append) (xs:=#[.tmp 73,.tmp 76]) rfl ?_);at_builtin;refine Kd.N_append_rows (Kd.slice 3 (Kd.int .i64)) (w0:=w) w.heap.size rfl (.tmp 73) (.tmp 76) 57 40 (.slice none 0 0) 24 rfl Tryz.underlying57 info40 rfl d_c o_m v127 y126 y129 _ _ _ (fun k_=>(w.heap.size ≤ k_) ∧ k_ ≠ gb101) (fun k_=>((fun k_=>(w.heap.size ≤ k_) ∧ k_ ≠ gb101)) k_ ∧ some k_ ≠ (v127:Value).ownBlock) rfl rfl ?aO ?aR (fun _ hk=>hk) ?aF ?aB ?aS ?aL ?_;(case aR=>exact (by skip;exact Kd.V_F (Kd.V_mono (ok':=(fun k_=>((fun k_=>(w.heap.size ≤ k_) ∧ k_ ≠ gb101)) k_ ∧ some k_ ≠ (v127:Value).ownBlock)) (HO133.out) (fun k_ hk=>⟨⟨hk.1.1,hk.1.2.2⟩,hk.2⟩))));(case aB=>exact aq0);(case aF=>exact aq32);(case aO=>exact (by (with_reducible repeat (first | apply Kd.N_alloc | apply Kd.N_drewN | apply Kd.N_drew));exact HO128.out));(case aS=>exact aq52);(case aL=>have:=LMc38.out;omega);intro v135 w47 ho hb hg hat;rw [← Ny134.out] at ho;replace HO_5:=am (Kd.N_afterv (ok:=(fun k_=>(w.heap.size ≤ k_) ∧ k_ ≠ gb101)) aq77 hg hat);replace BK101:=am (bg BK101 hg (Kd.N_ne HO128.out BK101.out d_c));replace HL112_0:=am (Kd.V_afterv (ok:=(fun k_=>(w.heap.size ≤ k_) ∧ some k_ ≠ (.slice (some ad112) x5_1.length co39:Value).ownBlock ∧ k_ ≠ gb101)) (by (with_reducible repeat (first | apply Kd.V_alloc | apply Kd.V_drewN | apply Kd.V_drew));exact Kd.V_mono HL112_0.out (fun _ hk=>⟨⟨hk.1.1,⟨hk.1.2.1,hk.1.2.2.2⟩⟩,hk.2⟩)) hg hat);replace HO122:=am (Kd.V_afterv (ok:=(fun k_=>(w.heap.size ≤ k_) ∧ k_ ≠ gb101)) (by (with_reducible repeat (first | apply Kd.V_alloc | apply Kd.V_drewN | apply Kd.V_drew));exact Kd.V_mono HO122.out (fun _ hk=>⟨⟨hk.1.1,hk.1.2.2⟩,hk.2⟩)) hg hat);replace HO133:=am (Kd.V_afterv (ok:=(fun k_=>(w.heap.size ≤ k_) ∧ k_ ≠ gb101)) (by (with_reducible repeat (first | apply Kd.V_alloc | apply Kd.V_drewN | apply Kd.V_drew));exact Kd.V_mono HO133.out (fun _ hk=>⟨⟨hk.1.1,hk.1.2.2⟩,hk.2⟩)) hg hat);replace HB:=am (hb);have HO136:=am (ho);clear HO128 ho hb hg hat))
         go_roundg k4
         case measure=>have:=HK1.out;have:=HJ7.out;have:=HK3.out;have:=HK4.out;omega
         case rel=>exact ⟨(y134),(wrap64 (x15_1 + 1)),aq6,H',⟨aq78⟩,⟨by (with_reducible repeat (first | apply Kd.N_alloc | apply Kd.N_drewN | apply Kd.N_drew));exact HO136.out⟩,⟨aq2⟩,⟨aq0⟩⟩
end Go.Proofs.YtldhkbiomingbaaGreatDoor.F
