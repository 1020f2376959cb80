/- The proof that the law's row holds, part 7: the kit's words, the printed walks and the plain law. No conditions beyond the card's own. -/
import Derived.Lib.SlicesCompact
import Derived.Test.YtldhkbiomingbaaGreatDoorProg
import Derived.Sort.Walk0
import Derived.Tactics
import Derived.StillTailTactics
import Derived.Laws.EntriesVeiled
import Derived.Test.YtldhkbiomingbaaGreatDoorK0
import Derived.Test.YtldhkbiomingbaaGreatDoorK1
import Derived.Test.YtldhkbiomingbaaGreatDoorK2
import Derived.Test.YtldhkbiomingbaaGreatDoorK3
import Derived.Test.YtldhkbiomingbaaGreatDoorK4
import Derived.Test.YtldhkbiomingbaaGreatDoorK5
import Derived.Test.YtldhkbiomingbaaGreatDoorK6
set_option linter.unusedVariables false
set_option linter.unusedSimpArgs false
set_option maxHeartbeats 16000000
set_option maxRecDepth 100000
namespace Go.Proofs.YtldhkbiomingbaaGreatDoor.F
open Go.Proofs.YtldhkbiomingbaaGreatDoor
open Go.RowKit Go.YW.PrintWords Go.YW.PrintLast Go.YW.PrintMore
attribute [local go_sem] max2_int min2_int max_two min_two max_three min_three max_four min_four
def impl_reachWith.f (k:Nat) (a0:ByteArray) (a1:ByteArray):Option (List ByteArray × List Int × (List (List Int)) × List ByteArray × Bool):=(impl_cellOf.f k a0 a1).bind fun bt102=>(if bt102.2 = true then ((impl_reachOf.f a0).bind fun bt104=>(some (bt104.1,bt104.2.1,bt104.2.2.1,bt104.2.2.2.1,bt104.2.2.2.2))) else (some (([]:List ByteArray),([]:List Int),([]:List (List Int)),([]:List ByteArray),false)))
theorem impl_reachWith.mono:∀ a0 a1 k,LeO (impl_reachWith.f k a0 a1) (impl_reachWith.f (k + 1) a0 a1):=by
 intro a0 a1 k
 unfold impl_reachWith.f
 have im0:=@impl_cellOf.mono;exact mo
def slices_Index_int_int.l0:Nat → List Int → Int → Int → Int → Option (Int)
 | 0,_,_,_,_=>none
 | k + 1,x0,x1,x7,x8=>if x8 < x7 then (if 0 ≤ x8 then (if x8 < (x0.length:Int) then (if x1 = (rd x0 x8) then (some x8) else (slices_Index_int_int.l0 k x0 x1 x7 (wrap64 (x8 + 1)))) else (none)) else (none)) else (some (-1))
def slices_Index_int_int.f (k:Nat) (l0:List Int) (a1:Int):Option (Int):=slices_Index_int_int.l0 k l0 a1 (l0.length:Int) 0
theorem slices_Index_int_int.mono_l:∀ k,(∀ y0 y1 y2 y3,LeO (slices_Index_int_int.l0 k y0 y1 y2 y3) (slices_Index_int_int.l0 (k + 1) y0 y1 y2 y3))
 | 0=>fun _ _ _ _ r h=>by simp [slices_Index_int_int.l0] at h
 | k + 1=>by
  have ih0:=slices_Index_int_int.mono_l k
  ·intro y0 y1 y2 y3
   unfold slices_Index_int_int.l0
   exact mo
theorem slices_Index_int_int.mono:∀ a0 a1 k,LeO (slices_Index_int_int.f k a0 a1) (slices_Index_int_int.f (k + 1) a0 a1):=by
 intro a0 a1 k
 have ih0:=slices_Index_int_int.mono_l k
 unfold slices_Index_int_int.f
 exact mo
theorem slices_Index_int_int.calls (k:Nat) (A0:Option Addr) (c0:Nat) (l0:List Int) (a1:Int) (r:Int) (w:World) (hr0:Kd.C (Kd.int .i64) w A0 l0.length l0) (hc0:l0.length ≤ c0) (h:slices_Index_int_int.f k l0 a1 = some r) :
  Calls Tryz.prog 52 #[.slice A0 l0.length c0,.int .i64 a1] w fun e w'=>e = .returned (.int .i64 r) ∧ Drawn0 w w':=by
 have HR0:=am hr0
 have HC0:=am hc0
 clear hr0 hc0
 have H:(slices_Index_int_int.l0 k l0 a1 (l0.length:Int) 0) = some r:=h
 clear h
 have H':=am H
 clear H
 go_enter Tryz.func52,Tryz.ntmps52
 go_wp2
 go_loopg [8] k (fun kq v8 w'=>∃ (x8_1:Int),v8 = .int .i64 x8_1 ∧ Aside0 (slices_Index_int_int.l0 kq l0 a1 (l0.length:Int) x8_1 = some r) ∧ Aside0 (kq ≤ k) ∧ Drawn0 w w')
 case atStart=>exact ⟨(0),aq7,H',⟨Nat.le_refl _⟩,aq20⟩
 case round =>
  clear H'
  try clear p2
  obtain ⟨x8_1,rfl,HA,HK1,⟨m1,rfl⟩⟩:=hrel
  cases gk with
  | zero=>exact absurd HA.out (by simp [slices_Index_int_int.l0])
  | succ k1 =>
   have H:=HA.out
   clear HA
   simp only [slices_Index_int_int.l0] at H
   by_cases c3:x8_1 < (l0.length:Int)
   rotate_left
   ·rw [if_neg c3] at H
    have c3b0:=decide_eq_false c3
    clear c3
    obtain rfl:=Option.some.inj H
    go_wp2
    go_ret
    exact ⟨aq7,aq20⟩
   rw [if_pos c3] at H
   have c3b0:=decide_eq_true c3
   clear c3
   replace H:=gd H
   obtain ⟨c4,H⟩:=H
   have c4b0:=decide_eq_true c4
   clear c4
   replace H:=gd H
   obtain ⟨c5,H⟩:=H
   have c5b0:=decide_eq_true c5
   clear c5
   by_cases c6:a1 = (rd l0 x8_1)
   ·rw [if_pos c6] at H
    have c6b0:=beq_iff_eq.mpr c6
    have c6b1:=bne_eq_false_iff_eq.mpr c6
    clear c6
    obtain rfl:=Option.some.inj H
    have p101:0 ≤ (x8_1:Int):=of_decide_eq_true aq4
    have q101:x8_1 < (l0.length:Int):=of_decide_eq_true aq4
    obtain ⟨ad101,e101,hx101_0⟩:=Kd.at_int HR0.out x8_1 p101 q101
    cases e101
    replace p101:=eq_true p101
    replace q101:=eq_true q101
    go_wp2
    go_ret
    exact ⟨aq7,aq20⟩
   rw [if_neg c6] at H
   have c6b0:=beq_eq_false_iff_ne.mpr c6
   have c6b1:=bne_iff_ne.mpr c6
   have H':=am H
   clear H
   have p101:0 ≤ (x8_1:Int):=of_decide_eq_true aq4
   have q101:x8_1 < (l0.length:Int):=of_decide_eq_true aq4
   obtain ⟨ad101,e101,hx101_0⟩:=Kd.at_int HR0.out x8_1 p101 q101
   cases e101
   replace p101:=eq_true p101
   replace q101:=eq_true q101
   go_wp2
   go_roundg k1
   case measure=>have:=HK1.out;omega
   case rel=>exact ⟨(wrap64 (x8_1 + 1)),aq7,H',⟨aq70⟩,aq20⟩
def impl_HardestGoal.l0:Nat → Int → Int → List Int → Int → Int → List ByteArray → List Int → List (List Int) → List ByteArray → Option (Int × Int × Bool)
 | 0,_,_,_,_,_,_,_,_,_=>none
 | k + 1,x9,x10,x11,x28,x29,x115000,x115001,x115002,x115003=>if x29 < x28 then ((slices_Index_int_int.f k x11 x29).bind fun t123=>(if t123 ≥ 0 then (if 0 ≤ t123 then (if t123 < (x115001.length:Int) then (if (rd x115001 t123) > x10 then (impl_HardestGoal.l0 k x29 (rd x115001 t123) x11 x28 (wrap64 (x29 + 1)) x115000 x115001 x115002 x115003) else (impl_HardestGoal.l0 k x9 x10 x11 x28 (wrap64 (x29 + 1)) x115000 x115001 x115002 x115003)) else (none)) else (none)) else (impl_HardestGoal.l0 k x9 x10 x11 x28 (wrap64 (x29 + 1)) x115000 x115001 x115002 x115003))) else (if x10 > 40 then (some (0,0,false)) else (some (x9,x10,true)))
theorem impl_HardestGoal.mono_l:∀ k,(∀ y0 y1 y2 y3 y4 y5 y6 y7 y8,LeO (impl_HardestGoal.l0 k y0 y1 y2 y3 y4 y5 y6 y7 y8) (impl_HardestGoal.l0 (k + 1) y0 y1 y2 y3 y4 y5 y6 y7 y8))
 | 0=>fun _ _ _ _ _ _ _ _ _ r h=>by simp [impl_HardestGoal.l0] at h
 | k + 1=>by
  have ih0:=impl_HardestGoal.mono_l k
  ·intro y0 y1 y2 y3 y4 y5 y6 y7 y8
   unfold impl_HardestGoal.l0
   have im0:=@impl_reachWith.mono;have im1:=@impl_reach_cells.mono;have im2:=@slices_Index_int_int.mono;exact mo
end Go.Proofs.YtldhkbiomingbaaGreatDoor.F

namespace Go.Proofs.YtldhkbiomingbaaGreatDoor.F
open Go.Proofs.YtldhkbiomingbaaGreatDoor
open Go.RowKit Go.YW.PrintWords Go.YW.PrintLast Go.YW.PrintMore Go.Lib
attribute [local go_sem] max2_int min2_int
theorem goesV_ {P:Program} {ops:Array Oper} {Q:Exit → Act → World → Prop} {oi:Oper} {N:Option Tmp} {a:Act} {w:World} {K:Act → World → Prop} {f:FuncId} {az:Array Operand} {ts:Array TypeId} {cap:Array Value} {x:Operand}
  (he:∀ args w,(callFunc f args).run P w = .ok (.enter f args) w) (args:Array Value) (hw:Region.wanted oi (yielded ops a.tmps) = true) (hN:oi.dst = N)
  (hop:oi.op = .call { callee:=.value x,args:=az,argTypes:=ts }) (hx:a.eval x = .func (.func f) #[] cap) (hargs:az.map a.eval ++ cap = args)
  (h:Calls P f args w fun e w'=>∃ v,e = .returned v ∧ K (a.put N v) w'):if Region.wanted oi (yielded ops a.tmps) = true then Oper.wp P oi a w K Q else K (a.put N undef) w:=by
 refine call_ f args hw hN ?_ h
 unfold execOp
 simp [hop,resolve,Deferred.ofValue,invoke,hx,hargs,he]
structure MakeAt (w W:World) (b5 b6 b9 m1 m2:Nat) (s:Int) (v:Value) (l:List Int):Prop where
 p5:W.heap[b5]? = some (.cells #[.int .i64 s] 3 (0,0))
 p6:W.heap[b6]? = some (.cells #[.string (⟨#[]⟩:ByteArray),.string (⟨#[]⟩:ByteArray),.int .i64 0] 30 (0,0))
 p9:W.heap[b9]? = some (.cells #[.int .i64 m1,.int .i64 m2,v] 65 (0,0))
 row:Kd.R (Kd.int .u8) 5 W w.heap.size (fun _=>True) v l
 bel:Below w.heap.size w W
theorem MakeAt.next {w W:World} {b5 b6 b9 m1 m2:Nat} {s x:Int} {v:Value} {l:List Int} (a:MakeAt w W b5 b6 b9 m1 m2 s v l) (h56:b5 ≠ b6) (h59:b5 ≠ b9) (hb:w.heap.size ≤ b5):MakeAt w (W.setCell ⟨b5,0,none⟩ (.int .i64 x)) b5 b6 b9 m1 m2 x v l :=
 ⟨(blk_set a.p5 0 _).trans rfl,blk_far a.p6 (fun e=>h56 e.symm) _,blk_far a.p9 (fun e=>h59 e.symm) _,R_off (p:=⟨b5,0,none⟩) rfl a.row a.p5 d_c _,a.bel.setCell (p:=⟨b5,0,none⟩) hb _⟩
theorem MakeAt.drew {w W:World} {b5 b6 b9 m1 m2:Nat} {s:Int} {v:Value} {l:List Int} (a:MakeAt w W b5 b6 b9 m1 m2 s v l):MakeAt w W.drew b5 b6 b9 m1 m2 s v l :=
 ⟨blk_drew a.p5,blk_drew a.p6,blk_drew a.p9,Kd.R_drew a.row,below_drew1 a.bel⟩
theorem MakeAt.put {w W:World} {b5 b6 b9 m1 m2:Nat} {s:Int} {u v:Value} {l:List Int} (h5:W.heap[b5]? = some (.cells #[.int .i64 s] 3 (0,0))) (h6:W.heap[b6]? = some (.cells #[.string (⟨#[]⟩:ByteArray),.string (⟨#[]⟩:ByteArray),.int .i64 0] 30 (0,0)))
  (h9:W.heap[b9]? = some (.cells #[.int .i64 m1,.int .i64 m2,u] 65 (0,0))) (hr:Kd.R (Kd.int .u8) 5 W w.heap.size (fun _=>True) v l) (hB:Below w.heap.size w W) (h59:b5 ≠ b9) (h69:b6 ≠ b9) (hb:w.heap.size ≤ b9):MakeAt w (W.setCell ⟨b9,2,none⟩ v) b5 b6 b9 m1 m2 s v l :=
 ⟨blk_far h5 h59 _,blk_far h6 h69 _,(blk_set h9 2 _).trans rfl,R_off (p:=⟨b9,2,none⟩) rfl hr h9 d_c _,hB.setCell (p:=⟨b9,2,none⟩) hb _⟩
end Go.Proofs.YtldhkbiomingbaaGreatDoor.F

namespace Go.Proofs.YtldhkbiomingbaaGreatDoor

end Go.Proofs.YtldhkbiomingbaaGreatDoor

namespace Go.Proofs.YtldhkbiomingbaaGreatDoor
open Go.RowKit Go.YW.PrintWords Go.YW.PrintLast Go.YW.PrintMore Go.Lib Go.Shelf Go.Sort
section
variable {α:Type} [Inhabited α] {enc:α → Value} {h1:∀ x,(enc x).oneCell' = true} {e base:Nat} {W:World} {ok:Nat → Prop} {v:Value} {xs:List α}
end
end Go.Proofs.YtldhkbiomingbaaGreatDoor

namespace Go.Proofs.YtldhkbiomingbaaGreatDoor.F
open Go.Proofs.YtldhkbiomingbaaGreatDoor
open Go.RowKit Go.YW.PrintWords Go.YW.PrintLast Go.YW.PrintMore Go.Lib Go.Sort Go.Shelf

end Go.Proofs.YtldhkbiomingbaaGreatDoor.F

namespace Go.Proofs.YtldhkbiomingbaaGreatDoor.F
open Go.Proofs.YtldhkbiomingbaaGreatDoor
open Go.RowKit Go.YW.PrintWords Go.YW.PrintLast Go.YW.PrintMore
attribute [local go_sem] max2_int min2_int max_two min_two max_three min_three max_four min_four
def impl_solution.f (k:Nat) (a0_0:ByteArray) (a0_1:ByteArray) (a0_2:Int):Option (List ByteArray × List Int × (List (List Int)) × List ByteArray × Int × Bool):=(impl_IsPuzzle.f k a0_0 a0_1 a0_2).bind fun t103=>(if t103 = true then ((impl_reachOf.f a0_0).bind fun bt104=>(if bt104.2.2.2.2 = true then ((impl_reach_cells.f k bt104.1 bt104.2.1 bt104.2.2.1 bt104.2.2.2.1 a0_1).bind fun t118=>((slices_Index_int_int.f k t118 a0_2).bind fun t121=>(if t121 ≥ 0 then (if 0 ≤ t121 then (if t121 < (bt104.2.1.length:Int) then (some (bt104.1,bt104.2.1,bt104.2.2.1,bt104.2.2.2.1,t121,decide ((rd bt104.2.1 t121) ≤ 40))) else (none)) else (none)) else (some (bt104.1,bt104.2.1,bt104.2.2.1,bt104.2.2.2.1,t121,false))))) else (some (([]:List ByteArray),([]:List Int),([]:List (List Int)),([]:List ByteArray),0,false)))) else (some (([]:List ByteArray),([]:List Int),([]:List (List Int)),([]:List ByteArray),0,false)))
theorem impl_solution.mono:∀ a0 a1 a2 k,LeO (impl_solution.f k a0 a1 a2) (impl_solution.f (k + 1) a0 a1 a2):=by
 intro a0 a1 a2 k
 unfold impl_solution.f
 have im0:=@impl_IsPuzzle.mono;have im1:=@impl_reach_cells.mono;have im2:=@slices_Index_int_int.mono;exact mo
def impl_solution.T6:Bool × List (List Nat × List Nat):=(true,[([],[]),([],[]),([1],[1]),([0,2],[0,2]),([],[]),([4],[4]),([3,5,3],[3,5]),([6,6,0,1,2,3,4,5,6],[6])])
def impl_solution.B6:List Nat:=[0,0,2,7,0,16,63,127]
theorem impl_solution.tab6:rtab .any (opsOf Tryz.f55 6) = impl_solution.T6:=by kernel_rfl
theorem impl_solution.bits6:waitsOk impl_solution.T6.2 impl_solution.B6 = true:=by kernel_rfl
def impl_solution.T7:Bool × List (List Nat × List Nat):=(true,[([],[]),([],[]),([],[]),([2],[2]),([3],[3]),([4],[4]),([5,4],[4,5]),([4],[4]),([6,7,4],[4,6,7]),([8,4],[4,8]),([9,4],[4,9]),([4,10],[4,10]),([0,4,0],[0]),([1,12,0,1,12],[1]),([11,13,0,1,2,3,4,5,6,7,8,9,10,11,12,13],[11])])
def impl_solution.B7:List Nat:=[0,0,0,4,12,28,60,28,252,508,1020,2044,29,4127,16383]
theorem impl_solution.tab7:rtab .any (opsOf Tryz.f55 7) = impl_solution.T7:=by kernel_rfl
theorem impl_solution.bits7:waitsOk impl_solution.T7.2 impl_solution.B7 = true:=by kernel_rfl
theorem impl_solution.calls (k:Nat) (a0_0:ByteArray) (a0_1:ByteArray) (a0_2:Int) (r1:List ByteArray) (r2:List Int) (r3:List (List Int)) (r4:List ByteArray) (r5:Int) (r6:Bool) (w:World) (h:impl_solution.f k a0_0 a0_1 a0_2 = some (r1,r2,r3,r4,r5,r6)) :
  Calls Tryz.prog 55 #[.agg #[.string a0_0,.string a0_1,.int .i64 a0_2]] w fun e w'=>∃ v0_ v1_ v2_ v3_:Value,e = .returned (.tuple #[.agg #[v0_,v1_,v2_,v3_],.int .i64 r5,.bool r6]) ∧ Kd.R Kd.string 9 w' w.heap.size (fun k_=>some k_ ≠ (v3_:Value).ownBlock) v0_ r1 ∧ Kd.R (Kd.int .i64) 3 w' w.heap.size (fun _=>True) v1_ r2 ∧ Kd.S (Kd.slice 3 (Kd.int .i64)) 40 w' w.heap.size (fun k_=>some k_ ≠ (v1_:Value).ownBlock) v2_ r3 ∧ Kd.R Kd.string 9 w' w.heap.size (fun k_=>some k_ ≠ (v0_:Value).ownBlock) v3_ r4 ∧ Below w.heap.size w w':=by
 have hu30:=Tryz.underlying30
 have hu59:=Tryz.underlying59
 have HB:=am (Below.refl w.heap.size w)
 have H:((impl_IsPuzzle.f k a0_0 a0_1 a0_2).bind fun t103=>(if t103 = true then ((impl_reachOf.f a0_0).bind fun bt104=>(if bt104.2.2.2.2 = true then ((impl_reach_cells.f k bt104.1 bt104.2.1 bt104.2.2.1 bt104.2.2.2.1 a0_1).bind fun t118=>((slices_Index_int_int.f k t118 a0_2).bind fun t121=>(if t121 ≥ 0 then (if 0 ≤ t121 then (if t121 < (bt104.2.1.length:Int) then (some (bt104.1,bt104.2.1,bt104.2.2.1,bt104.2.2.2.1,t121,decide ((rd bt104.2.1 t121) ≤ 40))) else (none)) else (none)) else (some (bt104.1,bt104.2.1,bt104.2.2.1,bt104.2.2.2.1,t121,false))))) else (some (([]:List ByteArray),([]:List Int),([]:List (List Int)),([]:List ByteArray),0,false)))) else (some (([]:List ByteArray),([]:List Int),([]:List (List Int)),([]:List ByteArray),0,false)))) = some (r1,r2,r3,r4,r5,r6):=h
 clear h
 obtain ⟨t103,A2,H⟩:=bn H
 by_cases c3:t103 = true
 rotate_left
 ·replace c3:=Bool.eq_false_iff.mpr c3
  subst c3
  rw [if_neg Bool.false_ne_true] at H
  simp only [Option.some.injEq,Prod.mk.injEq] at H
  obtain ⟨rfl,rfl,rfl,rfl,rfl,rfl⟩:=H
  go_enter Tryz.func55,Tryz.ntmps55
  go_wp2_with (first | (refine bx 1 #[.string a0_0,.string a0_1,.int .i64 a0_2] 30 ?_;intro gb101 hg w75 hbox hb;have BK101:=am (hbox);have GW101:=am ((by rw [hg];exact (below_size aq2):w.heap.size ≤ gb101));have GE101:=GW101;replace HB:=am (below_step aq2 hb);clear hb hbox hg) | (refine bx 2 #[.slice none 0 0,.slice none 0 0,.slice none 0 0,.slice none 0 0] 59 ?_;intro gb102 hg w76 hbox hb;have BK102:=am (hbox);have GW102:=am ((by rw [hg];exact (below_size aq0):w.heap.size ≤ gb102));have GE102:=GW102;replace HB:=am (below_step aq0 hb);have NB101_102:=am ((by rw [hg];exact Nat.ne_of_lt (blk_lt (g:=gb101) (o:=.cells #[.string a0_0,.string a0_1,.int .i64 a0_2] 30 (0,0)) aq1):gb101 ≠ gb102));have NB102_101:=am ((by rw [hg];exact Nat.ne_of_gt (blk_lt (g:=gb101) (o:=.cells #[.string a0_0,.string a0_1,.int .i64 a0_2] 30 (0,0)) aq1):gb102 ≠ gb101));replace BK101:=am (bb BK101 hb);clear hb hbox hg;have hnb77:=NB101_102.out;have hnc77:=NB102_101.out;obtain ⟨hcz78_0,hcz78_1,hcz78_2,hfz78_0,hfz78_1,hfz78_2⟩:=blk3_ BK101.out) | ((with_reducible refine gate_callee (f:=94) rfl ?_);refine goesL_ (some 9) rfl rfl Tryz.func94 k_r rfl #[.agg #[.string a0_0,.string a0_1,.int .i64 a0_2]] rfl aq6 ?_;(with_reducible refine (impl_IsPuzzle.calls k a0_0 a0_1 a0_2 false _ A2.out).mono ?_);rintro e w79 ⟨rfl,hb⟩;refine ⟨_,rfl,?_⟩;replace BK101:=am (bb BK101 hb);replace BK102:=am (bb BK102 hb);replace HB:=am (below_step aq3 hb);(try clear hb);obtain ⟨hcz80_0,hcz80_1,hcz80_2,hcz80_3,hfz80_0,hfz80_1,hfz80_2,hfz80_3⟩:=blk4_ BK102.out))
  refine bodyPost_ret (results_ctt rfl _ _ gb102 59 #[.slice none 0 0,.slice none 0 0,.slice none 0 0,.slice none 0 0] (0,0) _ rfl (by (with_reducible repeat (first | refine blk_drewN ?_ _ | refine blk_drew ?_ | refine blk_alloc ?_ _));refine blk_put (cs:=#[.slice none 0 0,.slice none 0 0,.slice none 0 0,.slice none 0 0]) ?_ 3 _ rfl;(with_reducible repeat (first | refine blk_drewN ?_ _ | refine blk_drew ?_ | refine blk_alloc ?_ _));refine blk_put (cs:=#[.slice none 0 0,.slice none 0 0,.slice none 0 0,.slice none 0 0]) ?_ 2 _ rfl;(with_reducible repeat (first | refine blk_drewN ?_ _ | refine blk_drew ?_ | refine blk_alloc ?_ _));refine blk_put (cs:=#[.slice none 0 0,.slice none 0 0,.slice none 0 0,.slice none 0 0]) ?_ 1 _ rfl;(with_reducible repeat (first | refine blk_drewN ?_ _ | refine blk_drew ?_ | refine blk_alloc ?_ _));refine blk_put (cs:=#[.slice none 0 0,.slice none 0 0,.slice none 0 0,.slice none 0 0]) ?_ 0 _ rfl;(with_reducible repeat (first | refine blk_drewN ?_ _ | refine blk_drew ?_ | refine blk_alloc ?_ _));exact BK102.out) Tryz.underlying59 rfl k_r) rfl ?_
  exact ⟨_,_,_,_,aq8,aq23,aq23,aq77,aq23,aq3⟩
 subst c3
 rw [if_pos rfl] at H
 replace H:=Option.bind_eq_some_iff.mp H
 obtain ⟨⟨t104,t107,t110,t113,t116⟩,A40,H⟩:=H
 replace H:(if t116 = true then ((impl_reach_cells.f k t104 t107 t110 t113 a0_1).bind fun t118=>((slices_Index_int_int.f k t118 a0_2).bind fun t121=>(if t121 ≥ 0 then (if 0 ≤ t121 then (if t121 < (t107.length:Int) then (some (t104,t107,t110,t113,t121,decide ((rd t107 t121) ≤ 40))) else (none)) else (none)) else (some (t104,t107,t110,t113,t121,false))))) else (some (([]:List ByteArray),([]:List Int),([]:List (List Int)),([]:List ByteArray),0,false))) = some (r1,r2,r3,r4,r5,r6):=H
 have A4:=am A40
 clear A40
 by_cases c5:t116 = true
 rotate_left
 ·replace c5:=Bool.eq_false_iff.mpr c5
  subst c5
  rw [if_neg Bool.false_ne_true] at H
  simp only [Option.some.injEq,Prod.mk.injEq] at H
  obtain ⟨rfl,rfl,rfl,rfl,rfl,rfl⟩:=H
  go_enter Tryz.func55,Tryz.ntmps55
  go_wp2_with (first | (refine bx 1 #[.string a0_0,.string a0_1,.int .i64 a0_2] 30 ?_;intro gb101 hg w59 hbox hb;have BK101:=am (hbox);have GW101:=am ((by rw [hg];exact (below_size aq2):w.heap.size ≤ gb101));have GE101:=GW101;replace HB:=am (below_step aq2 hb);clear hb hbox hg) | (refine bx 2 #[.slice none 0 0,.slice none 0 0,.slice none 0 0,.slice none 0 0] 59 ?_;intro gb102 hg w60 hbox hb;have BK102:=am (hbox);have GW102:=am ((by rw [hg];exact (below_size aq0):w.heap.size ≤ gb102));have GE102:=GW102;replace HB:=am (below_step aq0 hb);have NB101_102:=am ((by rw [hg];exact Nat.ne_of_lt (blk_lt (g:=gb101) (o:=.cells #[.string a0_0,.string a0_1,.int .i64 a0_2] 30 (0,0)) aq1):gb101 ≠ gb102));have NB102_101:=am ((by rw [hg];exact Nat.ne_of_gt (blk_lt (g:=gb101) (o:=.cells #[.string a0_0,.string a0_1,.int .i64 a0_2] 30 (0,0)) aq1):gb102 ≠ gb101));replace BK101:=am (bb BK101 hb);clear hb hbox hg;have hnb61:=NB101_102.out;have hnc61:=NB102_101.out;obtain ⟨hcz62_0,hcz62_1,hcz62_2,hfz62_0,hfz62_1,hfz62_2⟩:=blk3_ BK101.out) | ((with_reducible refine gate_callee (f:=94) rfl ?_);refine goesL_ (some 9) rfl rfl Tryz.func94 k_r rfl #[.agg #[.string a0_0,.string a0_1,.int .i64 a0_2]] rfl aq6 ?_;(with_reducible refine (impl_IsPuzzle.calls k a0_0 a0_1 a0_2 true _ A2.out).mono ?_);rintro e w63 ⟨rfl,hb⟩;refine ⟨_,rfl,?_⟩;replace BK101:=am (bb BK101 hb);replace BK102:=am (bb BK102 hb);replace HB:=am (below_step aq3 hb);(try clear hb);obtain ⟨hcz64_0,hcz64_1,hcz64_2,hfz64_0,hfz64_1,hfz64_2⟩:=blk3_ BK101.out) | ((with_reducible refine gate_callee (f:=74) rfl ?_);refine goesL_ (some 15) rfl rfl Tryz.func74 k_r rfl #[.string a0_0] rfl aq6 ?_;(with_reducible refine (impl_reachOf.calls a0_0 t104 t107 t110 t113 false _ A4.out).mono ?_);rintro e w65 ⟨v105,v108,v111,v114,rfl,ho0,ho1,ho2,ho3,hb⟩;refine ⟨_,rfl,?_⟩;have HO106:=am (Kd.R_lower ho0 (below_size aq3));have HO109:=am (Kd.R_lower ho1 (below_size aq3));have HO112:=am (Kd.S_lower ho2 (below_size aq3));have HO115:=am (Kd.R_lower ho3 (below_size aq3));replace BK101:=am (bb BK101 hb);replace BK102:=am (bb BK102 hb);replace HB:=am (below_step aq3 hb);(try clear hb);(try clear ho0);(try clear ho1);(try clear ho2);(try clear ho3)) | (refine bx 5 #[.slice none 0 0,.slice none 0 0,.slice none 0 0,.slice none 0 0] 59 ?_;intro gb117 hg w66 hbox hb;replace HO106:=am (Kd.R_below aq22 hb);replace HO109:=am (Kd.R_below aq48 hb);replace HO112:=am (Kd.S_below aq46 hb);replace HO115:=am (Kd.R_below aq47 hb);have BK117:=am (hbox);have GW117:=am ((by rw [hg];exact (below_size aq3):w.heap.size ≤ gb117));have GE117:=GW117;replace HB:=am (below_step aq3 hb);have NB101_117:=am ((by rw [hg];exact Nat.ne_of_lt (blk_lt (g:=gb101) (o:=.cells #[.string a0_0,.string a0_1,.int .i64 a0_2] 30 (0,0)) aq1):gb101 ≠ gb117));have NB117_101:=am ((by rw [hg];exact Nat.ne_of_gt (blk_lt (g:=gb101) (o:=.cells #[.string a0_0,.string a0_1,.int .i64 a0_2] 30 (0,0)) aq1):gb117 ≠ gb101));replace BK101:=am (bb BK101 hb);have NB102_117:=am ((by rw [hg];exact Nat.ne_of_lt (blk_lt (g:=gb102) (o:=.cells #[.slice none 0 0,.slice none 0 0,.slice none 0 0,.slice none 0 0] 59 (0,0)) aq9):gb102 ≠ gb117));have NB117_102:=am ((by rw [hg];exact Nat.ne_of_gt (blk_lt (g:=gb102) (o:=.cells #[.slice none 0 0,.slice none 0 0,.slice none 0 0,.slice none 0 0] 59 (0,0)) aq9):gb117 ≠ gb102));replace BK102:=am (bb BK102 hb);clear hb hbox hg;obtain ⟨Ao67,co67,eo67⟩:=Kd.R_slice HO106.out;subst eo67;have hnb68:=NB117_101.out;have hnc68:=NB101_117.out;have hnb69:=NB117_102.out;have hnc69:=NB102_117.out;obtain ⟨hcz70_0,hcz70_1,hcz70_2,hcz70_3,hfz70_0,hfz70_1,hfz70_2,hfz70_3⟩:=blk4_ BK117.out;obtain ⟨Ao71,co71,eo71⟩:=Kd.R_slice HO109.out;subst eo71;obtain ⟨Ao72,co72,eo72⟩:=Kd.S_slice HO112.out;subst eo72;obtain ⟨Ao73,co73,eo73⟩:=Kd.R_slice HO115.out;subst eo73;obtain ⟨hcz74_0,hcz74_1,hcz74_2,hcz74_3,hfz74_0,hfz74_1,hfz74_2,hfz74_3⟩:=blk4_ BK102.out))
  refine bodyPost_ret (results_ctt rfl _ _ gb102 59 #[.slice none 0 0,.slice none 0 0,.slice none 0 0,.slice none 0 0] (0,0) _ rfl (by (with_reducible repeat (first | refine blk_drewN ?_ _ | refine blk_drew ?_ | refine blk_alloc ?_ _));refine blk_put (cs:=#[.slice none 0 0,.slice none 0 0,.slice none 0 0,.slice none 0 0]) ?_ 3 _ rfl;(with_reducible repeat (first | refine blk_drewN ?_ _ | refine blk_drew ?_ | refine blk_alloc ?_ _));refine blk_put (cs:=#[.slice none 0 0,.slice none 0 0,.slice none 0 0,.slice none 0 0]) ?_ 2 _ rfl;(with_reducible repeat (first | refine blk_drewN ?_ _ | refine blk_drew ?_ | refine blk_alloc ?_ _));refine blk_put (cs:=#[.slice none 0 0,.slice none 0 0,.slice none 0 0,.slice none 0 0]) ?_ 1 _ rfl;(with_reducible repeat (first | refine blk_drewN ?_ _ | refine blk_drew ?_ | refine blk_alloc ?_ _));refine blk_put (cs:=#[.slice none 0 0,.slice none 0 0,.slice none 0 0,.slice none 0 0]) ?_ 0 _ rfl;(with_reducible repeat (first | refine blk_drewN ?_ _ | refine blk_drew ?_ | refine blk_alloc ?_ _));refine blk_far ?_ NB102_117.out _;(with_reducible repeat (first | refine blk_drewN ?_ _ | refine blk_drew ?_ | refine blk_alloc ?_ _));refine blk_far ?_ NB102_117.out _;(with_reducible repeat (first | refine blk_drewN ?_ _ | refine blk_drew ?_ | refine blk_alloc ?_ _));refine blk_far ?_ NB102_117.out _;(with_reducible repeat (first | refine blk_drewN ?_ _ | refine blk_drew ?_ | refine blk_alloc ?_ _));refine blk_far ?_ NB102_117.out _;(with_reducible repeat (first | refine blk_drewN ?_ _ | refine blk_drew ?_ | refine blk_alloc ?_ _));exact BK102.out) Tryz.underlying59 rfl k_r) rfl ?_
  exact ⟨_,_,_,_,aq8,aq23,aq23,aq77,aq23,aq19⟩
 subst c5
 rw [if_pos rfl] at H
 obtain ⟨t118,A6,H⟩:=bn H
 obtain ⟨t121,A7,H⟩:=bn H
 by_cases c8:t121 ≥ 0
 rotate_left
 ·rw [if_neg c8] at H
  have c8b0:=decide_eq_false c8
  clear c8
  simp only [Option.some.injEq,Prod.mk.injEq] at H
  obtain ⟨rfl,rfl,rfl,rfl,rfl,rfl⟩:=H
  go_enter Tryz.func55,Tryz.ntmps55
  try go_wp2_with (first | (refine bx 1 #[.string a0_0,.string a0_1,.int .i64 a0_2] 30 ?_;intro gb101 hg w35 hbox hb;have BK101:=am (hbox);have GW101:=am ((by rw [hg];exact (below_size aq2):w.heap.size ≤ gb101));have GE101:=GW101;replace HB:=am (below_step aq2 hb);clear hb hbox hg) | (refine bx 2 #[.slice none 0 0,.slice none 0 0,.slice none 0 0,.slice none 0 0] 59 ?_;intro gb102 hg w36 hbox hb;have BK102:=am (hbox);have GW102:=am ((by rw [hg];exact (below_size aq0):w.heap.size ≤ gb102));have GE102:=GW102;replace HB:=am (below_step aq0 hb);have NB101_102:=am ((by rw [hg];exact Nat.ne_of_lt (blk_lt (g:=gb101) (o:=.cells #[.string a0_0,.string a0_1,.int .i64 a0_2] 30 (0,0)) aq1):gb101 ≠ gb102));have NB102_101:=am ((by rw [hg];exact Nat.ne_of_gt (blk_lt (g:=gb101) (o:=.cells #[.string a0_0,.string a0_1,.int .i64 a0_2] 30 (0,0)) aq1):gb102 ≠ gb101));replace BK101:=am (bb BK101 hb);clear hb hbox hg;have hnb37:=NB101_102.out;have hnc37:=NB102_101.out;obtain ⟨hcz38_0,hcz38_1,hcz38_2,hfz38_0,hfz38_1,hfz38_2⟩:=blk3_ BK101.out) | ((with_reducible refine gate_callee (f:=94) rfl ?_);refine goesL_ (some 9) rfl rfl Tryz.func94 k_r rfl #[.agg #[.string a0_0,.string a0_1,.int .i64 a0_2]] rfl aq6 ?_;(with_reducible refine (impl_IsPuzzle.calls k a0_0 a0_1 a0_2 true _ A2.out).mono ?_);rintro e w39 ⟨rfl,hb⟩;refine ⟨_,rfl,?_⟩;replace BK101:=am (bb BK101 hb);replace BK102:=am (bb BK102 hb);replace HB:=am (below_step aq3 hb);(try clear hb);obtain ⟨hcz40_0,hcz40_1,hcz40_2,hfz40_0,hfz40_1,hfz40_2⟩:=blk3_ BK101.out) | ((with_reducible refine gate_callee (f:=74) rfl ?_);refine goesL_ (some 15) rfl rfl Tryz.func74 k_r rfl #[.string a0_0] rfl aq6 ?_;(with_reducible refine (impl_reachOf.calls a0_0 t104 t107 t110 t113 true _ A4.out).mono ?_);rintro e w41 ⟨v105,v108,v111,v114,rfl,ho0,ho1,ho2,ho3,hb⟩;refine ⟨_,rfl,?_⟩;have HO106:=am (Kd.R_lower ho0 (below_size aq3));have HO109:=am (Kd.R_lower ho1 (below_size aq3));have HO112:=am (Kd.S_lower ho2 (below_size aq3));have HO115:=am (Kd.R_lower ho3 (below_size aq3));replace BK101:=am (bb BK101 hb);replace BK102:=am (bb BK102 hb);replace HB:=am (below_step aq3 hb);(try clear hb);(try clear ho0);(try clear ho1);(try clear ho2);(try clear ho3)) | (refine bx 5 #[.slice none 0 0,.slice none 0 0,.slice none 0 0,.slice none 0 0] 59 ?_;intro gb117 hg w42 hbox hb;replace HO106:=am (Kd.R_below aq22 hb);replace HO109:=am (Kd.R_below aq48 hb);replace HO112:=am (Kd.S_below aq46 hb);replace HO115:=am (Kd.R_below aq47 hb);have BK117:=am (hbox);have GW117:=am ((by rw [hg];exact (below_size aq3):w.heap.size ≤ gb117));have GE117:=GW117;replace HB:=am (below_step aq3 hb);have NB101_117:=am ((by rw [hg];exact Nat.ne_of_lt (blk_lt (g:=gb101) (o:=.cells #[.string a0_0,.string a0_1,.int .i64 a0_2] 30 (0,0)) aq1):gb101 ≠ gb117));have NB117_101:=am ((by rw [hg];exact Nat.ne_of_gt (blk_lt (g:=gb101) (o:=.cells #[.string a0_0,.string a0_1,.int .i64 a0_2] 30 (0,0)) aq1):gb117 ≠ gb101));replace BK101:=am (bb BK101 hb);have NB102_117:=am ((by rw [hg];exact Nat.ne_of_lt (blk_lt (g:=gb102) (o:=.cells #[.slice none 0 0,.slice none 0 0,.slice none 0 0,.slice none 0 0] 59 (0,0)) aq9):gb102 ≠ gb117));have NB117_102:=am ((by rw [hg];exact Nat.ne_of_gt (blk_lt (g:=gb102) (o:=.cells #[.slice none 0 0,.slice none 0 0,.slice none 0 0,.slice none 0 0] 59 (0,0)) aq9):gb117 ≠ gb102));replace BK102:=am (bb BK102 hb);clear hb hbox hg;obtain ⟨Ao43,co43,eo43⟩:=Kd.R_slice HO106.out;subst eo43;have hnb44:=NB117_101.out;have hnc44:=NB101_117.out;have hnb45:=NB117_102.out;have hnc45:=NB102_117.out;obtain ⟨hcz46_0,hcz46_1,hcz46_2,hcz46_3,hfz46_0,hfz46_1,hfz46_2,hfz46_3⟩:=blk4_ BK117.out;obtain ⟨Ao47,co47,eo47⟩:=Kd.R_slice HO109.out;subst eo47;obtain ⟨Ao48,co48,eo48⟩:=Kd.S_slice HO112.out;subst eo48;obtain ⟨Ao49,co49,eo49⟩:=Kd.R_slice HO115.out;subst eo49))
  have n0_:Aside0 (Kd.R Kd.string 9 ((((w42.setCell ⟨gb117,0,none⟩ (.slice Ao43 t104.length co43)).setCell ⟨gb117,1,none⟩ (.slice Ao47 t107.length co47)).setCell ⟨gb117,2,none⟩ (.slice Ao48 t110.length co48)).setCell ⟨gb117,3,none⟩ (.slice Ao49 t113.length co49)) w.heap.size (fun k_=>some k_ ≠ (.slice Ao49 t113.length co49:Value).ownBlock) (.slice Ao43 t104.length co43) t104):=⟨by (with_reducible repeat (first | apply Kd.R_alloc | apply Kd.R_drewN | apply Kd.R_drew));exact Kd.R_mono (Kd.R_far (p:=⟨gb117,3,none⟩) (Kd.R_far (p:=⟨gb117,2,none⟩) (Kd.R_far (p:=⟨gb117,1,none⟩) (Kd.R_far (p:=⟨gb117,0,none⟩) (Kd.R_types HO106.out BK117.out d_c) (fun _ hk=>hk.2) (.slice Ao43 t104.length co43)) (fun _ hk=>hk.2) (.slice Ao47 t107.length co47)) (fun _ hk=>hk.2) (.slice Ao48 t110.length co48)) (fun _ hk=>hk.2) (.slice Ao49 t113.length co49)) (fun _ hk=>hk.1)⟩
  have n1_:Aside0 (Kd.R (Kd.int .i64) 3 ((((w42.setCell ⟨gb117,0,none⟩ (.slice Ao43 t104.length co43)).setCell ⟨gb117,1,none⟩ (.slice Ao47 t107.length co47)).setCell ⟨gb117,2,none⟩ (.slice Ao48 t110.length co48)).setCell ⟨gb117,3,none⟩ (.slice Ao49 t113.length co49)) w.heap.size (fun _=>True) (.slice Ao47 t107.length co47) t107):=⟨by (with_reducible repeat (first | apply Kd.R_alloc | apply Kd.R_drewN | apply Kd.R_drew));exact Kd.R_mono (Kd.R_far (p:=⟨gb117,3,none⟩) (Kd.R_far (p:=⟨gb117,2,none⟩) (Kd.R_far (p:=⟨gb117,1,none⟩) (Kd.R_far (p:=⟨gb117,0,none⟩) (Kd.R_types HO109.out BK117.out d_c) (fun _ hk=>hk.2) (.slice Ao43 t104.length co43)) (fun _ hk=>hk.2) (.slice Ao47 t107.length co47)) (fun _ hk=>hk.2) (.slice Ao48 t110.length co48)) (fun _ hk=>hk.2) (.slice Ao49 t113.length co49)) (fun _ hk=>trivial)⟩
  have n2_:Aside0 (Kd.S (Kd.slice 3 (Kd.int .i64)) 40 ((((w42.setCell ⟨gb117,0,none⟩ (.slice Ao43 t104.length co43)).setCell ⟨gb117,1,none⟩ (.slice Ao47 t107.length co47)).setCell ⟨gb117,2,none⟩ (.slice Ao48 t110.length co48)).setCell ⟨gb117,3,none⟩ (.slice Ao49 t113.length co49)) w.heap.size (fun k_=>some k_ ≠ (.slice Ao47 t107.length co47:Value).ownBlock) (.slice Ao48 t110.length co48) t110):=⟨by (with_reducible repeat (first | apply Kd.S_alloc | apply Kd.S_drewN | apply Kd.S_drew));exact Kd.S_mono (Kd.S_far (p:=⟨gb117,3,none⟩) (Kd.S_far (p:=⟨gb117,2,none⟩) (Kd.S_far (p:=⟨gb117,1,none⟩) (Kd.S_far (p:=⟨gb117,0,none⟩) (Kd.S_types HO112.out BK117.out d_c) (fun _ hk=>hk.2) (.slice Ao43 t104.length co43)) (fun _ hk=>hk.2) (.slice Ao47 t107.length co47)) (fun _ hk=>hk.2) (.slice Ao48 t110.length co48)) (fun _ hk=>hk.2) (.slice Ao49 t113.length co49)) (fun _ hk=>hk.1)⟩
  have n3_:Aside0 (Kd.R Kd.string 9 ((((w42.setCell ⟨gb117,0,none⟩ (.slice Ao43 t104.length co43)).setCell ⟨gb117,1,none⟩ (.slice Ao47 t107.length co47)).setCell ⟨gb117,2,none⟩ (.slice Ao48 t110.length co48)).setCell ⟨gb117,3,none⟩ (.slice Ao49 t113.length co49)) w.heap.size (fun k_=>some k_ ≠ (.slice Ao43 t104.length co43:Value).ownBlock) (.slice Ao49 t113.length co49) t113):=⟨by (with_reducible repeat (first | apply Kd.R_alloc | apply Kd.R_drewN | apply Kd.R_drew));exact Kd.R_mono (Kd.R_far (p:=⟨gb117,3,none⟩) (Kd.R_far (p:=⟨gb117,2,none⟩) (Kd.R_far (p:=⟨gb117,1,none⟩) (Kd.R_far (p:=⟨gb117,0,none⟩) (Kd.R_types HO115.out BK117.out d_c) (fun _ hk=>hk.2) (.slice Ao43 t104.length co43)) (fun _ hk=>hk.2) (.slice Ao47 t107.length co47)) (fun _ hk=>hk.2) (.slice Ao48 t110.length co48)) (fun _ hk=>hk.2) (.slice Ao49 t113.length co49)) (fun _ hk=>hk.1)⟩
  have n4_:Aside0 (((((w42.setCell ⟨gb117,0,none⟩ (.slice Ao43 t104.length co43)).setCell ⟨gb117,1,none⟩ (.slice Ao47 t107.length co47)).setCell ⟨gb117,2,none⟩ (.slice Ao48 t110.length co48)).setCell ⟨gb117,3,none⟩ (.slice Ao49 t113.length co49)).heap[gb101]? = some (.cells #[.string a0_0,.string a0_1,.int .i64 a0_2] 30 (0,0))):=⟨aq44⟩
  have n5_:Aside0 (((((w42.setCell ⟨gb117,0,none⟩ (.slice Ao43 t104.length co43)).setCell ⟨gb117,1,none⟩ (.slice Ao47 t107.length co47)).setCell ⟨gb117,2,none⟩ (.slice Ao48 t110.length co48)).setCell ⟨gb117,3,none⟩ (.slice Ao49 t113.length co49)).heap[gb102]? = some (.cells #[.slice none 0 0,.slice none 0 0,.slice none 0 0,.slice none 0 0] 59 (0,0))):=⟨aq43⟩
  have n6_:Aside0 (((((w42.setCell ⟨gb117,0,none⟩ (.slice Ao43 t104.length co43)).setCell ⟨gb117,1,none⟩ (.slice Ao47 t107.length co47)).setCell ⟨gb117,2,none⟩ (.slice Ao48 t110.length co48)).setCell ⟨gb117,3,none⟩ (.slice Ao49 t113.length co49)).heap[gb117]? = some (.cells #[.slice Ao43 t104.length co43,.slice Ao47 t107.length co47,.slice Ao48 t110.length co48,.slice Ao49 t113.length co49] 59 (0,0))):=⟨by (with_reducible repeat (first | refine blk_drewN ?_ _ | refine blk_drew ?_ | refine blk_alloc ?_ _));refine blk_put (cs:=#[.slice Ao43 t104.length co43,.slice Ao47 t107.length co47,.slice Ao48 t110.length co48,.slice none 0 0]) ?_ 3 _ rfl;(with_reducible repeat (first | refine blk_drewN ?_ _ | refine blk_drew ?_ | refine blk_alloc ?_ _));refine blk_put (cs:=#[.slice Ao43 t104.length co43,.slice Ao47 t107.length co47,.slice none 0 0,.slice none 0 0]) ?_ 2 _ rfl;(with_reducible repeat (first | refine blk_drewN ?_ _ | refine blk_drew ?_ | refine blk_alloc ?_ _));refine blk_put (cs:=#[.slice Ao43 t104.length co43,.slice none 0 0,.slice none 0 0,.slice none 0 0]) ?_ 1 _ rfl;(with_reducible repeat (first | refine blk_drewN ?_ _ | refine blk_drew ?_ | refine blk_alloc ?_ _));refine blk_put (cs:=#[.slice none 0 0,.slice none 0 0,.slice none 0 0,.slice none 0 0]) ?_ 0 _ rfl;(with_reducible repeat (first | refine blk_drewN ?_ _ | refine blk_drew ?_ | refine blk_alloc ?_ _));exact BK117.out⟩
  have n7_:Aside0 (Below w.heap.size w ((((w42.setCell ⟨gb117,0,none⟩ (.slice Ao43 t104.length co43)).setCell ⟨gb117,1,none⟩ (.slice Ao47 t107.length co47)).setCell ⟨gb117,2,none⟩ (.slice Ao48 t110.length co48)).setCell ⟨gb117,3,none⟩ (.slice Ao49 t113.length co49))):=⟨aq19⟩
  (try clear HO106)
  (try clear HO109)
  (try clear HO112)
  (try clear HO115)
  (try clear BK101)
  (try clear BK102)
  (try clear BK117)
  (try clear HB)
  generalize ((((w42.setCell ⟨gb117,0,none⟩ (.slice Ao43 t104.length co43)).setCell ⟨gb117,1,none⟩ (.slice Ao47 t107.length co47)).setCell ⟨gb117,2,none⟩ (.slice Ao48 t110.length co48)).setCell ⟨gb117,3,none⟩ (.slice Ao49 t113.length co49)) = w50 at n0_ n1_ n2_ n3_ n4_ n5_ n6_ n7_ ⊢
  have HO106:=n0_
  have HO109:=n1_
  have HO112:=n2_
  have HO115:=n3_
  have BK101:=n4_
  have BK102:=n5_
  have BK117:=n6_
  have HB:=n7_
  clear n0_ n1_ n2_ n3_ n4_ n5_ n6_ n7_
  replace HO106:=am (Kd.R_drew HO106.out)
  replace HO109:=am (Kd.R_drew HO109.out)
  replace HO112:=am (Kd.S_drew HO112.out)
  replace HO115:=am (Kd.R_drew HO115.out)
  replace BK101:=am (blk_drew BK101.out)
  replace BK102:=am (blk_drew BK102.out)
  replace BK117:=am (blk_drew BK117.out)
  replace HB:=am (below_drew1 HB.out)
  refine start_ (n:=8) (S:=fun w'=>w'.cell? ⟨gb117,0,none⟩ = some (.slice Ao43 t104.length co43) ∧ w'.cell? ⟨gb117,1,none⟩ = some (.slice Ao47 t107.length co47) ∧ w'.cell? ⟨gb117,2,none⟩ = some (.slice Ao48 t110.length co48) ∧ w'.cell? ⟨gb117,3,none⟩ = some (.slice Ao49 t113.length co49) ∧ w'.cell? ⟨gb101,0,none⟩ = some (.string a0_0) ∧ w'.cell? ⟨gb101,1,none⟩ = some (.string a0_1) ∧ w'.cell? ⟨gb101,2,none⟩ = some (.int .i64 a0_2)) (ds:=[]) (bm 8 0) k_r rfl rfl ⟨bk BK117 0,bk BK117 1,bk BK117 2,bk BK117 3,bk BK101 0,bk BK101 1,bk BK101 2⟩ (fun hHeld=>?_);refine with_tabW impl_solution.tab6 impl_solution.bits6 (fun HT_ HW_=>?_)
  generalize w50.drew = w51 at HO106 HO109 HO112 HO115 BK101 BK102 BK117 HB hHeld ⊢
  refine py (i:=1) (N:=some 22) (bm 8 2) ?_
  refine py (i:=4) (N:=some 25) (bm 8 18) ?_
  refine tk7 (i:=0) (N:=some 21) (bm 8 19) hHeld ?_
  refine tk7 (i:=2) (N:=some 23) (bm 8 23) hHeld ?_
  refine tk7 (i:=5) (N:=some 26) (bm 8 55) hHeld ?_
  refine one_ (i:=3) (N:=some 24) (bm 8 63) rfl rfl (one_of HT_.out k_r) d_c (fun K hK=>?_)
  refine goes_ Tryz.func50 k_r rfl #[.agg #[.slice Ao43 t104.length co43,.slice Ao47 t107.length co47,.slice Ao48 t110.length co48,.slice Ao49 t113.length co49],.string a0_1] (by rfl) rfl rfl aq6 ?_
  with_reducible refine (impl_reach_cells.calls k _ _ t104 _ _ t107 _ _ t110 _ _ t113 a0_1 t118 _ ?side1 ?side2 ?side3 ?side4 ?side5 ?side6 ?side7 ?side8 A6.out).mono ?_
  (case side1=>exact aq35)
  (case side2=>exact aq112)
  (case side3=>exact aq99)
  (case side4=>exact (Kd.R_reads' HO109.out).2.1)
  (case side5=>exact aq96)
  (case side6=>exact (Kd.S_reads' HO112.out).2.1)
  (case side7=>exact aq98)
  (case side8=>exact (Kd.R_reads' HO115.out).2.1)
  rintro e w52 ⟨v119,rfl,ho0,hb⟩
  refine ⟨_,rfl,?_⟩
  replace HO106:=am (Kd.R_below aq22 hb)
  replace HO112:=am (Kd.S_elder' aq46 (Kd.R_base ho0) hb)
  replace HO115:=am (Kd.R_below aq47 hb)
  have HO120:=am (Kd.R_lower (Kd.R_new' ho0 (Kd.R_lt aq48)) (below_size aq19))
  replace HO109:=am (Kd.R_elder' aq48 (Kd.R_base ho0) hb)
  replace BK101:=am (bb BK101 hb)
  replace BK102:=am (bb BK102 hb)
  replace BK117:=am (bb BK117 hb)
  replace HB:=am (below_step aq19 hb)
  (try clear hb)
  (try clear ho0)
  obtain ⟨Ao53,co53,eo53⟩:=Kd.R_slice HO120.out
  (first | subst eo53 | (injection eo53 with f1_ f2_ f3_;have f4_:=f1_.symm;have f5_:=f3_.symm;clear f1_ f2_ f3_;subst f4_;subst f5_))
  refine hK.out _ _ ⟨bk BK117 0,bk BK117 1,bk BK117 2,bk BK117 3,bk BK101 0,bk BK101 1,bk BK101 2⟩ (fun hHeld=>?_)
  clear hK K
  refine nm (some 24) ?_
  refine one_ (i:=6) (N:=some 27) (bm 8 127) rfl rfl (one_of HT_.out k_r) d_c (fun K hK=>?_)
  refine goes_ Tryz.func52 k_r rfl #[.slice Ao53 t118.length co53,.int .i64 a0_2] (by rfl) rfl rfl aq6 ?_
  with_reducible refine (slices_Index_int_int.calls k _ _ t118 a0_2 t121 _ ?side1 ?side2 A7.out).mono ?_
  (case side1=>exact aq97)
  (case side2=>exact (Kd.R_reads' HO120.out).2.1)
  rintro e w' ⟨rfl,⟨nd,rfl⟩⟩
  refine ⟨_,rfl,?_⟩
  refine hK.out _ _ ⟨bk BK117 0,bk BK117 1,bk BK117 2,bk BK117 3,bk BK101 0,bk BK101 1,bk BK101 2⟩ (fun hHeld=>?_)
  clear hK K
  refine nm (some 27) ?_
  refine py (i:=7) (N:=some 7) (bm 8 255) ?_
  refine done_ (done_of HT_.out k_r) ?_
  try go_wp2
  (try (rw [drewN_self w52];generalize hq_:World.drewN w52 _ = w52;have n0_:Aside0 (Kd.R Kd.string 9 w52 w.heap.size (fun k_=>some k_ ≠ (.slice Ao49 t113.length co49:Value).ownBlock) (.slice Ao43 t104.length co43) t104):=⟨by rw [← hq_];exact aq22⟩;have n1_:Aside0 (Kd.R (Kd.int .i64) 3 w52 w.heap.size (fun k_=>some k_ ≠ (.slice Ao53 t118.length co53:Value).ownBlock) (.slice Ao47 t107.length co47) t107):=⟨aq101⟩;have n2_:Aside0 (Kd.S (Kd.slice 3 (Kd.int .i64)) 40 w52 w.heap.size (fun k_=>some k_ ≠ (.slice Ao47 t107.length co47:Value).ownBlock ∧ some k_ ≠ (.slice Ao53 t118.length co53:Value).ownBlock) (.slice Ao48 t110.length co48) t110):=⟨by rw [← hq_];exact aq46⟩;have n3_:Aside0 (Kd.R Kd.string 9 w52 w.heap.size (fun k_=>some k_ ≠ (.slice Ao43 t104.length co43:Value).ownBlock) (.slice Ao49 t113.length co49) t113):=⟨by rw [← hq_];exact aq47⟩;have n4_:Aside0 (Kd.R (Kd.int .i64) 3 w52 w.heap.size (fun k_=>some k_ ≠ (.slice Ao47 t107.length co47:Value).ownBlock) (.slice Ao53 t118.length co53) t118):=⟨aq100⟩;have n5_:Aside0 (w52.heap[gb101]? = some (.cells #[.string a0_0,.string a0_1,.int .i64 a0_2] 30 (0,0))):=⟨by rw [← hq_];exact aq1⟩;have n6_:Aside0 (w52.heap[gb102]? = some (.cells #[.slice none 0 0,.slice none 0 0,.slice none 0 0,.slice none 0 0] 59 (0,0))):=⟨by rw [← hq_];exact aq9⟩;have n7_:Aside0 (w52.heap[gb117]? = some (.cells #[.slice Ao43 t104.length co43,.slice Ao47 t107.length co47,.slice Ao48 t110.length co48,.slice Ao49 t113.length co49] 59 (0,0))):=⟨by rw [← hq_];exact aq61⟩;have n8_:Aside0 (Below w.heap.size w w52):=⟨by rw [← hq_];exact aq19⟩;clear HO106 HO109 HO112 HO115 HO120 BK101 BK102 BK117 HB hq_;have HO106:=n0_;have HO109:=n1_;have HO112:=n2_;have HO115:=n3_;have HO120:=n4_;have BK101:=n5_;have BK102:=n6_;have BK117:=n7_;have HB:=n8_;clear n0_ n1_ n2_ n3_ n4_ n5_ n6_ n7_ n8_))
  replace HO106:=am (Kd.R_drew HO106.out)
  replace HO109:=am (Kd.R_drew HO109.out)
  replace HO112:=am (Kd.S_drew HO112.out)
  replace HO115:=am (Kd.R_drew HO115.out)
  replace HO120:=am (Kd.R_drew HO120.out)
  replace BK101:=am (blk_drew BK101.out)
  replace BK102:=am (blk_drew BK102.out)
  replace BK117:=am (blk_drew BK117.out)
  replace HB:=am (below_drew1 HB.out)
  refine start_ (n:=15) (S:=fun w'=>w'.cell? ⟨gb117,0,none⟩ = some (.slice Ao43 t104.length co43) ∧ w'.cell? ⟨gb117,1,none⟩ = some (.slice Ao47 t107.length co47) ∧ w'.cell? ⟨gb117,2,none⟩ = some (.slice Ao48 t110.length co48) ∧ w'.cell? ⟨gb117,3,none⟩ = some (.slice Ao49 t113.length co49)) (ds:=[]) (bm 15 0) k_r rfl rfl ⟨bk BK117 0,bk BK117 1,bk BK117 2,bk BK117 3⟩ (fun hHeld=>?_);refine with_tabW impl_solution.tab7 impl_solution.bits7 (fun HT_ HW_=>?_)
  generalize w52.drew = w54 at HO106 HO109 HO112 HO115 HO120 BK101 BK102 BK117 HB hHeld ⊢
  refine py (i:=1) (N:=some 29) (bm 15 2) ?_
  refine py (i:=2) (N:=some 30) (bm 15 6) ?_
  refine py (i:=3) (N:=some 31) (bm 15 14) ?_
  refine py (i:=4) (N:=some 32) (bm 15 30) ?_
  refine pu (i:=5) (N:=some 33) (bm 15 62) ?_
  refine pu (i:=6) (N:=some 34) (bm 15 126) ?_
  refine pu (i:=7) (N:=some 35) (bm 15 254) ?_
  refine pu (i:=8) (N:=some 36) (bm 15 510) ?_
  refine pu (i:=9) (N:=some 37) (bm 15 1022) ?_
  refine pu (i:=10) (N:=some 38) (bm 15 2046) ?_
  refine py (i:=11) (N:=some 39) (bm 15 4094) ?_
  refine tk4 (i:=0) (N:=some 28) (bm 15 4095) hHeld ?_
  refine one_ (i:=12) (N:=none) (bm 15 8191) rfl rfl (one_of HT_.out k_r) d_c (fun K hK=>?_)
  have hs55:w54.cell? ⟨gb102,0,none⟩ = some (.slice none 0 0):=(blk_cell BK102.out 0).trans rfl
  have hfs55:=blk_frozen BK102.out 0
  have hns55_0:=NB101_102.out
  have hns55_2:=NB117_102.out
  have hms55_0:=NB102_101.out
  have hms55_2:=NB102_117.out
  have hs56:w54.cell? ⟨gb102,1,none⟩ = some (.slice none 0 0):=(blk_cell BK102.out 1).trans rfl
  have hfs56:=blk_frozen BK102.out 1
  have hns56_0:=NB101_102.out
  have hns56_2:=NB117_102.out
  have hms56_0:=NB102_101.out
  have hms56_2:=NB102_117.out
  have hs57:w54.cell? ⟨gb102,2,none⟩ = some (.slice none 0 0):=(blk_cell BK102.out 2).trans rfl
  have hfs57:=blk_frozen BK102.out 2
  have hns57_0:=NB101_102.out
  have hns57_2:=NB117_102.out
  have hms57_0:=NB102_101.out
  have hms57_2:=NB102_117.out
  have hs58:w54.cell? ⟨gb102,3,none⟩ = some (.slice none 0 0):=(blk_cell BK102.out 3).trans rfl
  have hfs58:=blk_frozen BK102.out 3
  have hns58_0:=NB101_102.out
  have hns58_2:=NB117_102.out
  have hms58_0:=NB102_101.out
  have hms58_2:=NB102_117.out
  refine skip_ (w1:=?_) (by rfl) rfl ?_ ?_
  rotate_left
  ·go_simp
   rfl
  refine hK.out _ _ ⟨((cell_far (p:=⟨gb102,_,none⟩) NB117_102.out _).trans (((cell_far (p:=⟨gb102,_,none⟩) NB117_102.out _).trans (((cell_far (p:=⟨gb102,_,none⟩) NB117_102.out _).trans (((cell_far (p:=⟨gb102,_,none⟩) NB117_102.out _).trans (hHeld.1)))))))),((cell_far (p:=⟨gb102,_,none⟩) NB117_102.out _).trans (((cell_far (p:=⟨gb102,_,none⟩) NB117_102.out _).trans (((cell_far (p:=⟨gb102,_,none⟩) NB117_102.out _).trans (((cell_far (p:=⟨gb102,_,none⟩) NB117_102.out _).trans (hHeld.2.1)))))))),((cell_far (p:=⟨gb102,_,none⟩) NB117_102.out _).trans (((cell_far (p:=⟨gb102,_,none⟩) NB117_102.out _).trans (((cell_far (p:=⟨gb102,_,none⟩) NB117_102.out _).trans (((cell_far (p:=⟨gb102,_,none⟩) NB117_102.out _).trans (hHeld.2.2.1)))))))),((cell_far (p:=⟨gb102,_,none⟩) NB117_102.out _).trans (((cell_far (p:=⟨gb102,_,none⟩) NB117_102.out _).trans (((cell_far (p:=⟨gb102,_,none⟩) NB117_102.out _).trans (((cell_far (p:=⟨gb102,_,none⟩) NB117_102.out _).trans (hHeld.2.2.2))))))))⟩ (fun hHeld=>?_)
  clear hK K
  refine py (i:=13) (N:=some 3) (bm 15 16383) ?_
  refine py (i:=14) (N:=some 4) (bm 15 32767) ?_
  refine done_ (done_of HT_.out k_r) ?_
  try go_wp2
  refine bodyPost_ret (results_ctt rfl _ _ gb102 59 #[.slice Ao43 t104.length co43,.slice Ao47 t107.length co47,.slice Ao48 t110.length co48,.slice Ao49 t113.length co49] (0,0) _ rfl (by (with_reducible repeat (first | refine blk_drewN ?_ _ | refine blk_drew ?_ | refine blk_alloc ?_ _));refine blk_put (cs:=#[.slice Ao43 t104.length co43,.slice Ao47 t107.length co47,.slice Ao48 t110.length co48,.slice none 0 0]) ?_ 3 _ rfl;(with_reducible repeat (first | refine blk_drewN ?_ _ | refine blk_drew ?_ | refine blk_alloc ?_ _));refine blk_put (cs:=#[.slice Ao43 t104.length co43,.slice Ao47 t107.length co47,.slice none 0 0,.slice none 0 0]) ?_ 2 _ rfl;(with_reducible repeat (first | refine blk_drewN ?_ _ | refine blk_drew ?_ | refine blk_alloc ?_ _));refine blk_put (cs:=#[.slice Ao43 t104.length co43,.slice none 0 0,.slice none 0 0,.slice none 0 0]) ?_ 1 _ rfl;(with_reducible repeat (first | refine blk_drewN ?_ _ | refine blk_drew ?_ | refine blk_alloc ?_ _));refine blk_put (cs:=#[.slice none 0 0,.slice none 0 0,.slice none 0 0,.slice none 0 0]) ?_ 0 _ rfl;(with_reducible repeat (first | refine blk_drewN ?_ _ | refine blk_drew ?_ | refine blk_alloc ?_ _));exact BK102.out) Tryz.underlying59 rfl k_r) rfl ?_
  exact ⟨_,_,_,_,aq8,by (with_reducible repeat (first | apply Kd.R_alloc | apply Kd.R_drewN | apply Kd.R_drew));exact Kd.R_mono (Kd.R_far (p:=⟨gb102,3,none⟩) (Kd.R_far (p:=⟨gb102,2,none⟩) (Kd.R_far (p:=⟨gb102,1,none⟩) (Kd.R_far (p:=⟨gb102,0,none⟩) (Kd.R_types HO106.out BK102.out d_c) (fun _ hk=>hk.2) (.slice Ao43 t104.length co43)) (fun _ hk=>hk.2) (.slice Ao47 t107.length co47)) (fun _ hk=>hk.2) (.slice Ao48 t110.length co48)) (fun _ hk=>hk.2) (.slice Ao49 t113.length co49)) (fun _ hk=>hk.1),by (with_reducible repeat (first | apply Kd.R_alloc | apply Kd.R_drewN | apply Kd.R_drew));exact Kd.R_mono (Kd.R_far (p:=⟨gb102,3,none⟩) (Kd.R_far (p:=⟨gb102,2,none⟩) (Kd.R_far (p:=⟨gb102,1,none⟩) (Kd.R_far (p:=⟨gb102,0,none⟩) (Kd.R_types HO109.out BK102.out d_c) (fun _ hk=>hk.2) (.slice Ao43 t104.length co43)) (fun _ hk=>hk.2) (.slice Ao47 t107.length co47)) (fun _ hk=>hk.2) (.slice Ao48 t110.length co48)) (fun _ hk=>hk.2) (.slice Ao49 t113.length co49)) (fun _ hk=>trivial),by (with_reducible repeat (first | apply Kd.S_alloc | apply Kd.S_drewN | apply Kd.S_drew));exact Kd.S_mono (Kd.S_far (p:=⟨gb102,3,none⟩) (Kd.S_far (p:=⟨gb102,2,none⟩) (Kd.S_far (p:=⟨gb102,1,none⟩) (Kd.S_far (p:=⟨gb102,0,none⟩) (Kd.S_types HO112.out BK102.out d_c) (fun _ hk=>hk.2) (.slice Ao43 t104.length co43)) (fun _ hk=>hk.2) (.slice Ao47 t107.length co47)) (fun _ hk=>hk.2) (.slice Ao48 t110.length co48)) (fun _ hk=>hk.2) (.slice Ao49 t113.length co49)) (fun _ hk=>hk.1.1),by (with_reducible repeat (first | apply Kd.R_alloc | apply Kd.R_drewN | apply Kd.R_drew));exact Kd.R_mono (Kd.R_far (p:=⟨gb102,3,none⟩) (Kd.R_far (p:=⟨gb102,2,none⟩) (Kd.R_far (p:=⟨gb102,1,none⟩) (Kd.R_far (p:=⟨gb102,0,none⟩) (Kd.R_types HO115.out BK102.out d_c) (fun _ hk=>hk.2) (.slice Ao43 t104.length co43)) (fun _ hk=>hk.2) (.slice Ao47 t107.length co47)) (fun _ hk=>hk.2) (.slice Ao48 t110.length co48)) (fun _ hk=>hk.2) (.slice Ao49 t113.length co49)) (fun _ hk=>hk.1),aq19⟩
 rw [if_pos c8] at H
 have c8b0:=decide_eq_true c8
 clear c8
 replace H:=gd H
 obtain ⟨c9,H⟩:=H
 have c9b0:=decide_eq_true c9
 clear c9
 replace H:=gd H
 obtain ⟨c10,H⟩:=H
 have c10b0:=decide_eq_true c10
 clear c10
 simp only [Option.some.injEq,Prod.mk.injEq] at H
 obtain ⟨rfl,rfl,rfl,rfl,rfl,rfl⟩:=H
 go_enter Tryz.func55,Tryz.ntmps55
 try go_wp2_with (first | (refine bx 1 #[.string a0_0,.string a0_1,.int .i64 a0_2] 30 ?_;intro gb101 hg w11 hbox hb;have BK101:=am (hbox);have GW101:=am ((by rw [hg];exact (below_size aq2):w.heap.size ≤ gb101));have GE101:=GW101;replace HB:=am (below_step aq2 hb);clear hb hbox hg) | (refine bx 2 #[.slice none 0 0,.slice none 0 0,.slice none 0 0,.slice none 0 0] 59 ?_;intro gb102 hg w12 hbox hb;have BK102:=am (hbox);have GW102:=am ((by rw [hg];exact (below_size aq0):w.heap.size ≤ gb102));have GE102:=GW102;replace HB:=am (below_step aq0 hb);have NB101_102:=am ((by rw [hg];exact Nat.ne_of_lt (blk_lt (g:=gb101) (o:=.cells #[.string a0_0,.string a0_1,.int .i64 a0_2] 30 (0,0)) aq1):gb101 ≠ gb102));have NB102_101:=am ((by rw [hg];exact Nat.ne_of_gt (blk_lt (g:=gb101) (o:=.cells #[.string a0_0,.string a0_1,.int .i64 a0_2] 30 (0,0)) aq1):gb102 ≠ gb101));replace BK101:=am (bb BK101 hb);clear hb hbox hg;have hnb13:=NB101_102.out;have hnc13:=NB102_101.out;obtain ⟨hcz14_0,hcz14_1,hcz14_2,hfz14_0,hfz14_1,hfz14_2⟩:=blk3_ BK101.out) | ((with_reducible refine gate_callee (f:=94) rfl ?_);refine goesL_ (some 9) rfl rfl Tryz.func94 k_r rfl #[.agg #[.string a0_0,.string a0_1,.int .i64 a0_2]] rfl aq6 ?_;(with_reducible refine (impl_IsPuzzle.calls k a0_0 a0_1 a0_2 true _ A2.out).mono ?_);rintro e w15 ⟨rfl,hb⟩;refine ⟨_,rfl,?_⟩;replace BK101:=am (bb BK101 hb);replace BK102:=am (bb BK102 hb);replace HB:=am (below_step aq3 hb);(try clear hb);obtain ⟨hcz16_0,hcz16_1,hcz16_2,hfz16_0,hfz16_1,hfz16_2⟩:=blk3_ BK101.out) | ((with_reducible refine gate_callee (f:=74) rfl ?_);refine goesL_ (some 15) rfl rfl Tryz.func74 k_r rfl #[.string a0_0] rfl aq6 ?_;(with_reducible refine (impl_reachOf.calls a0_0 t104 t107 t110 t113 true _ A4.out).mono ?_);rintro e w17 ⟨v105,v108,v111,v114,rfl,ho0,ho1,ho2,ho3,hb⟩;refine ⟨_,rfl,?_⟩;have HO106:=am (Kd.R_lower ho0 (below_size aq3));have HO109:=am (Kd.R_lower ho1 (below_size aq3));have HO112:=am (Kd.S_lower ho2 (below_size aq3));have HO115:=am (Kd.R_lower ho3 (below_size aq3));replace BK101:=am (bb BK101 hb);replace BK102:=am (bb BK102 hb);replace HB:=am (below_step aq3 hb);(try clear hb);(try clear ho0);(try clear ho1);(try clear ho2);(try clear ho3)) | (refine bx 5 #[.slice none 0 0,.slice none 0 0,.slice none 0 0,.slice none 0 0] 59 ?_;intro gb117 hg w18 hbox hb;replace HO106:=am (Kd.R_below aq22 hb);replace HO109:=am (Kd.R_below aq48 hb);replace HO112:=am (Kd.S_below aq46 hb);replace HO115:=am (Kd.R_below aq47 hb);have BK117:=am (hbox);have GW117:=am ((by rw [hg];exact (below_size aq3):w.heap.size ≤ gb117));have GE117:=GW117;replace HB:=am (below_step aq3 hb);have NB101_117:=am ((by rw [hg];exact Nat.ne_of_lt (blk_lt (g:=gb101) (o:=.cells #[.string a0_0,.string a0_1,.int .i64 a0_2] 30 (0,0)) aq1):gb101 ≠ gb117));have NB117_101:=am ((by rw [hg];exact Nat.ne_of_gt (blk_lt (g:=gb101) (o:=.cells #[.string a0_0,.string a0_1,.int .i64 a0_2] 30 (0,0)) aq1):gb117 ≠ gb101));replace BK101:=am (bb BK101 hb);have NB102_117:=am ((by rw [hg];exact Nat.ne_of_lt (blk_lt (g:=gb102) (o:=.cells #[.slice none 0 0,.slice none 0 0,.slice none 0 0,.slice none 0 0] 59 (0,0)) aq9):gb102 ≠ gb117));have NB117_102:=am ((by rw [hg];exact Nat.ne_of_gt (blk_lt (g:=gb102) (o:=.cells #[.slice none 0 0,.slice none 0 0,.slice none 0 0,.slice none 0 0] 59 (0,0)) aq9):gb117 ≠ gb102));replace BK102:=am (bb BK102 hb);clear hb hbox hg;obtain ⟨Ao19,co19,eo19⟩:=Kd.R_slice HO106.out;subst eo19;have hnb20:=NB117_101.out;have hnc20:=NB101_117.out;have hnb21:=NB117_102.out;have hnc21:=NB102_117.out;obtain ⟨hcz22_0,hcz22_1,hcz22_2,hcz22_3,hfz22_0,hfz22_1,hfz22_2,hfz22_3⟩:=blk4_ BK117.out;obtain ⟨Ao23,co23,eo23⟩:=Kd.R_slice HO109.out;subst eo23;obtain ⟨Ao24,co24,eo24⟩:=Kd.S_slice HO112.out;subst eo24;obtain ⟨Ao25,co25,eo25⟩:=Kd.R_slice HO115.out;subst eo25))
 have n0_:Aside0 (Kd.R Kd.string 9 ((((w18.setCell ⟨gb117,0,none⟩ (.slice Ao19 t104.length co19)).setCell ⟨gb117,1,none⟩ (.slice Ao23 t107.length co23)).setCell ⟨gb117,2,none⟩ (.slice Ao24 t110.length co24)).setCell ⟨gb117,3,none⟩ (.slice Ao25 t113.length co25)) w.heap.size (fun k_=>some k_ ≠ (.slice Ao25 t113.length co25:Value).ownBlock) (.slice Ao19 t104.length co19) t104):=⟨by (with_reducible repeat (first | apply Kd.R_alloc | apply Kd.R_drewN | apply Kd.R_drew));exact Kd.R_mono (Kd.R_far (p:=⟨gb117,3,none⟩) (Kd.R_far (p:=⟨gb117,2,none⟩) (Kd.R_far (p:=⟨gb117,1,none⟩) (Kd.R_far (p:=⟨gb117,0,none⟩) (Kd.R_types HO106.out BK117.out d_c) (fun _ hk=>hk.2) (.slice Ao19 t104.length co19)) (fun _ hk=>hk.2) (.slice Ao23 t107.length co23)) (fun _ hk=>hk.2) (.slice Ao24 t110.length co24)) (fun _ hk=>hk.2) (.slice Ao25 t113.length co25)) (fun _ hk=>hk.1)⟩
 have n1_:Aside0 (Kd.R (Kd.int .i64) 3 ((((w18.setCell ⟨gb117,0,none⟩ (.slice Ao19 t104.length co19)).setCell ⟨gb117,1,none⟩ (.slice Ao23 t107.length co23)).setCell ⟨gb117,2,none⟩ (.slice Ao24 t110.length co24)).setCell ⟨gb117,3,none⟩ (.slice Ao25 t113.length co25)) w.heap.size (fun _=>True) (.slice Ao23 t107.length co23) t107):=⟨by (with_reducible repeat (first | apply Kd.R_alloc | apply Kd.R_drewN | apply Kd.R_drew));exact Kd.R_mono (Kd.R_far (p:=⟨gb117,3,none⟩) (Kd.R_far (p:=⟨gb117,2,none⟩) (Kd.R_far (p:=⟨gb117,1,none⟩) (Kd.R_far (p:=⟨gb117,0,none⟩) (Kd.R_types HO109.out BK117.out d_c) (fun _ hk=>hk.2) (.slice Ao19 t104.length co19)) (fun _ hk=>hk.2) (.slice Ao23 t107.length co23)) (fun _ hk=>hk.2) (.slice Ao24 t110.length co24)) (fun _ hk=>hk.2) (.slice Ao25 t113.length co25)) (fun _ hk=>trivial)⟩
 have n2_:Aside0 (Kd.S (Kd.slice 3 (Kd.int .i64)) 40 ((((w18.setCell ⟨gb117,0,none⟩ (.slice Ao19 t104.length co19)).setCell ⟨gb117,1,none⟩ (.slice Ao23 t107.length co23)).setCell ⟨gb117,2,none⟩ (.slice Ao24 t110.length co24)).setCell ⟨gb117,3,none⟩ (.slice Ao25 t113.length co25)) w.heap.size (fun k_=>some k_ ≠ (.slice Ao23 t107.length co23:Value).ownBlock) (.slice Ao24 t110.length co24) t110):=⟨by (with_reducible repeat (first | apply Kd.S_alloc | apply Kd.S_drewN | apply Kd.S_drew));exact Kd.S_mono (Kd.S_far (p:=⟨gb117,3,none⟩) (Kd.S_far (p:=⟨gb117,2,none⟩) (Kd.S_far (p:=⟨gb117,1,none⟩) (Kd.S_far (p:=⟨gb117,0,none⟩) (Kd.S_types HO112.out BK117.out d_c) (fun _ hk=>hk.2) (.slice Ao19 t104.length co19)) (fun _ hk=>hk.2) (.slice Ao23 t107.length co23)) (fun _ hk=>hk.2) (.slice Ao24 t110.length co24)) (fun _ hk=>hk.2) (.slice Ao25 t113.length co25)) (fun _ hk=>hk.1)⟩
 have n3_:Aside0 (Kd.R Kd.string 9 ((((w18.setCell ⟨gb117,0,none⟩ (.slice Ao19 t104.length co19)).setCell ⟨gb117,1,none⟩ (.slice Ao23 t107.length co23)).setCell ⟨gb117,2,none⟩ (.slice Ao24 t110.length co24)).setCell ⟨gb117,3,none⟩ (.slice Ao25 t113.length co25)) w.heap.size (fun k_=>some k_ ≠ (.slice Ao19 t104.length co19:Value).ownBlock) (.slice Ao25 t113.length co25) t113):=⟨by (with_reducible repeat (first | apply Kd.R_alloc | apply Kd.R_drewN | apply Kd.R_drew));exact Kd.R_mono (Kd.R_far (p:=⟨gb117,3,none⟩) (Kd.R_far (p:=⟨gb117,2,none⟩) (Kd.R_far (p:=⟨gb117,1,none⟩) (Kd.R_far (p:=⟨gb117,0,none⟩) (Kd.R_types HO115.out BK117.out d_c) (fun _ hk=>hk.2) (.slice Ao19 t104.length co19)) (fun _ hk=>hk.2) (.slice Ao23 t107.length co23)) (fun _ hk=>hk.2) (.slice Ao24 t110.length co24)) (fun _ hk=>hk.2) (.slice Ao25 t113.length co25)) (fun _ hk=>hk.1)⟩
 have n4_:Aside0 (((((w18.setCell ⟨gb117,0,none⟩ (.slice Ao19 t104.length co19)).setCell ⟨gb117,1,none⟩ (.slice Ao23 t107.length co23)).setCell ⟨gb117,2,none⟩ (.slice Ao24 t110.length co24)).setCell ⟨gb117,3,none⟩ (.slice Ao25 t113.length co25)).heap[gb101]? = some (.cells #[.string a0_0,.string a0_1,.int .i64 a0_2] 30 (0,0))):=⟨aq44⟩
 have n5_:Aside0 (((((w18.setCell ⟨gb117,0,none⟩ (.slice Ao19 t104.length co19)).setCell ⟨gb117,1,none⟩ (.slice Ao23 t107.length co23)).setCell ⟨gb117,2,none⟩ (.slice Ao24 t110.length co24)).setCell ⟨gb117,3,none⟩ (.slice Ao25 t113.length co25)).heap[gb102]? = some (.cells #[.slice none 0 0,.slice none 0 0,.slice none 0 0,.slice none 0 0] 59 (0,0))):=⟨aq43⟩
 have n6_:Aside0 (((((w18.setCell ⟨gb117,0,none⟩ (.slice Ao19 t104.length co19)).setCell ⟨gb117,1,none⟩ (.slice Ao23 t107.length co23)).setCell ⟨gb117,2,none⟩ (.slice Ao24 t110.length co24)).setCell ⟨gb117,3,none⟩ (.slice Ao25 t113.length co25)).heap[gb117]? = some (.cells #[.slice Ao19 t104.length co19,.slice Ao23 t107.length co23,.slice Ao24 t110.length co24,.slice Ao25 t113.length co25] 59 (0,0))):=⟨by (with_reducible repeat (first | refine blk_drewN ?_ _ | refine blk_drew ?_ | refine blk_alloc ?_ _));refine blk_put (cs:=#[.slice Ao19 t104.length co19,.slice Ao23 t107.length co23,.slice Ao24 t110.length co24,.slice none 0 0]) ?_ 3 _ rfl;(with_reducible repeat (first | refine blk_drewN ?_ _ | refine blk_drew ?_ | refine blk_alloc ?_ _));refine blk_put (cs:=#[.slice Ao19 t104.length co19,.slice Ao23 t107.length co23,.slice none 0 0,.slice none 0 0]) ?_ 2 _ rfl;(with_reducible repeat (first | refine blk_drewN ?_ _ | refine blk_drew ?_ | refine blk_alloc ?_ _));refine blk_put (cs:=#[.slice Ao19 t104.length co19,.slice none 0 0,.slice none 0 0,.slice none 0 0]) ?_ 1 _ rfl;(with_reducible repeat (first | refine blk_drewN ?_ _ | refine blk_drew ?_ | refine blk_alloc ?_ _));refine blk_put (cs:=#[.slice none 0 0,.slice none 0 0,.slice none 0 0,.slice none 0 0]) ?_ 0 _ rfl;(with_reducible repeat (first | refine blk_drewN ?_ _ | refine blk_drew ?_ | refine blk_alloc ?_ _));exact BK117.out⟩
 have n7_:Aside0 (Below w.heap.size w ((((w18.setCell ⟨gb117,0,none⟩ (.slice Ao19 t104.length co19)).setCell ⟨gb117,1,none⟩ (.slice Ao23 t107.length co23)).setCell ⟨gb117,2,none⟩ (.slice Ao24 t110.length co24)).setCell ⟨gb117,3,none⟩ (.slice Ao25 t113.length co25))):=⟨aq19⟩
 (try clear HO106)
 (try clear HO109)
 (try clear HO112)
 (try clear HO115)
 (try clear BK101)
 (try clear BK102)
 (try clear BK117)
 (try clear HB)
 generalize ((((w18.setCell ⟨gb117,0,none⟩ (.slice Ao19 t104.length co19)).setCell ⟨gb117,1,none⟩ (.slice Ao23 t107.length co23)).setCell ⟨gb117,2,none⟩ (.slice Ao24 t110.length co24)).setCell ⟨gb117,3,none⟩ (.slice Ao25 t113.length co25)) = w26 at n0_ n1_ n2_ n3_ n4_ n5_ n6_ n7_ ⊢
 have HO106:=n0_
 have HO109:=n1_
 have HO112:=n2_
 have HO115:=n3_
 have BK101:=n4_
 have BK102:=n5_
 have BK117:=n6_
 have HB:=n7_
 clear n0_ n1_ n2_ n3_ n4_ n5_ n6_ n7_
 replace HO106:=am (Kd.R_drew HO106.out)
 replace HO109:=am (Kd.R_drew HO109.out)
 replace HO112:=am (Kd.S_drew HO112.out)
 replace HO115:=am (Kd.R_drew HO115.out)
 replace BK101:=am (blk_drew BK101.out)
 replace BK102:=am (blk_drew BK102.out)
 replace BK117:=am (blk_drew BK117.out)
 replace HB:=am (below_drew1 HB.out)
 refine start_ (n:=8) (S:=fun w'=>w'.cell? ⟨gb117,0,none⟩ = some (.slice Ao19 t104.length co19) ∧ w'.cell? ⟨gb117,1,none⟩ = some (.slice Ao23 t107.length co23) ∧ w'.cell? ⟨gb117,2,none⟩ = some (.slice Ao24 t110.length co24) ∧ w'.cell? ⟨gb117,3,none⟩ = some (.slice Ao25 t113.length co25) ∧ w'.cell? ⟨gb101,0,none⟩ = some (.string a0_0) ∧ w'.cell? ⟨gb101,1,none⟩ = some (.string a0_1) ∧ w'.cell? ⟨gb101,2,none⟩ = some (.int .i64 a0_2)) (ds:=[]) (bm 8 0) k_r rfl rfl ⟨bk BK117 0,bk BK117 1,bk BK117 2,bk BK117 3,bk BK101 0,bk BK101 1,bk BK101 2⟩ (fun hHeld=>?_);refine with_tabW impl_solution.tab6 impl_solution.bits6 (fun HT_ HW_=>?_)
 generalize w26.drew = w27 at HO106 HO109 HO112 HO115 BK101 BK102 BK117 HB hHeld ⊢
 refine py (i:=1) (N:=some 22) (bm 8 2) ?_
 refine py (i:=4) (N:=some 25) (bm 8 18) ?_
 refine tk7 (i:=0) (N:=some 21) (bm 8 19) hHeld ?_
 refine tk7 (i:=2) (N:=some 23) (bm 8 23) hHeld ?_
 refine tk7 (i:=5) (N:=some 26) (bm 8 55) hHeld ?_
 refine one_ (i:=3) (N:=some 24) (bm 8 63) rfl rfl (one_of HT_.out k_r) d_c (fun K hK=>?_)
 refine goes_ Tryz.func50 k_r rfl #[.agg #[.slice Ao19 t104.length co19,.slice Ao23 t107.length co23,.slice Ao24 t110.length co24,.slice Ao25 t113.length co25],.string a0_1] (by rfl) rfl rfl aq6 ?_
 with_reducible refine (impl_reach_cells.calls k _ _ t104 _ _ t107 _ _ t110 _ _ t113 a0_1 t118 _ ?side1 ?side2 ?side3 ?side4 ?side5 ?side6 ?side7 ?side8 A6.out).mono ?_
 (case side1=>exact aq35)
 (case side2=>exact aq112)
 (case side3=>exact aq99)
 (case side4=>exact (Kd.R_reads' HO109.out).2.1)
 (case side5=>exact aq96)
 (case side6=>exact (Kd.S_reads' HO112.out).2.1)
 (case side7=>exact aq98)
 (case side8=>exact (Kd.R_reads' HO115.out).2.1)
 rintro e w28 ⟨v119,rfl,ho0,hb⟩
 refine ⟨_,rfl,?_⟩
 replace HO106:=am (Kd.R_below aq22 hb)
 replace HO112:=am (Kd.S_elder' aq46 (Kd.R_base ho0) hb)
 replace HO115:=am (Kd.R_below aq47 hb)
 have HO120:=am (Kd.R_lower (Kd.R_new' ho0 (Kd.R_lt aq48)) (below_size aq19))
 replace HO109:=am (Kd.R_elder' aq48 (Kd.R_base ho0) hb)
 replace BK101:=am (bb BK101 hb)
 replace BK102:=am (bb BK102 hb)
 replace BK117:=am (bb BK117 hb)
 replace HB:=am (below_step aq19 hb)
 (try clear hb)
 (try clear ho0)
 obtain ⟨Ao29,co29,eo29⟩:=Kd.R_slice HO120.out
 (first | subst eo29 | (injection eo29 with f1_ f2_ f3_;have f4_:=f1_.symm;have f5_:=f3_.symm;clear f1_ f2_ f3_;subst f4_;subst f5_))
 refine hK.out _ _ ⟨bk BK117 0,bk BK117 1,bk BK117 2,bk BK117 3,bk BK101 0,bk BK101 1,bk BK101 2⟩ (fun hHeld=>?_)
 clear hK K
 refine nm (some 24) ?_
 refine one_ (i:=6) (N:=some 27) (bm 8 127) rfl rfl (one_of HT_.out k_r) d_c (fun K hK=>?_)
 refine goes_ Tryz.func52 k_r rfl #[.slice Ao29 t118.length co29,.int .i64 a0_2] (by rfl) rfl rfl aq6 ?_
 with_reducible refine (slices_Index_int_int.calls k _ _ t118 a0_2 t121 _ ?side1 ?side2 A7.out).mono ?_
 (case side1=>exact aq97)
 (case side2=>exact (Kd.R_reads' HO120.out).2.1)
 rintro e w' ⟨rfl,⟨nd,rfl⟩⟩
 refine ⟨_,rfl,?_⟩
 refine hK.out _ _ ⟨bk BK117 0,bk BK117 1,bk BK117 2,bk BK117 3,bk BK101 0,bk BK101 1,bk BK101 2⟩ (fun hHeld=>?_)
 clear hK K
 refine nm (some 27) ?_
 refine py (i:=7) (N:=some 7) (bm 8 255) ?_
 refine done_ (done_of HT_.out k_r) ?_
 try go_wp2
 (try (rw [drewN_self w28];generalize hq_:World.drewN w28 _ = w28;have n0_:Aside0 (Kd.R Kd.string 9 w28 w.heap.size (fun k_=>some k_ ≠ (.slice Ao25 t113.length co25:Value).ownBlock) (.slice Ao19 t104.length co19) t104):=⟨by rw [← hq_];exact aq22⟩;have n1_:Aside0 (Kd.R (Kd.int .i64) 3 w28 w.heap.size (fun k_=>some k_ ≠ (.slice Ao29 t118.length co29:Value).ownBlock) (.slice Ao23 t107.length co23) t107):=⟨aq101⟩;have n2_:Aside0 (Kd.S (Kd.slice 3 (Kd.int .i64)) 40 w28 w.heap.size (fun k_=>some k_ ≠ (.slice Ao23 t107.length co23:Value).ownBlock ∧ some k_ ≠ (.slice Ao29 t118.length co29:Value).ownBlock) (.slice Ao24 t110.length co24) t110):=⟨by rw [← hq_];exact aq46⟩;have n3_:Aside0 (Kd.R Kd.string 9 w28 w.heap.size (fun k_=>some k_ ≠ (.slice Ao19 t104.length co19:Value).ownBlock) (.slice Ao25 t113.length co25) t113):=⟨by rw [← hq_];exact aq47⟩;have n4_:Aside0 (Kd.R (Kd.int .i64) 3 w28 w.heap.size (fun k_=>some k_ ≠ (.slice Ao23 t107.length co23:Value).ownBlock) (.slice Ao29 t118.length co29) t118):=⟨aq100⟩;have n5_:Aside0 (w28.heap[gb101]? = some (.cells #[.string a0_0,.string a0_1,.int .i64 a0_2] 30 (0,0))):=⟨by rw [← hq_];exact aq1⟩;have n6_:Aside0 (w28.heap[gb102]? = some (.cells #[.slice none 0 0,.slice none 0 0,.slice none 0 0,.slice none 0 0] 59 (0,0))):=⟨by rw [← hq_];exact aq9⟩;have n7_:Aside0 (w28.heap[gb117]? = some (.cells #[.slice Ao19 t104.length co19,.slice Ao23 t107.length co23,.slice Ao24 t110.length co24,.slice Ao25 t113.length co25] 59 (0,0))):=⟨by rw [← hq_];exact aq61⟩;have n8_:Aside0 (Below w.heap.size w w28):=⟨by rw [← hq_];exact aq19⟩;clear HO106 HO109 HO112 HO115 HO120 BK101 BK102 BK117 HB hq_;have HO106:=n0_;have HO109:=n1_;have HO112:=n2_;have HO115:=n3_;have HO120:=n4_;have BK101:=n5_;have BK102:=n6_;have BK117:=n7_;have HB:=n8_;clear n0_ n1_ n2_ n3_ n4_ n5_ n6_ n7_ n8_))
 replace HO106:=am (Kd.R_drew HO106.out)
 replace HO109:=am (Kd.R_drew HO109.out)
 replace HO112:=am (Kd.S_drew HO112.out)
 replace HO115:=am (Kd.R_drew HO115.out)
 replace HO120:=am (Kd.R_drew HO120.out)
 replace BK101:=am (blk_drew BK101.out)
 replace BK102:=am (blk_drew BK102.out)
 replace BK117:=am (blk_drew BK117.out)
 replace HB:=am (below_drew1 HB.out)
 have p122:0 ≤ (t121:Int):=of_decide_eq_true aq4
 have q122:t121 < (t107.length:Int):=of_decide_eq_true aq4
 obtain ⟨ad122,e122,hx122_0⟩:=Kd.at_int (Kd.R_reads' HO109.out).2.2 t121 p122 q122
 cases e122
 replace p122:=eq_true p122
 replace q122:=eq_true q122
 refine start_ (n:=15) (S:=fun w'=>w'.cell? ⟨gb117,0,none⟩ = some (.slice Ao19 t104.length co19) ∧ w'.cell? ⟨gb117,1,none⟩ = some (.slice (some ad122) t107.length co23) ∧ w'.cell? ⟨gb117,2,none⟩ = some (.slice Ao24 t110.length co24) ∧ w'.cell? ⟨gb117,3,none⟩ = some (.slice Ao25 t113.length co25) ∧ w'.cell? (ad122.add (t121).toNat) = some (.int .i64 (rd t107 t121))) (ds:=[]) (bm 15 0) k_r rfl rfl ⟨bk BK117 0,bk BK117 1,bk BK117 2,bk BK117 3,hx122_0⟩ (fun hHeld=>?_);refine with_tabW impl_solution.tab7 impl_solution.bits7 (fun HT_ HW_=>?_)
 generalize w28.drew = w30 at HO106 HO109 HO112 HO115 HO120 BK101 BK102 BK117 HB hx122_0 hHeld ⊢
 refine py (i:=1) (N:=some 29) (bm 15 2) ?_
 refine py (i:=2) (N:=some 30) (bm 15 6) ?_
 refine py (i:=3) (N:=some 31) (bm 15 14) ?_
 refine py (i:=4) (N:=some 32) (bm 15 30) ?_
 refine py (i:=5) (N:=some 33) (bm 15 62) ?_
 refine py (i:=7) (N:=some 35) (bm 15 190) ?_
 refine tk5 (i:=0) (N:=some 28) (bm 15 191) hHeld ?_
 refine tk5 (i:=6) (N:=some 34) (bm 15 255) hHeld ?_
 refine py (i:=8) (N:=some 36) (bm 15 511) ?_
 refine tk5 (i:=9) (N:=some 37) (bm 15 1023) hHeld ?_
 refine py (i:=10) (N:=some 38) (bm 15 2047) ?_
 refine py (i:=11) (N:=some 39) (bm 15 4095) ?_
 refine one_ (i:=12) (N:=none) (bm 15 8191) rfl rfl (one_of HT_.out k_r) d_c (fun K hK=>?_)
 have hs31:w30.cell? ⟨gb102,0,none⟩ = some (.slice none 0 0):=(blk_cell BK102.out 0).trans rfl
 have hfs31:=blk_frozen BK102.out 0
 have hns31_0:=NB101_102.out
 have hns31_2:=NB117_102.out
 have hms31_0:=NB102_101.out
 have hms31_2:=NB102_117.out
 have hs32:w30.cell? ⟨gb102,1,none⟩ = some (.slice none 0 0):=(blk_cell BK102.out 1).trans rfl
 have hfs32:=blk_frozen BK102.out 1
 have hns32_0:=NB101_102.out
 have hns32_2:=NB117_102.out
 have hms32_0:=NB102_101.out
 have hms32_2:=NB102_117.out
 have hs33:w30.cell? ⟨gb102,2,none⟩ = some (.slice none 0 0):=(blk_cell BK102.out 2).trans rfl
 have hfs33:=blk_frozen BK102.out 2
 have hns33_0:=NB101_102.out
 have hns33_2:=NB117_102.out
 have hms33_0:=NB102_101.out
 have hms33_2:=NB102_117.out
 have hs34:w30.cell? ⟨gb102,3,none⟩ = some (.slice none 0 0):=(blk_cell BK102.out 3).trans rfl
 have hfs34:=blk_frozen BK102.out 3
 have hns34_0:=NB101_102.out
 have hns34_2:=NB117_102.out
 have hms34_0:=NB102_101.out
 have hms34_2:=NB102_117.out
 refine skip_ (w1:=?_) (by rfl) rfl ?_ ?_
 rotate_left
 ·go_simp
  rfl
 refine hK.out _ _ ⟨((cell_far (p:=⟨gb102,_,none⟩) NB117_102.out _).trans (((cell_far (p:=⟨gb102,_,none⟩) NB117_102.out _).trans (((cell_far (p:=⟨gb102,_,none⟩) NB117_102.out _).trans (((cell_far (p:=⟨gb102,_,none⟩) NB117_102.out _).trans (hHeld.1)))))))),((cell_far (p:=⟨gb102,_,none⟩) NB117_102.out _).trans (((cell_far (p:=⟨gb102,_,none⟩) NB117_102.out _).trans (((cell_far (p:=⟨gb102,_,none⟩) NB117_102.out _).trans (((cell_far (p:=⟨gb102,_,none⟩) NB117_102.out _).trans (hHeld.2.1)))))))),((cell_far (p:=⟨gb102,_,none⟩) NB117_102.out _).trans (((cell_far (p:=⟨gb102,_,none⟩) NB117_102.out _).trans (((cell_far (p:=⟨gb102,_,none⟩) NB117_102.out _).trans (((cell_far (p:=⟨gb102,_,none⟩) NB117_102.out _).trans (hHeld.2.2.1)))))))),((cell_far (p:=⟨gb102,_,none⟩) NB117_102.out _).trans (((cell_far (p:=⟨gb102,_,none⟩) NB117_102.out _).trans (((cell_far (p:=⟨gb102,_,none⟩) NB117_102.out _).trans (((cell_far (p:=⟨gb102,_,none⟩) NB117_102.out _).trans (hHeld.2.2.2.1)))))))),((cell_far (p:=⟨gb102,_,none⟩) aq34 _).trans (((cell_far (p:=⟨gb102,_,none⟩) aq34 _).trans (((cell_far (p:=⟨gb102,_,none⟩) aq34 _).trans (((cell_far (p:=⟨gb102,_,none⟩) aq34 _).trans (hHeld.2.2.2.2))))))))⟩ (fun hHeld=>?_)
 clear hK K
 refine py (i:=13) (N:=some 3) (bm 15 16383) ?_
 refine py (i:=14) (N:=some 4) (bm 15 32767) ?_
 refine done_ (done_of HT_.out k_r) ?_
 try go_wp2
 refine bodyPost_ret (results_ctt rfl _ _ gb102 59 #[.slice Ao19 t104.length co19,.slice (some ad122) t107.length co23,.slice Ao24 t110.length co24,.slice Ao25 t113.length co25] (0,0) _ rfl (by (with_reducible repeat (first | refine blk_drewN ?_ _ | refine blk_drew ?_ | refine blk_alloc ?_ _));refine blk_put (cs:=#[.slice Ao19 t104.length co19,.slice (some ad122) t107.length co23,.slice Ao24 t110.length co24,.slice none 0 0]) ?_ 3 _ rfl;(with_reducible repeat (first | refine blk_drewN ?_ _ | refine blk_drew ?_ | refine blk_alloc ?_ _));refine blk_put (cs:=#[.slice Ao19 t104.length co19,.slice (some ad122) t107.length co23,.slice none 0 0,.slice none 0 0]) ?_ 2 _ rfl;(with_reducible repeat (first | refine blk_drewN ?_ _ | refine blk_drew ?_ | refine blk_alloc ?_ _));refine blk_put (cs:=#[.slice Ao19 t104.length co19,.slice none 0 0,.slice none 0 0,.slice none 0 0]) ?_ 1 _ rfl;(with_reducible repeat (first | refine blk_drewN ?_ _ | refine blk_drew ?_ | refine blk_alloc ?_ _));refine blk_put (cs:=#[.slice none 0 0,.slice none 0 0,.slice none 0 0,.slice none 0 0]) ?_ 0 _ rfl;(with_reducible repeat (first | refine blk_drewN ?_ _ | refine blk_drew ?_ | refine blk_alloc ?_ _));exact BK102.out) Tryz.underlying59 rfl k_r) rfl ?_
 exact ⟨_,_,_,_,aq8,by (with_reducible repeat (first | apply Kd.R_alloc | apply Kd.R_drewN | apply Kd.R_drew));exact Kd.R_mono (Kd.R_far (p:=⟨gb102,3,none⟩) (Kd.R_far (p:=⟨gb102,2,none⟩) (Kd.R_far (p:=⟨gb102,1,none⟩) (Kd.R_far (p:=⟨gb102,0,none⟩) (Kd.R_types HO106.out BK102.out d_c) (fun _ hk=>hk.2) (.slice Ao19 t104.length co19)) (fun _ hk=>hk.2) (.slice (some ad122) t107.length co23)) (fun _ hk=>hk.2) (.slice Ao24 t110.length co24)) (fun _ hk=>hk.2) (.slice Ao25 t113.length co25)) (fun _ hk=>hk.1),by (with_reducible repeat (first | apply Kd.R_alloc | apply Kd.R_drewN | apply Kd.R_drew));exact Kd.R_mono (Kd.R_far (p:=⟨gb102,3,none⟩) (Kd.R_far (p:=⟨gb102,2,none⟩) (Kd.R_far (p:=⟨gb102,1,none⟩) (Kd.R_far (p:=⟨gb102,0,none⟩) (Kd.R_types HO109.out BK102.out d_c) (fun _ hk=>hk.2) (.slice Ao19 t104.length co19)) (fun _ hk=>hk.2) (.slice (some ad122) t107.length co23)) (fun _ hk=>hk.2) (.slice Ao24 t110.length co24)) (fun _ hk=>hk.2) (.slice Ao25 t113.length co25)) (fun _ hk=>trivial),by (with_reducible repeat (first | apply Kd.S_alloc | apply Kd.S_drewN | apply Kd.S_drew));exact Kd.S_mono (Kd.S_far (p:=⟨gb102,3,none⟩) (Kd.S_far (p:=⟨gb102,2,none⟩) (Kd.S_far (p:=⟨gb102,1,none⟩) (Kd.S_far (p:=⟨gb102,0,none⟩) (Kd.S_types HO112.out BK102.out d_c) (fun _ hk=>hk.2) (.slice Ao19 t104.length co19)) (fun _ hk=>hk.2) (.slice (some ad122) t107.length co23)) (fun _ hk=>hk.2) (.slice Ao24 t110.length co24)) (fun _ hk=>hk.2) (.slice Ao25 t113.length co25)) (fun _ hk=>hk.1.1),by (with_reducible repeat (first | apply Kd.R_alloc | apply Kd.R_drewN | apply Kd.R_drew));exact Kd.R_mono (Kd.R_far (p:=⟨gb102,3,none⟩) (Kd.R_far (p:=⟨gb102,2,none⟩) (Kd.R_far (p:=⟨gb102,1,none⟩) (Kd.R_far (p:=⟨gb102,0,none⟩) (Kd.R_types HO115.out BK102.out d_c) (fun _ hk=>hk.2) (.slice Ao19 t104.length co19)) (fun _ hk=>hk.2) (.slice (some ad122) t107.length co23)) (fun _ hk=>hk.2) (.slice Ao24 t110.length co24)) (fun _ hk=>hk.2) (.slice Ao25 t113.length co25)) (fun _ hk=>hk.1),aq19⟩
end Go.Proofs.YtldhkbiomingbaaGreatDoor.F

namespace Go.Proofs.YtldhkbiomingbaaGreatDoor.F
open Go.Proofs.YtldhkbiomingbaaGreatDoor
open Go.RowKit Go.YW.PrintWords Go.YW.PrintMore
theorem placeI_read {w h:Nat} {c:List Int} (v:Vg (w,h,c)):impl_read.f (textB (w,h,c)) = some ((w:Int),(h:Int),c):=impl_read_eq _ (grid_textB v)
theorem cells_l0 {w h:Nat} {s:RS} {n:ByteArray} (hn:n.size = 1) (hv:∀ c ∈ s.T,Vg (w,h,c)) (hl:s.T.length ≤ 300):∀ (d i:Nat),i + d = s.T.length →
  Ev (fun k=>impl_reach_cells.l0 k n ((cellsI s (bt n 0)).take i) (rT w h s) ((rT w h s).length:Int) i) (cellsI s (bt n 0))
 | 0,i,hi=>by
  refine Ev.step (f:=fun _=>some (cellsI s (bt n 0))) (fun k=>?_) (Ev.now _)
  rw [impl_reach_cells.l0,if_neg (by rw [rT_len];omega),List.take_of_length_le (by rw [cellsI_len];omega)]
 | d + 1,i,hi=>by
  have hlt:i < s.T.length:=by omega
  have ih:=cells_l0 hn hv hl d (i + 1) o_m
  have hvi:=hv _ (getD_mem (d:=([]:List Int)) hlt)
  have hrd:rdOf ByteArray.empty (rT w h s) (i:Int) = textB (w,h,s.T.getD i []):=by
   unfold rdOf rT
   rw [Int.toNat_natCast,List.getD_eq_getElem?_getD,List.getElem?_map,List.getElem?_eq_getElem hlt,getD_lt hlt];rfl
  have hll:=(tray_small hvi).2
  simp only at hll
  have hix:=index_l0 (cs:=s.T.getD i []) o_m (bt n 0) _ 0 (Nat.zero_add _) (fun j hj=>by omega)
  have htk:(cellsI s (bt n 0)).take i ++ [placeI (bt n 0) (s.T.getD i [])] = (cellsI s (bt n 0)).take (i + 1):=by
   rw [List.take_succ_eq_append_getElem (by rw [cellsI_len];exact hlt),← cellsI_get s (bt n 0) hlt,getD_lt (by rw [cellsI_len];exact hlt)]
  refine Ev.step (f:=fun k=>(slices_Index_byte_byte.f k (s.T.getD i []) (bt n 0)).bind fun t111=>(if ((cellsI s (bt n 0)).take i).length < 17592186044416 then (impl_reach_cells.l0 k n ((cellsI s (bt n 0)).take i ++ [t111]) (rT w h s) ((rT w h s).length:Int) (wrap64 ((i:Int) + 1))) else none)) (fun k=>?_) ?_
  ·rw [impl_reach_cells.l0,if_pos (by rw [rT_len];omega),if_pos o_m,if_pos (by rw [rT_len];omega),hrd,placeI_read hvi,Option.bind_some,if_pos o_m]
  ·refine Ev.bind hix (Ev.congr (fun k=>?_) ih)
   rw [if_pos (by rw [List.length_take];omega)]
   show impl_reach_cells.l0 k n (_ ++ [placeI (bt n 0) (s.T.getD i [])]) _ _ _ = _
   rw [htk,show (i:Int) + 1 = ((i + 1:Nat):Int) by omega,w64t o_m]
theorem cells_ev {w h:Nat} {s:RS} {n:ByteArray} (hn:n.size = 1) (hv:∀ c ∈ s.T,Vg (w,h,c)) (hl:s.T.length ≤ 300) (l1:List Int) (l2:List (List Int)) (l3:List ByteArray) :
  Ev (fun k=>impl_reach_cells.f k (rT w h s) l1 l2 l3 n) (cellsI s (bt n 0)):=cells_l0 hn hv hl s.T.length 0 (Nat.zero_add _)
theorem indexI_l0 {l:List Int} (hl:l.length ≤ 1000) (c:Int):∀ (d i:Nat),i + d = l.length → (∀ j,j < i → l.getD j 0 ≠ c) →
  Ev (fun k=>slices_Index_int_int.l0 k l c (l.length:Int) i) (if l.findIdx (fun x=>decide (x = c)) < l.length then (l.findIdx (fun x=>decide (x = c)):Int) else -1)
 | 0,i,hi,hn=>by
  obtain rfl:i = l.length:=by omega
  have:l.findIdx (fun x=>decide (x = c)) = l.length:=List.findIdx_eq_length.2 (fun x hx=>by
   obtain ⟨j,hj,rfl⟩:=List.mem_iff_getElem.1 hx
   have:=hn j hj
   rw [getD_lt hj] at this
   simpa using this)
  rw [this,if_neg (Nat.lt_irrefl _)]
  refine Ev.step (f:=fun _=>some (-1)) (fun k=>?_) (Ev.now _)
  rw [slices_Index_int_int.l0,if_neg o_m]
 | d + 1,i,hi,hn=>by
  have hlt:i < l.length:=by omega
  have hrd:rd l (i:Int) = l.getD i 0:=by unfold rd;rw [Int.toNat_natCast]
  by_cases he:c = l.getD i 0
  rotate_left
  ·have ih:=indexI_l0 hl c d (i + 1) o_m (fun j hj=>by
    by_cases e:j = i
    ·subst e;exact fun h=>he h.symm
    ·exact hn j o_m)
   refine Ev.step (fun k=>?_) ih
   rw [slices_Index_int_int.l0,if_pos o_m,if_pos o_m,if_pos o_m,hrd,if_neg he,show (i:Int) + 1 = ((i + 1:Nat):Int) by omega,w64t o_m]
  have hf:l.findIdx (fun x=>decide (x = c)) = i:=by
   rw [List.findIdx_eq hlt]
   refine ⟨by rw [he,getD_lt hlt];simp,fun j hj=>?_⟩
   have:=hn j hj
   rw [getD_lt o_m] at this
   simpa using this
  rw [hf,if_pos hlt]
  refine Ev.step (f:=fun _=>some (i:Int)) (fun k=>?_) (Ev.now _)
  rw [slices_Index_int_int.l0,if_pos o_m,if_pos o_m,if_pos o_m,hrd,if_pos he]
end Go.Proofs.YtldhkbiomingbaaGreatDoor.F

namespace Go.Proofs.YtldhkbiomingbaaGreatDoor.F
open Go.Proofs.YtldhkbiomingbaaGreatDoor
open Go.RowKit Go.YW.PrintWords Go.YW.PrintLast Go.YW.PrintMore
attribute [local go_sem] max2_int min2_int max_two min_two max_three min_three max_four min_four


end Go.Proofs.YtldhkbiomingbaaGreatDoor.F

namespace Go.Proofs.YtldhkbiomingbaaGreatDoor.F
open Go.Proofs.YtldhkbiomingbaaGreatDoor
open Go.RowKit Go.YW.PrintWords Go.YW.PrintMore
theorem puzB_name {t n:ByteArray} {goal:Int} (h:puzB t n goal = true):n.size = 1:=by
 unfold puzB at h
 split at h
 ·cases h
 ·split at h
  ·rename_i hc
   have:=hc.1
   unfold oneName at this
   rw [Bool.and_eq_true] at this
   exact of_decide_eq_true this.1
  ·cases h
theorem reachOf_some {t:ByteArray} {w h:Nat} {s:RS} (ht:t.size < 4294967281) (hs:srch t = some (w,h,s)):impl_reachOf.f t = some (rT w h s,castsI s.F,s.N.map castsI,rW s,true):=by
 unfold impl_reachOf.f
 rw [if_pos ht,hs]
theorem reachOf_none {t:ByteArray} (ht:t.size < 4294967281) (hs:srch t = none):impl_reachOf.f t = some ([],[],[],[],false):=by
 unfold impl_reachOf.f
 rw [if_pos ht,hs]
end Go.Proofs.YtldhkbiomingbaaGreatDoor.F

namespace Go.Proofs.YtldhkbiomingbaaGreatDoor.F
open Go.Proofs.YtldhkbiomingbaaGreatDoor
open Go.RowKit Go.YW.PrintWords Go.YW.PrintLast Go.YW.PrintMore
attribute [local go_sem] max2_int min2_int max_two min_two max_three min_three max_four min_four
mutual
def impl_reach_ways.l0:Nat → List Int → List (List Int) → Int → Int → List ByteArray → List Int → List (List Int) → List ByteArray → Option (List Int)
 | 0,_,_,_,_,_,_,_,_=>none
 | k + 1,x3,x15,x16,x17,x102000,x102001,x102002,x102003=>if x17 < x16 then (if 0 ≤ x17 then (if x17 < (x15.length:Int) then (impl_reach_ways.l1 k x3 x17 x15 x16 x17 (rd_L3 x15 x17) ((rd_L3 x15 x17).length:Int) 0 x102000 x102001 x102002 x102003) else (none)) else (none)) else (some x3)
def impl_reach_ways.l1:Nat → List Int → Int → List (List Int) → Int → Int → List Int → Int → Int → List ByteArray → List Int → List (List Int) → List ByteArray → Option (List Int)
 | 0,_,_,_,_,_,_,_,_,_,_,_,_=>none
 | k + 1,x3,x4,x15,x16,x17,x22,x23,x24,x102000,x102001,x102002,x102003=>if x24 < x23 then (if 0 ≤ x24 then (if x24 < (x22.length:Int) then (if 0 ≤ (rd x22 x24) then (if (rd x22 x24) < (x102001.length:Int) then (if 0 ≤ x4 then (if x4 < (x102001.length:Int) then (if (rd x102001 (rd x22 x24)) = (wrap64 ((rd x102001 x4) + 1)) then (if (rd x22 x24) < (x3.length:Int) then (if x4 < (x3.length:Int) then (impl_reach_ways.l1 k (x3.set ((rd x22 x24):Int).toNat (wrap64 ((rd x3 (rd x22 x24)) + (rd x3 x4)))) x4 x15 x16 x17 x22 x23 (wrap64 (x24 + 1)) x102000 x102001 x102002 x102003) else (none)) else (none)) else (impl_reach_ways.l1 k x3 x4 x15 x16 x17 x22 x23 (wrap64 (x24 + 1)) x102000 x102001 x102002 x102003)) else (none)) else (none)) else (none)) else (none)) else (none)) else (none)) else (impl_reach_ways.l0 k x3 x15 x16 (wrap64 (x17 + 1)) x102000 x102001 x102002 x102003)
end
def impl_reach_ways.f (k:Nat) (l0_0:List ByteArray) (l0_1:List Int) (l0_2:List (List Int)) (l0_3:List ByteArray):Option (List Int):=if 0 ≤ (l0_0.length:Int) then (if ((l0_0.length:Int):Int).toNat ≤ 35184372088832 then ((some (List.replicate ((l0_0.length:Int):Int).toNat 0:List Int)).bind fun y102=>(if 0 < (y102.length:Int) then (impl_reach_ways.l0 k (y102.set (0:Int).toNat 1) l0_2 (l0_2.length:Int) 0 l0_0 l0_1 l0_2 l0_3) else (none))) else (none)) else (none)
theorem impl_reach_ways.mono_l:∀ k,(∀ y0 y1 y2 y3 y4 y5 y6 y7,LeO (impl_reach_ways.l0 k y0 y1 y2 y3 y4 y5 y6 y7) (impl_reach_ways.l0 (k + 1) y0 y1 y2 y3 y4 y5 y6 y7)) ∧ (∀ y0 y1 y2 y3 y4 y5 y6 y7 y8 y9 y10 y11,LeO (impl_reach_ways.l1 k y0 y1 y2 y3 y4 y5 y6 y7 y8 y9 y10 y11) (impl_reach_ways.l1 (k + 1) y0 y1 y2 y3 y4 y5 y6 y7 y8 y9 y10 y11))
 | 0=>⟨fun _ _ _ _ _ _ _ _ r h=>by simp [impl_reach_ways.l0] at h,fun _ _ _ _ _ _ _ _ _ _ _ _ r h=>by simp [impl_reach_ways.l1] at h⟩
 | k + 1=>by
  obtain ⟨ih0,ih1⟩:=impl_reach_ways.mono_l k
  refine ⟨?_,?_⟩
  ·intro y0 y1 y2 y3 y4 y5 y6 y7
   unfold impl_reach_ways.l0
   exact mo
  ·intro y0 y1 y2 y3 y4 y5 y6 y7 y8 y9 y10 y11
   unfold impl_reach_ways.l1
   exact mo
theorem impl_reach_ways.mono:∀ a0 a1 a2 a3 k,LeO (impl_reach_ways.f k a0 a1 a2 a3) (impl_reach_ways.f (k + 1) a0 a1 a2 a3):=by
 intro a0 a1 a2 a3 k
 obtain ⟨ih0,ih1⟩:=impl_reach_ways.mono_l k
 unfold impl_reach_ways.f
 exact mo
def impl_reach_ways.T9:Bool × List (List Nat × List Nat):=(true,[([],[]),([0],[0]),([],[]),([1,2],[1,2]),([3],[3]),([],[]),([5],[5]),([],[]),([6,7],[6,7]),([8],[8]),([9],[9]),([4,10],[4,10])])
def impl_reach_ways.B9:List Nat:=[0,1,0,7,15,0,32,0,224,480,992,2047]
theorem impl_reach_ways.tab9:rtab .any (opsOf Tryz.f57 9) = impl_reach_ways.T9:=by kernel_rfl
theorem impl_reach_ways.bits9:waitsOk impl_reach_ways.T9.2 impl_reach_ways.B9 = true:=by kernel_rfl
def impl_reach_ways.T10:Bool × List (List Nat × List Nat):=(true,[([],[]),([],[]),([0,1],[0,1]),([2],[2]),([],[]),([],[]),([4,5],[4,5]),([6],[6]),([3,7],[3,7]),([0,1,0,1,2,3,4,5,6,7,8],[0,1]),([9,8,0,1,2,3,4,5,6,7,8],[8,9])])
def impl_reach_ways.B10:List Nat:=[0,0,3,7,0,0,48,112,255,511,1023]
theorem impl_reach_ways.tab10:rtab .any (opsOf Tryz.f57 10) = impl_reach_ways.T10:=by kernel_rfl
theorem impl_reach_ways.bits10:waitsOk impl_reach_ways.T10.2 impl_reach_ways.B10 = true:=by kernel_rfl
theorem impl_reach_ways.calls (k:Nat) (A0_0:Option Addr) (c0_0:Nat) (l0_0:List ByteArray) (A0_1:Option Addr) (c0_1:Nat) (l0_1:List Int) (A0_2:Option Addr) (c0_2:Nat) (l0_2:List (List Int)) (A0_3:Option Addr) (c0_3:Nat) (l0_3:List ByteArray) (r:List Int) (w:World) (hr0_0:Kd.C Kd.string w A0_0 l0_0.length l0_0) (hc0_0:l0_0.length ≤ c0_0) (hr0_1:Kd.C (Kd.int .i64) w A0_1 l0_1.length l0_1) (hc0_1:l0_1.length ≤ c0_1) (hr0_2:Kd.C (Kd.slice 3 (Kd.int .i64)) w A0_2 l0_2.length l0_2) (hc0_2:l0_2.length ≤ c0_2) (hr0_3:Kd.C Kd.string w A0_3 l0_3.length l0_3) (hc0_3:l0_3.length ≤ c0_3) (h:impl_reach_ways.f k l0_0 l0_1 l0_2 l0_3 = some r) :
  Calls Tryz.prog 57 #[.agg #[.slice A0_0 l0_0.length c0_0,.slice A0_1 l0_1.length c0_1,.slice A0_2 l0_2.length c0_2,.slice A0_3 l0_3.length c0_3]] w fun e w'=>∃ v0_:Value,e = .returned (v0_) ∧ Kd.R (Kd.int .i64) 3 w' w.heap.size (fun _=>True) v0_ r ∧ Below w.heap.size w w':=by
 have hu59:=Tryz.underlying59
 have HR0_0:=am hr0_0
 have HC0_0:=am hc0_0
 clear hr0_0 hc0_0
 have HR0_1:=am hr0_1
 have HC0_1:=am hc0_1
 clear hr0_1 hc0_1
 have HR0_2:=am hr0_2
 have HC0_2:=am hc0_2
 clear hr0_2 hc0_2
 have HR0_3:=am hr0_3
 have HC0_3:=am hc0_3
 clear hr0_3 hc0_3
 have HB:=am (Below.refl w.heap.size w)
 have H:(if 0 ≤ (l0_0.length:Int) then (if ((l0_0.length:Int):Int).toNat ≤ 35184372088832 then ((some (List.replicate ((l0_0.length:Int):Int).toNat 0:List Int)).bind fun y102=>(if 0 < (y102.length:Int) then (impl_reach_ways.l0 k (y102.set (0:Int).toNat 1) l0_2 (l0_2.length:Int) 0 l0_0 l0_1 l0_2 l0_3) else (none))) else (none)) else (none)) = some r:=h
 clear h
 replace H:=gd H
 obtain ⟨c2,H⟩:=H
 have c2b0:=eq_true c2
 have c2b1:=decide_eq_true c2
 clear c2
 replace H:=gd H
 obtain ⟨c3,H⟩:=H
 have c3b0:=eq_true c3
 have c3b1:=decide_eq_true c3
 clear c3
 obtain ⟨y102,hy_⟩:∃ y_:List Int,y_ = (List.replicate ((l0_0.length:Int):Int).toNat 0):=⟨_,rfl⟩
 replace H:(if 0 < (y102.length:Int) then (impl_reach_ways.l0 k (y102.set (0:Int).toNat 1) l0_2 (l0_2.length:Int) 0 l0_0 l0_1 l0_2 l0_3) else (none)) = some r:=aq5
 have Ny102:=am hy_
 clear hy_
 replace H:=gd H
 obtain ⟨c4,H⟩:=H
 have c4b0:=decide_eq_true c4
 (try simp only [hl3_1] at c4b0);(try simp only [hl3_2] at c4b0)
 have c4b1:decide (0 < y102.length) = true:=decide_eq_true o_m
 (try simp only [hl3_1] at c4b1);(try simp only [hl3_2] at c4b1)
 clear c4
 obtain ⟨y105,hy_⟩:∃ y_:List Int,y_ = (y102.set (0:Int).toNat 1):=⟨_,rfl⟩
 replace H:(impl_reach_ways.l0 k y105 l0_2 (l0_2.length:Int) 0 l0_0 l0_1 l0_2 l0_3) = some r:=aq5
 have Ny105:=am hy_
 clear hy_
 have H':=am H
 clear H
 go_enter Tryz.func57,Tryz.ntmps57
 go_wp2_with (first | (refine bx 1 #[.slice A0_0 l0_0.length c0_0,.slice A0_1 l0_1.length c0_1,.slice A0_2 l0_2.length c0_2,.slice A0_3 l0_3.length c0_3] 59 ?_;intro gb101 hg w6 hbox hb;have BK101:=am (hbox);have GW101:=am ((by rw [hg];exact (below_size aq2):w.heap.size ≤ gb101));have GE101:=GW101;replace HB:=am (below_step aq2 hb);clear hb hbox hg;obtain ⟨hcz7_0,hcz7_1,hcz7_2,hcz7_3,hfz7_0,hfz7_1,hfz7_2,hfz7_3⟩:=blk4_ BK101.out) | ((with_reducible refine gate_dst (N:=11) rfl ?_);refine Kd.R_make (Kd.int .i64) _ 3 rfl (N:=11) rfl 40 _ _ rfl (l0_0.length:Int) rfl rfl Tryz.underlying40 (.int .i64 0) 8 info3 rfl d_c o_m 0 (ok:=fun _=>True) (okp:=fun _=>True) rfl (fun _ hk=>hk) trivial (of_decide_eq_true aq4) (Nat.le_trans (Nat.mul_le_mul_right _ (of_decide_eq_true aq4:(l0_0.length:Int).toNat ≤ 35184372088832)) o_m) (Below.refl _ _) (Nat.le_refl _) ?_;intro v103 w8 ho9 hb hg_ hnew_;clear hg_ hnew_;(first | rw [← Ny102.out] at ho9 | (simp only [Int.reduceToNat] at ho9;rw [← Ny102.out] at ho9));have HO104:=am (Kd.R_lower ho9 (below_size aq0));replace BK101:=am (bb BK101 hb);replace HB:=am (below_step aq0 hb);clear hb ho9;have p5:0 ≤ (0:Int):=o_m;have q5:(0:Int) < ((y102.length:Int):Int):=of_decide_eq_true aq4;have qi5:(0 < y102.length) = True:=eq_true o_m;obtain ⟨go5,co5,eo5,gb5,gl5,cl5,HG5⟩:=Kd.R_form HO104.out o_m;(first | cases eo5 | (injection eo5 with ea_ en_ ec_;(first | subst ea_ | (injection ea_ with ea_;subst ea_));subst ec_;clear en_));have GB5:=am gb5;have GG5:=am HG5;clear gb5 gl5 HG5;obtain ⟨hx5_0,hf5_0⟩:=Kd.R_celln 0 HO104.out (0:Int) p5 q5;(try rw [show ((0:Int)).toNat = 0 from rfl] at hx5_0);(try simp only [Nat.reduceMul,Nat.zero_mul,Nat.zero_add,Nat.reduceAdd] at hx5_0);(try rw [show ((0:Int)).toNat = 0 from rfl] at hf5_0);(try simp only [Nat.reduceMul,Nat.zero_mul,Nat.zero_add,Nat.reduceAdd] at hf5_0);replace p5:=eq_true p5;replace q5:=eq_true q5;obtain ⟨hy10_,hz10_⟩:=Kd.R_celln 0 HO104.out (0:Int) o_m (of_decide_eq_true aq4);(try simp only [Int.reduceToNat,Int.toNat_zero,Int.toNat_ofNat,Nat.reduceMul,Nat.zero_mul,Nat.zero_add] at hy10_ hz10_);(try rw [show ((0:Int)).toNat = 0 from rfl] at hy10_);(try rw [show ((0:Int)).toNat = 0 from rfl] at hz10_);have HP10:=Kd.R_putg HO104.out (0:Int) 1) | ((with_reducible refine gate_store (t:=3) (p:=13) rfl ?_);refine store_event (t:=3) (p:=13) (v:=?vo_w11) (w1:=(w8.setCell ⟨go5,(0:Int).toNat,none⟩ (.int .i64 1))) ?hg ?ho ?hn ?hr ?_;(case ho=>rfl);(case hg=>rfl);(case hn=>rfl);(case hr=>exact aq13);intro w11 hw;have hg:w8.grownBy w11 (some go5):=(by rw [hw];exact HP10.2);have hp_:Kd.R (Kd.int .i64) 3 w11 w.heap.size (fun _=>True) (.slice (some ⟨go5,0,none⟩) y102.length co5) y105:=(by rw [hw,Ny105.out];exact HP10.1);clear HP10;replace BK101:=am (bg BK101 hg (Kd.R_ne HO104.out BK101.out d_c));replace HO104:=am (hp_);replace HB:=am ((by rw [hw];exact below_set (HB.out) GB5.out:Below w.heap.size w w11));clear hg hw hp_;obtain ⟨hcz12_0,hcz12_1,hcz12_2,hcz12_3,hfz12_0,hfz12_1,hfz12_2,hfz12_3⟩:=blk4_ BK101.out))
 go_loopg [17] k (fun kq v17 w'=>∃ (x3_1:List Int) (x17_1:Int),v17 = .int .i64 x17_1 ∧ Aside0 (impl_reach_ways.l0 kq x3_1 l0_2 (l0_2.length:Int) x17_1 l0_0 l0_1 l0_2 l0_3 = some r) ∧ Aside0 (kq ≤ k) ∧ Aside0 (Kd.R (Kd.int .i64) 3 w' w.heap.size (fun _=>True) (.slice (some ⟨go5,0,none⟩) y102.length co5) x3_1) ∧ Aside0 (w'.heap[gb101]? = some (.cells #[(.slice A0_0 l0_0.length c0_0),(.slice A0_1 l0_1.length c0_1),(.slice A0_2 l0_2.length c0_2),(.slice A0_3 l0_3.length c0_3)] 59 (0,0))) ∧ Aside0 (Below w.heap.size w w'))
 case atStart=>exact ⟨(y105),(0),aq7,H',⟨Nat.le_refl _⟩,⟨aq27⟩,⟨aq1⟩,⟨aq0⟩⟩
 case round =>
  clear H'
  try clear c2
  try clear c2b0
  try clear c2b1
  try clear p2
  try clear c3
  try clear c3b0
  try clear c3b1
  try clear c4
  try clear c4b0
  try clear c4b1
  try clear c5
  try clear p5
  try clear q5
  try clear hx5
  try clear qi5
  try clear hf5
  try clear hcz12_0
  try clear hcz12_1
  try clear hcz12_2
  try clear hcz12_3
  try clear hcz7_0
  try clear hcz7_1
  try clear hcz7_2
  try clear hcz7_3
  try clear hfz12_0
  try clear hfz12_1
  try clear hfz12_2
  try clear hfz12_3
  try clear hfz7_0
  try clear hfz7_1
  try clear hfz7_2
  try clear hfz7_3
  try clear hx5_0
  try clear p5
  try clear q5
  obtain ⟨x3_1,x17_1,rfl,HA,HK1,HO_3,BK101,HB⟩:=hrel
  have hl3_1:=(Kd.R_reads' HO_3.out).1
  rw [hl3_1] at HO_3
  (try simp only [hl3_1])
  (try simp only [hl3_1] at BK101)
  cases gk with
  | zero=>exact absurd HA.out (by simp [impl_reach_ways.l0])
  | succ k1 =>
   have H:=HA.out
   clear HA
   simp only [impl_reach_ways.l0] at H
   by_cases c13:x17_1 < (l0_2.length:Int)
   rotate_left
   ·rw [if_neg c13] at H
    have c13b0:=decide_eq_false c13
    clear c13
    obtain rfl:=Option.some.inj H
    go_wp2
    go_ret
    exact ⟨_,aq8,aq73,aq0⟩
   rw [if_pos c13] at H
   have c13b0:=decide_eq_true c13
   clear c13
   replace H:=gd H
   obtain ⟨c14,H⟩:=H
   have c14b0:=decide_eq_true c14
   clear c14
   replace H:=gd H
   obtain ⟨c15,H⟩:=H
   have c15b0:=decide_eq_true c15
   clear c15
   have H':=am H
   clear H
   have p106:0 ≤ (x17_1:Int):=of_decide_eq_true aq4
   have q106:x17_1 < (l0_2.length:Int):=of_decide_eq_true aq4
   obtain ⟨ad106,A106_0,c106_0,e106,hx106_0,hl106_0,hi106_0⟩:=at_L3 HR0_2.out x17_1 p106 q106
   cases e106
   try replace hx106_0:=(HB.out.cell (World.block_lt_of_cell? w _ hx106_0)).trans hx106_0
   have HR106_0:=am hi106_0
   have HC106_0:=am hl106_0
   clear hi106_0 hl106_0
   replace p106:=eq_true p106
   replace q106:=eq_true q106
   go_wp2
   go_loopg [24] k1 (fun kq v24 w'=>∃ (x3_2:List Int) (x24_2:Int),v24 = .int .i64 x24_2 ∧ Aside0 (impl_reach_ways.l1 kq x3_2 x17_1 l0_2 (l0_2.length:Int) x17_1 (rd_L3 l0_2 x17_1) ((rd_L3 l0_2 x17_1).length:Int) x24_2 l0_0 l0_1 l0_2 l0_3 = some r) ∧ Aside0 (kq ≤ k1) ∧ Aside0 (Kd.R (Kd.int .i64) 3 w' w.heap.size (fun _=>True) (.slice (some ⟨go5,0,none⟩) x3_1.length co5) x3_2) ∧ Aside0 (w'.heap[gb101]? = some (.cells #[(.slice A0_0 l0_0.length c0_0),(.slice A0_1 l0_1.length c0_1),(.slice (some ad106) l0_2.length c0_2),(.slice A0_3 l0_3.length c0_3)] 59 (0,0))) ∧ Aside0 (Below w.heap.size w w'))
   case atStart=>exact ⟨(x3_1),(0),aq7,H',⟨Nat.le_refl _⟩,⟨by (try simp only [hl3_1]);(with_reducible repeat (first | apply Kd.R_alloc | apply Kd.R_drewN | apply Kd.R_drew));exact HO_3.out⟩,⟨by (try simp only [hl3_1]);(with_reducible repeat (first | refine blk_drewN ?_ _ | refine blk_drew ?_ | refine blk_alloc ?_ _));exact BK101.out⟩,⟨aq0⟩⟩
   case round =>
    clear H'
    try clear c1
    try clear p1
    try clear q1
    try clear hx1
    try clear c2
    try clear c2b0
    try clear c2b1
    try clear p2
    try clear c3
    try clear c3b0
    try clear c3b1
    try clear c4
    try clear c4b0
    try clear c4b1
    try clear c5
    try clear p5
    try clear q5
    try clear hx5
    try clear qi5
    try clear hf5
    try clear c10
    try clear p10
    try clear q10
    try clear hx10
    try clear c13
    try clear c13b0
    try clear c14
    try clear c14b0
    try clear c15
    try clear c15b0
    try clear hcz12_0
    try clear hcz12_1
    try clear hcz12_2
    try clear hcz12_3
    try clear hcz7_0
    try clear hcz7_1
    try clear hcz7_2
    try clear hcz7_3
    try clear hfz12_0
    try clear hfz12_1
    try clear hfz12_2
    try clear hfz12_3
    try clear hfz7_0
    try clear hfz7_1
    try clear hfz7_2
    try clear hfz7_3
    try clear hx106_0
    try clear hx5_0
    try clear p106
    try clear p2
    try clear p5
    try clear q106
    try clear q5
    obtain ⟨x3_2,x24_2,rfl,HA,HK2,HO_3,BK101,HB⟩:=hrel
    have hl3_2:=(Kd.R_reads' HO_3.out).1
    rw [hl3_2] at HO_3
    (try simp only [hl3_2])
    (try simp only [hl3_2] at BK101)
    cases gk with
    | zero=>exact absurd HA.out (by simp [impl_reach_ways.l1])
    | succ k2 =>
     have H:=HA.out
     clear HA
     simp only [impl_reach_ways.l1] at H
     by_cases c16:x24_2 < ((rd_L3 l0_2 x17_1).length:Int)
     rotate_left
     ·rw [if_neg c16] at H
      have c16b0:=decide_eq_false c16
      clear c16
      have H':=am H
      clear H
      go_wp2
      (try simp only [← hl3_1,← hl3_2])
      go_roundg k2
      case measure=>have:=HK1.out;have:=HK2.out;omega
      case rel=>exact ⟨(x3_2),(wrap64 (x17_1 + 1)),aq7,H',⟨aq75⟩,⟨aq107⟩,⟨aq95⟩,⟨aq0⟩⟩
     rw [if_pos c16] at H
     have c16b0:=decide_eq_true c16
     clear c16
     replace H:=gd H
     obtain ⟨c17,H⟩:=H
     have c17b0:=decide_eq_true c17
     clear c17
     replace H:=gd H
     obtain ⟨c18,H⟩:=H
     have c18b0:=decide_eq_true c18
     clear c18
     replace H:=gd H
     obtain ⟨c19,H⟩:=H
     have c19b0:=decide_eq_true c19
     clear c19
     replace H:=gd H
     obtain ⟨c20,H⟩:=H
     have c20b0:=decide_eq_true c20
     clear c20
     replace H:=gd H
     obtain ⟨c21,H⟩:=H
     have c21b0:=decide_eq_true c21
     clear c21
     replace H:=gd H
     obtain ⟨c22,H⟩:=H
     have c22b0:=decide_eq_true c22
     clear c22
     by_cases c23:(rd l0_1 (rd (rd_L3 l0_2 x17_1) x24_2)) = (wrap64 ((rd l0_1 x17_1) + 1))
     rotate_left
     ·rw [if_neg c23] at H
      have c23b0:=beq_eq_false_iff_ne.mpr c23
      have c23b1:=bne_iff_ne.mpr c23
      have H':=am H
      clear H
      have p107:0 ≤ (x24_2:Int):=of_decide_eq_true aq4
      have q107:x24_2 < ((rd_L3 l0_2 x17_1).length:Int):=of_decide_eq_true aq4
      obtain ⟨ad107,e107,hx107_0⟩:=Kd.at_int HR106_0.out x24_2 p107 q107
      cases e107
      try replace hx107_0:=(HB.out.cell (World.block_lt_of_cell? w _ hx107_0)).trans hx107_0
      replace p107:=eq_true p107
      replace q107:=eq_true q107
      try go_wp2
      replace HO_3:=am (Kd.R_drew HO_3.out)
      replace BK101:=am (blk_drew BK101.out)
      replace HB:=am (below_drew1 HB.out)
      have p108:0 ≤ ((rd (rd_L3 l0_2 x17_1) x24_2):Int):=of_decide_eq_true aq4
      have q108:(rd (rd_L3 l0_2 x17_1) x24_2) < (l0_1.length:Int):=of_decide_eq_true aq4
      obtain ⟨ad108,e108,hx108_0⟩:=Kd.at_int HR0_1.out (rd (rd_L3 l0_2 x17_1) x24_2) p108 q108
      have hw108_0:=hx108_0
      cases e108
      try replace hx108_0:=(HB.out.cell (World.block_lt_of_cell? w _ hx108_0)).trans hx108_0
      replace p108:=eq_true p108
      replace q108:=eq_true q108
      have p109:0 ≤ (x17_1:Int):=of_decide_eq_true aq4
      have q109:x17_1 < (l0_1.length:Int):=of_decide_eq_true aq4
      obtain ⟨ad109,e109,hx109_0⟩:=Kd.at_int HR0_1.out x17_1 p109 q109
      have hw109_0:=hx109_0
      obtain rfl:ad108 = ad109:=(by injection e109)
      try replace hx109_0:=(HB.out.cell (World.block_lt_of_cell? w _ hx109_0)).trans hx109_0
      replace p109:=eq_true p109
      replace q109:=eq_true q109
      refine start_ (n:=12) (S:=fun w'=>w'.cell? ⟨gb101,0,none⟩ = some (.slice A0_0 l0_0.length c0_0) ∧ w'.cell? ⟨gb101,1,none⟩ = some (.slice (some ad108) l0_1.length c0_1) ∧ w'.cell? ⟨gb101,2,none⟩ = some (.slice (some ad106) l0_2.length c0_2) ∧ w'.cell? ⟨gb101,3,none⟩ = some (.slice A0_3 l0_3.length c0_3) ∧ w'.cell? (ad108.add ((rd (rd_L3 l0_2 x17_1) x24_2)).toNat) = some (.int .i64 (rd l0_1 (rd (rd_L3 l0_2 x17_1) x24_2))) ∧ w'.cell? (ad108.add (x17_1).toNat) = some (.int .i64 (rd l0_1 x17_1))) (ds:=[]) (bm 12 0) k_r rfl rfl ⟨bk BK101 0,bk BK101 1,bk BK101 2,bk BK101 3,((HB.out.cell (World.block_lt_of_cell? w _ hw108_0)).trans hw108_0),((HB.out.cell (World.block_lt_of_cell? w _ hw109_0)).trans hw109_0)⟩ (fun hHeld=>?_);refine with_tabW impl_reach_ways.tab9 impl_reach_ways.bits9 (fun HT_ HW_=>?_)
      generalize wr.drew = w30 at HO_3 BK101 HB hx108_0 hx109_0 hHeld ⊢
      refine py (i:=0) (N:=some 28) (bm 12 1) ?_
      refine py (i:=2) (N:=some 30) (bm 12 5) ?_
      refine py (i:=5) (N:=some 33) (bm 12 37) ?_
      refine py (i:=7) (N:=some 35) (bm 12 165) ?_
      refine tk6 (i:=1) (N:=some 29) (bm 12 167) hHeld ?_
      refine py (i:=3) (N:=some 31) (bm 12 175) ?_
      refine tk6 (i:=4) (N:=some 32) (bm 12 191) hHeld ?_
      refine tk6 (i:=6) (N:=some 34) (bm 12 255) hHeld ?_
      refine py (i:=8) (N:=some 36) (bm 12 511) ?_
      refine tk6 (i:=9) (N:=some 37) (bm 12 1023) hHeld ?_
      refine py (i:=10) (N:=some 38) (bm 12 2047) ?_
      refine py (i:=11) (N:=some 39) (bm 12 4095) ?_
      refine done_ (done_of HT_.out k_r) ?_
      try go_wp2
      (try simp only [← hl3_2])
      go_roundg k2
      case measure=>have:=HK1.out;have:=HK2.out;omega
      case rel=>exact ⟨(x3_2),(wrap64 (x24_2 + 1)),aq7,H',⟨aq75⟩,⟨aq107⟩,⟨aq95⟩,⟨aq0⟩⟩
     rw [if_pos c23] at H
     have c23b0:=beq_iff_eq.mpr c23
     have c23b1:=bne_eq_false_iff_eq.mpr c23
     clear c23
     replace H:=gd H
     obtain ⟨c24,H⟩:=H
     have c24b0:=decide_eq_true c24
     clear c24
     replace H:=gd H
     obtain ⟨c25,H⟩:=H
     have c25b0:=decide_eq_true c25
     clear c25
     obtain ⟨y112,hy_⟩:∃ y_:List Int,y_ = (x3_2.set ((rd (rd_L3 l0_2 x17_1) x24_2):Int).toNat (wrap64 ((rd x3_2 (rd (rd_L3 l0_2 x17_1) x24_2)) + (rd x3_2 x17_1)))):=⟨_,rfl⟩
     replace H:(impl_reach_ways.l1 k2 y112 x17_1 l0_2 (l0_2.length:Int) x17_1 (rd_L3 l0_2 x17_1) ((rd_L3 l0_2 x17_1).length:Int) (wrap64 (x24_2 + 1)) l0_0 l0_1 l0_2 l0_3) = some r:=aq5
     have Ny112:=am hy_
     clear hy_
     have H':=am H
     clear H
     have p107:0 ≤ (x24_2:Int):=of_decide_eq_true aq4
     have q107:x24_2 < ((rd_L3 l0_2 x17_1).length:Int):=of_decide_eq_true aq4
     obtain ⟨ad107,e107,hx107_0⟩:=Kd.at_int HR106_0.out x24_2 p107 q107
     cases e107
     try replace hx107_0:=(HB.out.cell (World.block_lt_of_cell? w _ hx107_0)).trans hx107_0
     replace p107:=eq_true p107
     replace q107:=eq_true q107
     try go_wp2
     replace HO_3:=am (Kd.R_drew HO_3.out)
     replace BK101:=am (blk_drew BK101.out)
     replace HB:=am (below_drew1 HB.out)
     have p108:0 ≤ ((rd (rd_L3 l0_2 x17_1) x24_2):Int):=of_decide_eq_true aq4
     have q108:(rd (rd_L3 l0_2 x17_1) x24_2) < (l0_1.length:Int):=of_decide_eq_true aq4
     obtain ⟨ad108,e108,hx108_0⟩:=Kd.at_int HR0_1.out (rd (rd_L3 l0_2 x17_1) x24_2) p108 q108
     have hw108_0:=hx108_0
     cases e108
     try replace hx108_0:=(HB.out.cell (World.block_lt_of_cell? w _ hx108_0)).trans hx108_0
     replace p108:=eq_true p108
     replace q108:=eq_true q108
     have p109:0 ≤ (x17_1:Int):=of_decide_eq_true aq4
     have q109:x17_1 < (l0_1.length:Int):=of_decide_eq_true aq4
     obtain ⟨ad109,e109,hx109_0⟩:=Kd.at_int HR0_1.out x17_1 p109 q109
     have hw109_0:=hx109_0
     obtain rfl:ad108 = ad109:=(by injection e109)
     try replace hx109_0:=(HB.out.cell (World.block_lt_of_cell? w _ hx109_0)).trans hx109_0
     replace p109:=eq_true p109
     replace q109:=eq_true q109
     refine start_ (n:=12) (S:=fun w'=>w'.cell? ⟨gb101,0,none⟩ = some (.slice A0_0 l0_0.length c0_0) ∧ w'.cell? ⟨gb101,1,none⟩ = some (.slice (some ad108) l0_1.length c0_1) ∧ w'.cell? ⟨gb101,2,none⟩ = some (.slice (some ad106) l0_2.length c0_2) ∧ w'.cell? ⟨gb101,3,none⟩ = some (.slice A0_3 l0_3.length c0_3) ∧ w'.cell? (ad108.add ((rd (rd_L3 l0_2 x17_1) x24_2)).toNat) = some (.int .i64 (rd l0_1 (rd (rd_L3 l0_2 x17_1) x24_2))) ∧ w'.cell? (ad108.add (x17_1).toNat) = some (.int .i64 (rd l0_1 x17_1))) (ds:=[]) (bm 12 0) k_r rfl rfl ⟨bk BK101 0,bk BK101 1,bk BK101 2,bk BK101 3,((HB.out.cell (World.block_lt_of_cell? w _ hw108_0)).trans hw108_0),((HB.out.cell (World.block_lt_of_cell? w _ hw109_0)).trans hw109_0)⟩ (fun hHeld=>?_);refine with_tabW impl_reach_ways.tab9 impl_reach_ways.bits9 (fun HT_ HW_=>?_)
     generalize wr.drew = w27 at HO_3 BK101 HB hx108_0 hx109_0 hHeld ⊢
     refine py (i:=0) (N:=some 28) (bm 12 1) ?_
     refine py (i:=2) (N:=some 30) (bm 12 5) ?_
     refine py (i:=5) (N:=some 33) (bm 12 37) ?_
     refine py (i:=7) (N:=some 35) (bm 12 165) ?_
     refine tk6 (i:=1) (N:=some 29) (bm 12 167) hHeld ?_
     refine py (i:=3) (N:=some 31) (bm 12 175) ?_
     refine tk6 (i:=4) (N:=some 32) (bm 12 191) hHeld ?_
     refine tk6 (i:=6) (N:=some 34) (bm 12 255) hHeld ?_
     refine py (i:=8) (N:=some 36) (bm 12 511) ?_
     refine tk6 (i:=9) (N:=some 37) (bm 12 1023) hHeld ?_
     refine py (i:=10) (N:=some 38) (bm 12 2047) ?_
     refine py (i:=11) (N:=some 39) (bm 12 4095) ?_
     refine done_ (done_of HT_.out k_r) ?_
     try go_wp2
     replace HO_3:=am (Kd.R_drew HO_3.out)
     replace BK101:=am (blk_drew BK101.out)
     replace HB:=am (below_drew1 HB.out)
     have p110:0 ≤ ((rd (rd_L3 l0_2 x17_1) x24_2):Int):=of_decide_eq_true aq4
     have q110:(rd (rd_L3 l0_2 x17_1) x24_2) < (x3_2.length:Int):=of_decide_eq_true aq4
     obtain ⟨ad110,e110,hx110_0⟩:=Kd.at_int (Kd.R_reads' HO_3.out).2.2 (rd (rd_L3 l0_2 x17_1) x24_2) p110 q110
     obtain rfl:(⟨go5,0,none⟩:Addr) = ad110:=(by injection e110)
     (first | simp only [add_plain] at hx110_0 | simp only [add_at] at hx110_0 | simp only [Addr.add,Nat.zero_add] at hx110_0 | skip)
     replace p110:=eq_true p110
     replace q110:=eq_true q110
     have p111:0 ≤ (x17_1:Int):=of_decide_eq_true aq4
     have q111:x17_1 < (x3_2.length:Int):=of_decide_eq_true aq4
     obtain ⟨ad111,e111,hx111_0⟩:=Kd.at_int (Kd.R_reads' HO_3.out).2.2 x17_1 p111 q111
     obtain rfl:(⟨go5,0,none⟩:Addr) = ad111:=(by injection e111)
     (first | simp only [add_plain] at hx111_0 | simp only [add_at] at hx111_0 | simp only [Addr.add,Nat.zero_add] at hx111_0 | skip)
     replace p111:=eq_true p111
     replace q111:=eq_true q111
     have p26:0 ≤ ((rd (rd_L3 l0_2 x17_1) x24_2):Int):=of_decide_eq_true aq4
     have q26:((rd (rd_L3 l0_2 x17_1) x24_2):Int) < ((x3_2.length:Int):Int):=of_decide_eq_true aq4
     obtain ⟨hx26_0,hf26_0⟩:=Kd.R_celln 0 HO_3.out ((rd (rd_L3 l0_2 x17_1) x24_2):Int) p26 q26
     replace p26:=eq_true p26
     replace q26:=eq_true q26
     have HP29:=Kd.R_putn HO_3.out ((rd (rd_L3 l0_2 x17_1) x24_2):Int) (wrap64 ((rd x3_2 (rd (rd_L3 l0_2 x17_1) x24_2)) + (rd x3_2 x17_1)))
     rw [← Ny112.out] at HP29
     have HQ29:=am HP29
     clear HP29
     refine start_ (n:=11) (S:=fun w'=>w'.cell? ⟨go5,((rd (rd_L3 l0_2 x17_1) x24_2)).toNat,none⟩ = some (.int .i64 (rd x3_2 (rd (rd_L3 l0_2 x17_1) x24_2))) ∧ w'.cell? ⟨go5,(x17_1).toNat,none⟩ = some (.int .i64 (rd x3_2 x17_1))) (ds:=[10]) (bm 11 0) k_r rfl rfl ⟨hx110_0,hx111_0⟩ (fun hHeld=>?_);refine with_tabW impl_reach_ways.tab10 impl_reach_ways.bits10 (fun HT_ HW_=>?_)
     generalize w27.drew = w28 at HO_3 BK101 HB HQ29 hf26_0 hx110_0 hx111_0 hx26_0 hHeld ⊢
     refine py (i:=0) (N:=some 40) (bm 11 1) ?_
     refine py (i:=1) (N:=some 41) (bm 11 3) ?_
     refine py (i:=2) (N:=some 42) (bm 11 7) ?_
     refine py (i:=4) (N:=some 44) (bm 11 23) ?_
     refine py (i:=5) (N:=some 45) (bm 11 55) ?_
     refine py (i:=6) (N:=some 46) (bm 11 119) ?_
     refine tk2 (i:=3) (N:=some 43) (bm 11 127) hHeld ?_
     refine tk2 (i:=7) (N:=some 47) (bm 11 255) hHeld ?_
     refine py (i:=8) (N:=some 48) (bm 11 511) ?_
     refine py (i:=9) (N:=some 49) (bm 11 1023) ?_
     refine last_ (i:=10) (N:=none) (bm 11 2047) rfl rfl (one_of HT_.out k_r) d_c (fun K hK=>?_)
     refine skip_ (w1:=?_) (by rfl) rfl ?_ ?_
     rotate_left
     ·go_simp
      rfl
     refine hK.out _ _ ?_
     clear hK K
     refine done_ (done_of HT_.out k_r) ?_
     try go_wp2
     (try simp only [← hl3_2])
     go_roundg k2
     case measure=>have:=HK1.out;have:=HK2.out;omega
     case rel=>exact ⟨(y112),(wrap64 (x24_2 + 1)),aq7,H',⟨aq75⟩,⟨by (try simp only [hl3_1]);(try simp only [hl3_2]);(with_reducible repeat (first | apply Kd.R_alloc | apply Kd.R_drewN | apply Kd.R_drew));exact HQ29.out⟩,⟨by (try simp only [hl3_1]);(try simp only [hl3_2]);(with_reducible repeat (first | refine blk_drewN ?_ _ | refine blk_drew ?_ | refine blk_alloc ?_ _));refine blk_far ?_ (by have h_:=Kd.R_ne HO_3.out BK101.out d_c;intro e_;exact h_ (by rw [e_];rfl)) _;(with_reducible repeat (first | refine blk_drewN ?_ _ | refine blk_drew ?_ | refine blk_alloc ?_ _));exact BK101.out⟩,⟨by repeat (first | (with_reducible first | exact HB.out | apply below_alloc | apply pw_below_drewN | apply below_drew1 | refine below_set ?_ GB5.out | refine below_set ?_ GE101.out) | exact HB.out)⟩⟩
end Go.Proofs.YtldhkbiomingbaaGreatDoor.F

namespace Go.Proofs.YtldhkbiomingbaaGreatDoor.F
open Go.Proofs.YtldhkbiomingbaaGreatDoor
open Go.RowKit Go.YW.PrintWords Go.YW.PrintMore
theorem rd_casts {l:List Nat} {i:Nat} (h:i < l.length):rd (castsI l) (i:Int) = ((l.getD i 0:Nat):Int):=by
 unfold rd
 rw [Int.toNat_natCast,List.getD_eq_getElem?_getD,castsI_getD _ _ h,getD_lt h];rfl
theorem ways_l1 {F:List Nat} {X:List (List Int)} {x16:Int} {TT:List ByteArray} {NN:List (List Int)} {WW:List ByteArray} {i:Nat} {r:List Int} (hF:∀ a ∈ F,a ≤ 300) (hFl:F.length ≤ 300) (hi:i < F.length) (l:List Nat) (hl:∀ a ∈ l,a < F.length) (hll:l.length ≤ 4) :
  ∀ (d j:Nat) (Q:List Int),j + d = l.length → Q.length = F.length → Ev (fun k=>impl_reach_ways.l0 k ((l.drop j).foldl (addW F i) Q) X x16 (wrap64 ((i:Int) + 1)) TT (castsI F) NN WW) r →
  Ev (fun k=>impl_reach_ways.l1 k Q i X x16 i (castsI l) ((castsI l).length:Int) j TT (castsI F) NN WW) r
 | 0,j,Q,hj,hQ,h=>by
  rw [List.drop_of_length_le o_m] at h
  refine Ev.step (fun k=>?_) h
  rw [impl_reach_ways.l1,if_neg (by rw [castsI_length];omega)];rfl
 | d + 1,j,Q,hj,hQ,h=>by
  have hlt:j < l.length:=by omega
  obtain ⟨a,ha⟩:∃ a,l.getD j 0 = a:=⟨_,rfl⟩
  have haF:a < F.length:=by rw [← ha];exact hl _ (getD_mem hlt)
  have hdr:l.drop j = a :: l.drop (j + 1):=by rw [← ha,getD_lt hlt,← List.drop_eq_getElem_cons hlt]
  rw [hdr,List.foldl_cons] at h
  have ih:=ways_l1 hF hFl hi l hl hll d (j + 1) (addW F i Q a) o_m (by rw [addW_len];exact hQ) h
  have hrd:rd (castsI l) (j:Int) = ((a:Nat):Int):=by rw [rd_casts hlt,ha]
  have hra:=rd_casts haF
  have hri:=rd_casts hi
  have hb1:F.getD i 0 ≤ 300:=hF _ (getD_mem hi)
  have hw1:wrap64 (((F.getD i 0:Nat):Int) + 1) = ((F.getD i 0 + 1:Nat):Int):=w64t (n:=F.getD i 0 + 1) o_m
  have hw2:wrap64 ((j:Int) + 1) = ((j + 1:Nat):Int):=w64t (n:=j + 1) o_m
  refine Ev.step (fun k=>?_) ih
  rw [impl_reach_ways.l1]
  have hj1:(j:Int) < ((castsI l).length:Int):=by rw [castsI_length];omega
  have ha1:((a:Nat):Int) < ((castsI F).length:Int):=by rw [castsI_length];omega
  have hi1:(i:Int) < ((castsI F).length:Int):=by rw [castsI_length];omega
  have ha2:((a:Nat):Int) < (Q.length:Int):=by omega
  have hi2:((i:Nat):Int) < (Q.length:Int):=by omega
  have hra':rd Q ((a:Nat):Int) = Q.getD a 0:=by unfold rd;rw [Int.toNat_natCast]
  have hri':rd Q ((i:Nat):Int) = Q.getD i 0:=by unfold rd;rw [Int.toNat_natCast]
  rw [if_pos hj1,if_pos (Int.natCast_nonneg j),if_pos hj1]
  simp only [hrd,hra,hri,hra',hri',if_pos (Int.natCast_nonneg a),if_pos (Int.natCast_nonneg i),if_pos ha1,if_pos hi1,if_pos ha2,if_pos hi2,Int.toNat_natCast]
  by_cases e:F.getD a 0 = F.getD i 0 + 1
  rotate_left
  ·have e1:¬ ((F.getD a 0:Nat):Int) = wrap64 (((F.getD i 0:Nat):Int) + 1):=fun q=>e (Int.ofNat_inj.1 (q.trans hw1))
   have e2:addW F i Q a = Q:=by unfold addW;rw [if_neg e]
   rw [if_neg e1,e2,hw2]
  have e1:((F.getD a 0:Nat):Int) = wrap64 (((F.getD i 0:Nat):Int) + 1):=(congrArg (fun x:Nat=>(x:Int)) e).trans hw1.symm
  have e2:addW F i Q a = Q.set a (wrap64 (Q.getD a 0 + Q.getD i 0)):=by unfold addW;rw [if_pos e]
  rw [if_pos e1,e2,hw2]
theorem ways_l0 {F:List Nat} {N0:List (List Nat)} {TT:List ByteArray} {NN:List (List Int)} {WW:List ByteArray} (hF:∀ a ∈ F,a ≤ 300) (hFl:F.length ≤ 300) (hN:N0.length ≤ F.length) (hl:∀ l ∈ N0,l.length = 4 ∧ ∀ a ∈ l,a < F.length) :
  ∀ (d i:Nat) (Q:List Int),i + d = N0.length → Q.length = F.length → Ev (fun k=>impl_reach_ways.l0 k Q (N0.map castsI) ((N0.map castsI).length:Int) i TT (castsI F) NN WW) (waysN F i (N0.drop i) Q)
 | 0,i,Q,hi,hQ=>by
  rw [List.drop_of_length_le o_m]
  refine Ev.step (f:=fun _=>some Q) (fun k=>?_) (Ev.now _)
  rw [impl_reach_ways.l0,if_neg (by rw [List.length_map];omega)]
 | d + 1,i,Q,hi,hQ=>by
  have hlt:i < N0.length:=by omega
  have hmem:=getD_mem (d:=([]:List Nat)) hlt
  obtain ⟨h4,hla⟩:=hl _ hmem
  have hdr:N0.drop i = N0.getD i [] :: N0.drop (i + 1):=by rw [getD_lt hlt,← List.drop_eq_getElem_cons hlt]
  have hfl:∀ (l:List Nat) (Q:List Int),(l.foldl (addW F i) Q).length = Q.length:=fun l=>by
   induction l with
   | nil=>intro Q;rfl
   | cons a r ih=>intro Q;rw [List.foldl_cons,ih,addW_len]
  have ih:=ways_l0 (TT:=TT) (NN:=NN) (WW:=WW) hF hFl hN hl d (i + 1) ((N0.getD i []).foldl (addW F i) Q) o_m (by rw [hfl];exact hQ)
  rw [hdr]
  show Ev _ (waysN F (i + 1) (N0.drop (i + 1)) ((N0.getD i []).foldl (addW F i) Q))
  have hw:wrap64 ((i:Int) + 1) = ((i + 1:Nat):Int):=w64t (n:=i + 1) o_m
  have h1:=ways_l1 (X:=N0.map castsI) (x16:=((N0.map castsI).length:Int)) (TT:=TT) (NN:=NN) (WW:=WW) hF hFl (i:=i) o_m (N0.getD i []) hla o_m _ 0 Q (Nat.zero_add _) hQ (by rw [List.drop_zero,hw];exact ih)
  refine Ev.step (fun k=>?_) h1
  have hrd:rd_L3 (N0.map castsI) (i:Int) = castsI (N0.getD i []):=by
   unfold rd_L3
   rw [Int.toNat_natCast,List.getD_eq_getElem?_getD,List.getElem?_map,List.getElem?_eq_getElem hlt,getD_lt hlt];rfl
  rw [impl_reach_ways.l0,if_pos (by rw [List.length_map];omega),if_pos o_m,if_pos (by rw [List.length_map];omega),hrd];rfl
theorem ways_ev {w h:Nat} {cs:List Int} {s:RS} (o:RS.Ok2 w h cs s.T.length s) (hfar:∀ a ∈ s.F,a ≤ 300) (W:List ByteArray):Ev (fun k=>impl_reach_ways.f k (rT w h s) (castsI s.F) (s.N.map castsI) W) (waysL s):=by
 have hp:=o.ok.pos
 have hm:=o.ok.most
 unfold impl_reach_ways.f
 rw [rT_len]
 refine Ev.congr (fun k=>by rw [if_pos o_m,if_pos o_m,Option.bind_some,Int.toNat_natCast,if_pos (by rw [List.length_replicate];omega)]) ?_
 have:=ways_l0 (F:=s.F) (N0:=s.N) (TT:=rT w h s) (NN:=s.N.map castsI) (WW:=W) hfar (by rw [o.ok.lF];exact hm) (by rw [o.lN,o.ok.lF];exact Nat.le_refl _) (fun l hl=>by rw [o.ok.lF];exact o.next l hl) s.N.length 0 ((List.replicate s.T.length 0).set 0 1) (Nat.zero_add _) (by rw [List.length_set,List.length_replicate,o.ok.lF])
 rw [List.drop_zero] at this
 have e:(List.replicate s.T.length (0:Int)).set 0 1 = 1 :: zerosI (s.T.length - 1):=by
  obtain ⟨m,hm⟩:∃ m,s.T.length = m + 1:=⟨s.T.length - 1,by omega⟩
  rw [hm];rfl
 rw [e] at this
 unfold waysL
 exact Ev.congr (fun k=>by rw [show (0:Int).toNat = 0 from rfl,e];rfl) this
end Go.Proofs.YtldhkbiomingbaaGreatDoor.F

namespace Go.Proofs.YtldhkbiomingbaaGreatDoor.F
open Go.Proofs.YtldhkbiomingbaaGreatDoor
open Go.RowKit Go.YW.PrintWords Go.YW.PrintLast Go.YW.PrintMore
attribute [local go_sem] max2_int min2_int max_two min_two max_three min_three max_four min_four
mutual
def impl_reach_reaching.l0:Nat → List (List Bool) → Int → Int → List ByteArray → List Int → List (List Int) → List ByteArray → Option ((List (List Bool)))
 | 0,_,_,_,_,_,_,_=>none
 | k + 1,x3,x13,x14,x102000,x102001,x102002,x102003=>if x14 < x13 then (if 0 ≤ (x102000.length:Int) then (if ((x102000.length:Int):Int).toNat ≤ 281474976710656 then ((some (List.replicate ((x102000.length:Int):Int).toNat false:List Bool)).bind fun y105=>(if 0 ≤ x14 then (if x14 < (y105.length:Int) then (impl_reach_reaching.l1 k x3 (y105.set (x14:Int).toNat true) (([x14]:List Int)) 0 x13 x14 x102000 x102001 x102002 x102003) else (none)) else (none))) else (none)) else (none)) else (some x3)
def impl_reach_reaching.l1:Nat → List (List Bool) → List Bool → List Int → Int → Int → Int → List ByteArray → List Int → List (List Int) → List ByteArray → Option ((List (List Bool)))
 | 0,_,_,_,_,_,_,_,_,_,_=>none
 | k + 1,x3,x5,x6,x7,x13,x14,x102000,x102001,x102002,x102003=>if x7 < (x6.length:Int) then (if 0 ≤ x7 then (if 0 ≤ (rd x6 x7) then (if (rd x6 x7) < (x102002.length:Int) then (impl_reach_reaching.l2 k x3 x5 x6 x7 x13 x14 (rd_L3 x102002 (rd x6 x7)) ((rd_L3 x102002 (rd x6 x7)).length:Int) 0 x102000 x102001 x102002 x102003) else (none)) else (none)) else (none)) else (if x3.length < 5864062014805 then (impl_reach_reaching.l0 k (x3 ++ [x5]) x13 (wrap64 (x14 + 1)) x102000 x102001 x102002 x102003) else (none))
def impl_reach_reaching.l2:Nat → List (List Bool) → List Bool → List Int → Int → Int → Int → List Int → Int → Int → List ByteArray → List Int → List (List Int) → List ByteArray → Option ((List (List Bool)))
 | 0,_,_,_,_,_,_,_,_,_,_,_,_,_=>none
 | k + 1,x3,x5,x6,x7,x13,x14,x39,x40,x41,x102000,x102001,x102002,x102003=>if x41 < x40 then (if 0 ≤ x41 then (if x41 < (x39.length:Int) then (if 0 ≤ (rd x39 x41) then (if (rd x39 x41) < (x5.length:Int) then (if (rdOf false x5 (rd x39 x41) = true) then (impl_reach_reaching.l2 k x3 x5 x6 x7 x13 x14 x39 x40 (wrap64 (x41 + 1)) x102000 x102001 x102002 x102003) else (if x6.length < 17592186044416 then (impl_reach_reaching.l2 k x3 (x5.set ((rd x39 x41):Int).toNat true) (x6 ++ [rd x39 x41]) x7 x13 x14 x39 x40 (wrap64 (x41 + 1)) x102000 x102001 x102002 x102003) else (none))) else (none)) else (none)) else (none)) else (none)) else (impl_reach_reaching.l1 k x3 x5 x6 (wrap64 (x7 + 1)) x13 x14 x102000 x102001 x102002 x102003)
end
theorem impl_reach_reaching.mono_l:∀ k,(∀ y0 y1 y2 y3 y4 y5 y6,LeO (impl_reach_reaching.l0 k y0 y1 y2 y3 y4 y5 y6) (impl_reach_reaching.l0 (k + 1) y0 y1 y2 y3 y4 y5 y6)) ∧ (∀ y0 y1 y2 y3 y4 y5 y6 y7 y8 y9,LeO (impl_reach_reaching.l1 k y0 y1 y2 y3 y4 y5 y6 y7 y8 y9) (impl_reach_reaching.l1 (k + 1) y0 y1 y2 y3 y4 y5 y6 y7 y8 y9)) ∧ (∀ y0 y1 y2 y3 y4 y5 y6 y7 y8 y9 y10 y11 y12,LeO (impl_reach_reaching.l2 k y0 y1 y2 y3 y4 y5 y6 y7 y8 y9 y10 y11 y12) (impl_reach_reaching.l2 (k + 1) y0 y1 y2 y3 y4 y5 y6 y7 y8 y9 y10 y11 y12))
 | 0=>⟨fun _ _ _ _ _ _ _ r h=>by simp [impl_reach_reaching.l0] at h,fun _ _ _ _ _ _ _ _ _ _ r h=>by simp [impl_reach_reaching.l1] at h,fun _ _ _ _ _ _ _ _ _ _ _ _ _ r h=>by simp [impl_reach_reaching.l2] at h⟩
 | k + 1=>by
  obtain ⟨ih0,ih1,ih2⟩:=impl_reach_reaching.mono_l k
  refine ⟨?_,?_,?_⟩
  ·intro y0 y1 y2 y3 y4 y5 y6
   unfold impl_reach_reaching.l0
   exact mo
  ·intro y0 y1 y2 y3 y4 y5 y6 y7 y8 y9
   unfold impl_reach_reaching.l1
   exact mo
  ·intro y0 y1 y2 y3 y4 y5 y6 y7 y8 y9 y10 y11 y12
   unfold impl_reach_reaching.l2
   exact mo
end Go.Proofs.YtldhkbiomingbaaGreatDoor.F

namespace Go.Proofs.YtldhkbiomingbaaGreatDoor.F
open Go.Proofs.YtldhkbiomingbaaGreatDoor
open Go.RowKit Go.YW.PrintWords Go.YW.PrintMore
section
variable {N:List (List Nat)} {n i:Nat} {TT:List ByteArray} {FF:List Int} {WW:List ByteArray}
theorem casts_app (l:List Nat) (a:Nat):castsI l ++ [(a:Int)] = castsI (l ++ [a]):=by
 unfold castsI
 rw [List.map_append];rfl
end
end Go.Proofs.YtldhkbiomingbaaGreatDoor.F

namespace Go.Proofs.YtldhkbiomingbaaGreatDoor.F
open Go.RowKit Go.Proofs.YtldhkbiomingbaaGreatDoor Go.YW.PrintWords Go.YW.PrintMore

end Go.Proofs.YtldhkbiomingbaaGreatDoor.F

namespace Go.Proofs.YtldhkbiomingbaaGreatDoor
open Go

end Go.Proofs.YtldhkbiomingbaaGreatDoor

namespace Go.Proofs.YtldhkbiomingbaaGreatDoor.F
open Go.Proofs.YtldhkbiomingbaaGreatDoor
open Go.RowKit Go.YW.PrintWords Go.YW.PrintLast Go.YW.PrintMore
attribute [local go_sem] max2_int min2_int max_two min_two max_three min_three max_four min_four
def spec_l1OwnS.f (l0:List ByteArray):Option (List ByteArray):=(some (([]:List ByteArray):List ByteArray)).bind fun y101=>(if y101.length + l0.length < 8796093022208 then (some (y101 ++ l0)) else (none))
mutual
def spec_reSorted.l0:Nat → List ByteArray → List ByteArray → Int → Int → Option (List ByteArray)
 | 0,_,_,_,_=>none
 | k + 1,x3,x8,x9,x10=>if x10 < x9 then (if 0 ≤ x10 then (if x10 < (x8.length:Int) then (spec_reSorted.l1 k x3 (rdOf ByteArray.empty x8 x10) (x3.length:Int) x8 x9 x10) else (none)) else (none)) else (some x3)
def spec_reSorted.l1:Nat → List ByteArray → ByteArray → Int → List ByteArray → Int → Int → Option (List ByteArray)
 | 0,_,_,_,_,_,_=>none
 | k + 1,x3,x5,x6,x8,x9,x10=>if x6 > 0 then (if 0 ≤ (wrap64 (x6 - 1)) then (if (wrap64 (x6 - 1)) < (x3.length:Int) then (if (Op.bytesLess x5.toList ((rdOf ByteArray.empty x3 (wrap64 (x6 - 1))).toList)) = true then (spec_reSorted.l1 k x3 x5 (wrap64 (x6 - 1)) x8 x9 x10) else (if 0 ≤ x6 then (if x6 ≤ (x3.length:Int) then ((spec_l1OwnS.f (x3.take (x6:Int).toNat)).bind fun t107=>(if t107.length < 8796093022208 then ((some (t107 ++ [x5]:List ByteArray)).bind fun y110=>((some (x3.drop (x6:Int).toNat:List ByteArray)).bind fun y113=>(if y110.length + y113.length < 8796093022208 then (spec_reSorted.l0 k (y110 ++ y113) x8 x9 (wrap64 (x10 + 1))) else (none)))) else (none))) else (none)) else (none))) else (none)) else (none)) else (if 0 ≤ x6 then (if x6 ≤ (x3.length:Int) then ((spec_l1OwnS.f (x3.take (x6:Int).toNat)).bind fun t124=>(if t124.length < 8796093022208 then ((some (t124 ++ [x5]:List ByteArray)).bind fun y127=>((some (x3.drop (x6:Int).toNat:List ByteArray)).bind fun y130=>(if y127.length + y130.length < 8796093022208 then (spec_reSorted.l0 k (y127 ++ y130) x8 x9 (wrap64 (x10 + 1))) else (none)))) else (none))) else (none)) else (none))
end
theorem spec_reSorted.mono_l:∀ k,(∀ y0 y1 y2 y3,LeO (spec_reSorted.l0 k y0 y1 y2 y3) (spec_reSorted.l0 (k + 1) y0 y1 y2 y3)) ∧ (∀ y0 y1 y2 y3 y4 y5,LeO (spec_reSorted.l1 k y0 y1 y2 y3 y4 y5) (spec_reSorted.l1 (k + 1) y0 y1 y2 y3 y4 y5))
 | 0=>⟨fun _ _ _ _ r h=>by simp [spec_reSorted.l0] at h,fun _ _ _ _ _ _ r h=>by simp [spec_reSorted.l1] at h⟩
 | k + 1=>by
  obtain ⟨ih0,ih1⟩:=spec_reSorted.mono_l k
  refine ⟨?_,?_⟩
  ·intro y0 y1 y2 y3
   unfold spec_reSorted.l0
   exact mo
  ·intro y0 y1 y2 y3 y4 y5
   unfold spec_reSorted.l1
   exact mo
end Go.Proofs.YtldhkbiomingbaaGreatDoor.F

namespace Go.Proofs.YtldhkbiomingbaaGreatDoor.F
open Go.RowKit Go.Proofs.YtldhkbiomingbaaGreatDoor Go.YW.PrintWords Go.YW.PrintMore

end Go.Proofs.YtldhkbiomingbaaGreatDoor.F

namespace Go.Proofs.YtldhkbiomingbaaGreatDoor.F
open Go.Proofs.YtldhkbiomingbaaGreatDoor
open Go.RowKit Go.YW.PrintWords Go.YW.PrintLast Go.YW.PrintMore Go.Lib
attribute [local go_sem] max2_int min2_int

def againL (s:RS) (k:Nat) (l:List Nat):Bool:=l.any fun a=>(fromB s.N s.T.length a).getD k false
def lastI (s:RS) (i:Nat):List Nat:=(List.range i).filter fun k=>againL s k (s.N.getD k [])
def lastT (w h:Nat) (s:RS) (i:Nat):List ByteArray:=(lastI s i).map fun k=>textB (w,h,s.T.getD k [])
theorem at_rowK {α:Type} {d:Kd α} {t:TypeId} {w:World} {A:Option Addr} {n:Nat} {xs:List (List α)} (h:Kd.C (Kd.slice t d) w A n xs) (i:Nat) (h1:i < n) :
  ∃ b o A0 c0,A = some ⟨b,o,none⟩ ∧ w.cell? ⟨b,o + i,none⟩ = some (.slice A0 (xs.getD i []).length c0) ∧ (xs.getD i []).length ≤ c0 ∧ d.C w A0 (xs.getD i []).length (xs.getD i []):=by
 have one:∀ j:Nat,j < n → ∃ ad A0 c0,A = some ad ∧ w.cell? (ad.add j) = some (.slice A0 (xs.getD j []).length c0) ∧ (xs.getD j []).length ≤ c0 ∧ d.C w A0 (xs.getD j []).length (xs.getD j []):=fun j hj=>by
  obtain ⟨ad,c,e,_,hK,hc0⟩:=Kd.C_get h ([]:List α) (j:Int) o_m o_m
  have hc:∀ m u,c[m]? = some u → w.cell? (ad.add ((j:Int).toNat * 1 + m)) = some u:=hc0
  rw [Int.toNat_natCast] at hK hc
  obtain ⟨A0,c0,rfl,l0,g0⟩:=hK
  refine ⟨ad,A0,c0,e,?_,l0,g0⟩
  have:=hc 0 _ rfl
  rwa [show j * 1 + 0 = j by omega] at this
 obtain ⟨ad,_,_,e0,hq0,_⟩:=one 0 o_m
 obtain ⟨b,o,sp⟩:=ad
 have esp:sp = none:=by
  have:(⟨b,o,sp⟩:Addr).add 0 = ⟨b,o,sp⟩:=by unfold Addr.add;split <;> simp_all
  rw [this] at hq0
  exact spot_plain hq0
 subst esp
 obtain ⟨ad,A0,c0,e,hq,h3,h4⟩:=one i h1
 rw [e0] at e
 injection e with e
 subst e
 refine ⟨b,o,A0,c0,e0,?_,h3,h4⟩
 have e2:(⟨b,o,none⟩:Addr).add i = ⟨b,o + i,none⟩:=by unfold Addr.add;split <;> simp_all
 rw [e2] at hq
 exact hq
structure WalkI (w5 W:World) (b10 b11 b13 g n cap:Nat) (fv:Value) (GL:List Bool) (outs:List ByteArray):Prop where
 b5:Below w5.heap.size w5 W
 e11:W.heap[b11]? = some (.cells #[.slice (some ⟨g,0,none⟩) n cap] 81 (0,0))
 e13:W.heap[b13]? = some (.cells #[fv] 84 (0,0))
 eg:∃ cells,W.heap[g]? = some (.cells cells 4 (0,0)) ∧ ∀ a,a < n → cells[a]? = some (.bool (GL.getD a false))
 e10:∃ v,W.heap[b10]? = some (.cells #[v] 35 (0,0)) ∧ Kd.R Kd.string 9 W w5.heap.size (fun _=>True) v outs
section
variable {w5 W:World} {b10 b11 b13 g n cap:Nat} {fv:Value} {GL:List Bool} {outs:List ByteArray}
theorem WalkI.drew (h:WalkI w5 W b10 b11 b13 g n cap fv GL outs):WalkI w5 W.drew b10 b11 b13 g n cap fv GL outs:=by
 obtain ⟨h1,h2,h3,h4,v,h5,h6⟩:=h
 exact ⟨below_drew1 h1,h2,h3,h4,v,h5,Kd.R_drew h6⟩
theorem WalkI.good (h:WalkI w5 W b10 b11 b13 g n cap fv GL outs) {a:Nat} (ha:a < n):W.cell? ⟨g,a,none⟩ = some (.bool (GL.getD a false)):=by
 obtain ⟨cells,h1,h2⟩:=h.eg
 exact (blk_cell h1 a).trans (h2 a ha)
theorem WalkI.put (h:WalkI w5 W b10 b11 b13 g n cap fv GL outs) (hn:b10 ≠ b11 ∧ b10 ≠ b13 ∧ b10 ≠ g ∧ w5.heap.size ≤ b10) {v v1:Value} {outs2:List ByteArray} {w1:World} (hv:W.heap[b10]? = some (.cells #[v] 35 (0,0))) (hR:Kd.R Kd.string 9 W w5.heap.size (fun _=>True) v outs)
  (ho:Kd.R Kd.string 9 w1 w5.heap.size (fun _=>True) v1 outs2) (hb:Below w5.heap.size w5 w1) (hg:W.grownBy w1 v.ownBlock):WalkI w5 (w1.setCell ⟨b10,0,none⟩ v1) b10 b11 b13 g n cap fv GL outs2:=by
 obtain ⟨n1,n2,n3,n4⟩:=hn
 have g10:=blk_grown hv hg (Kd.R_ne hR hv d_c)
 have g11:=blk_grown h.e11 hg (Kd.R_ne hR h.e11 d_c)
 have g13:=blk_grown h.e13 hg (Kd.R_ne hR h.e13 d_c)
 obtain ⟨cells,hc,hcs⟩:=h.eg
 have gg:=blk_grown hc hg (Kd.R_ne hR hc d_c)
 refine ⟨hb.setCell (p:=⟨b10,0,none⟩) n4 _,blk_far g11 (p:=⟨b10,0,none⟩) (Ne.symm n1) _,blk_far g13 (p:=⟨b10,0,none⟩) (Ne.symm n2) _,⟨cells,blk_far gg (p:=⟨b10,0,none⟩) (Ne.symm n3) _,hcs⟩,v1,?_,R_off (p:=⟨b10,0,none⟩) rfl ho g10 d_c v1⟩
 exact (blk_set g10 0 v1).trans rfl
end
def dfP (s:RS) (gB:Nat → Bool) (m k:Nat) (u:List Nat) (d:Nat):List (List Nat):=(kidsR s gB k d).flatMap fun q=>dfsW (kidsN s gB) m q.2 (u ++ [q.1])
theorem dfP_succ (s:RS) (gB:Nat → Bool) (m k:Nat) (u:List Nat) (d:Nat):dfP s gB m k u (d + 1) = if ((s.F.getD ((s.N.getD k []).getD d 0) 0 == s.F.getD k 0 + 1) && gB ((s.N.getD k []).getD d 0)) = true then dfP s gB m k u d ++ dfsW (kidsN s gB) m ((s.N.getD k []).getD d 0) (u ++ [d]) else dfP s gB m k u d:=by
 unfold dfP
 rw [kidsR_succ]
 split
 ·rw [List.flatMap_append];simp
 ·rfl
theorem dfP_len (s:RS) (gB:Nat → Bool) (m k:Nat) (u:List Nat) {d:Nat} (hd:d ≤ 4):(dfP s gB m k u d).length ≤ (dfsW (kidsN s gB) (m + 1) k u).length:=by
 obtain ⟨t,ht⟩:=kidsR_pre s gB k hd
 unfold dfP
 show _ ≤ ((kidsN s gB k).flatMap fun q=>dfsW (kidsN s gB) m q.2 (u ++ [q.1])).length
 rw [ht,List.flatMap_append,List.length_append]
 omega
theorem walk_calls {gw gh:Nat} {cs:List Int} {s:RS} (o2:RS.Ok2 gw gh cs s.T.length s) (gB:Nat → Bool) (GL:List Bool) (hGL:∀ a,GL.getD a false = gB a) (i0 far:Nat) (hi0:i0 < s.T.length) (hfar:s.F.getD i0 0 = far) (hf40:far ≤ 40)
  (w5:World) (b6 b7 b10 b11 b13 g cap:Nat) (A0 A1 A2 A3:Option Addr) (l0 l3 c0 c1 c2 c3:Nat) (FF:List Int) (NN:List (List Int)) (hFF:castsI s.F = FF) (hNN:s.N.map castsI = NN)
  (hX6:w5.heap[b6]? = some (.cells #[.slice A0 l0 c0,.slice A1 FF.length c1,.slice A2 NN.length c2,.slice A3 l3 c3] 59 (0,0))) (hX7:w5.heap[b7]? = some (.cells #[.int .i64 (i0:Int)] 3 (0,0)))
  (hCF:(Kd.int .i64).C w5 A1 FF.length FF) (hCN:Kd.C (Kd.slice 3 (Kd.int .i64)) w5 A2 NN.length NN) (hne:b10 ≠ b11 ∧ b10 ≠ b13 ∧ b10 ≠ g ∧ w5.heap.size ≤ b10)
  (fv:Value) (hfv:fv = .func (.func 61) #[] #[.pointer (some ⟨b6,0,none⟩),.pointer (some ⟨b7,0,none⟩),.pointer (some ⟨b10,0,none⟩),.pointer (some ⟨b11,0,none⟩),.pointer (some ⟨b13,0,none⟩)]) :
  ∀ (m k:Nat) (u:List Nat) (outs:List ByteArray) (W:World),k < s.T.length → u.length + m = far → WalkI w5 W b10 b11 b13 g s.T.length cap fv GL outs → outs.length + (dfsW (kidsN s gB) m k u).length ≤ 2199023255552 →
  Calls Tryz.prog 61 #[.int .i64 (k:Int),.string (txtW u),.pointer (some ⟨b6,0,none⟩),.pointer (some ⟨b7,0,none⟩),.pointer (some ⟨b10,0,none⟩),.pointer (some ⟨b11,0,none⟩),.pointer (some ⟨b13,0,none⟩)] W fun e W'=>e = .returned (.tuple #[]) ∧ WalkI w5 W' b10 b11 b13 g s.T.length cap fv GL (outs ++ (dfsW (kidsN s gB) m k u).map txtW):=by
 have HO2:=am o2
 have HGL:=am hGL
 have HM:=am o2.ok.most
 have HI0:=am hi0
 have HFAR:=am hfar
 have HF40:=am hf40
 have HLF:=am (show FF.length = s.T.length by rw [← hFF,castsI_length,o2.ok.lF])
 have HLN:=am (show NN.length = s.T.length by rw [← hNN,List.length_map,o2.lN])
 have HFF:=am hFF
 have HNN:=am hNN
 have X6:=am hX6
 have X7:=am hX7
 have CN:=am hCN
 have HNE:=am hne
 have HFV:=am hfv
 obtain ⟨bF,oF,rfl,hbF,hcF⟩:=C_place hCF (by rw [HLF.out];omega)
 have HXF:=am (fun a (ha:a < s.T.length)=>hcF a ((s.F.getD a 0:Nat):Int) (by rw [← hFF];unfold castsI;rw [List.getElem?_map,List.getElem?_eq_getElem (by rw [o2.ok.lF];exact ha),getD_lt (by rw [o2.ok.lF];exact ha)];rfl):∀ a,a < s.T.length → w5.cell? ⟨bF,oF + a,none⟩ = some (.int .i64 ((s.F.getD a 0:Nat):Int)))
 have HBF:=am hbF
 have HEN:=am (enters_of Tryz.func61 k_r rfl:∀ args w,(callFunc 61 args).run Tryz.prog w = .ok (.enter 61 args) w)
 clear o2 hGL hi0 hfar hf40 hFF hNN hX6 hX7 hCF hCN hne hfv hbF hcF
 intro m
 induction m with
 | zero =>
  intro k u outs W hk hu hI hlen
  have HI:=am hI
  have HIB:=am hI.b5
  obtain ⟨v10,h10,hR⟩:=hI.e10
  obtain ⟨A10,c10,rfl⟩:=Kd.R_slice hR
  have H10:=am h10
  have HR:=am hR
  have y1:W.cell? ⟨b6,1,none⟩ = some (.slice (some ⟨bF,oF,none⟩) FF.length c1):=(blk_cell (blk_below X6.out HIB.out) 1).trans rfl
  have y7:W.cell? ⟨b7,0,none⟩ = some (.int .i64 (i0:Int)):=(blk_cell (blk_below X7.out HIB.out) 0).trans rfl
  have xF:=(HIB.out.cell (p:=⟨bF,oF + i0,none⟩) HBF.out).trans (HXF.out i0 HI0.out)
  rw [HFAR.out] at xF
  have y10:W.cell? ⟨b10,0,none⟩ = some (.slice A10 outs.length c10):=(blk_cell h10 0).trans rfl
  have hi1:(i0:Int) < (FF.length:Int):=by rw [HLF.out];have:=HI0.out;omega
  have hi2:(0:Int) ≤ (i0:Int):=by omega
  have hsz:(txtW u).size = far:=by rw [txtW_size];omega
  obtain ⟨wt,hwt⟩:∃ x,txtW u = x:=⟨_,rfl⟩
  rw [hwt] at hsz ⊢
  have hbe:(((wt.size:Nat):Int) == ((far:Nat):Int)) = true:=by rw [hsz];exact beq_self_eq_true _
  have HAL:=am (show (outs.length + 1) * 16 ≤ 140737488355328 by have h1:outs.length + 1 ≤ 2199023255552:=hlen;omega)
  have HDF:=am (show (dfsW (kidsN s gB) 0 k u).map txtW = [wt] by rw [← hwt];rfl)
  rw [HDF.out]
  clear hk hu hI hlen h10 hR hwt hsz
  go_enter Tryz.func61,Tryz.ntmps61
  go_wp2_with (first
   | ((with_reducible refine gate_builtin (b:=.append) (xs:=#[.tmp 19,.tmp 21]) rfl ?_);at_builtin;refine Kd.R_append Kd.string (w0:=w5) w5.heap.size rfl (.tmp 19) (.tmp 21) 35 9 (.string ByteArray.empty) 16 rfl Tryz.underlying35 info9 rfl d_c o_m (.slice A10 outs.length c10) outs wt [.string wt] (fun _=>True) (fun _=>False) rfl rfl ?aP (fun _ hk=>hk.elim) ?aF ?aO ?aB ?aS ?aL ?_;(case aP=>exact rfl);(case aB=>exact HIB.out);(case aF=>exact (fun _ _=>trivial));(case aO=>exact HR.out);(case aS=>exact HIB.out.size);(case aL=>exact HAL.out);intro v1 w1 ho1 hb1 hg1 hat1;obtain ⟨A11,c11,rfl⟩:=Kd.R_slice ho1;have HI2:=am (HI.out.put HNE.out H10.out HR.out ho1 hb1 hg1);have hg10:=blk_grown H10.out hg1 (Kd.R_ne HR.out H10.out d_c);have z10:w1.cell? ⟨b10,0,none⟩ = some (.slice A10 outs.length c10):=(blk_cell hg10 0).trans rfl;have f10:=blk_frozen hg10 0;clear ho1 hb1 hg1 hat1 hg10 y1 y7 xF y10)
   | ((with_reducible refine gate_store (t:=35) (p:=4) rfl ?_);refine store_event (t:=35) (p:=4) (v:=?vo) (w1:=(w1.setCell ⟨b10,0,none⟩ (.slice A11 (outs ++ [wt]).length c11))) ?hg ?ho ?hn ?hr ?_;(case ho=>rfl);(case hg=>rfl);(case hn=>rfl);(case hr=>first | (go_simp;done) | (go_simp;rfl));intro wz hwz;rw [← hwz] at HI2;clear hwz z10 f10))
  (try simp only [Exit.inBlock,Exit.then]);refine bodyPost_ret (results_none rfl _ _ _) rfl ?_
  exact ⟨rfl,HI2.out⟩
 | succ m ih =>
  intro k u outs W hk hu hI hlen
  have IH:=am ih
  have HI:=am hI
  have HIB:=am hI.b5
  have HK:=am hk
  have HU:=am hu
  have HLEN:=am hlen
  have y1:W.cell? ⟨b6,1,none⟩ = some (.slice (some ⟨bF,oF,none⟩) FF.length c1):=(blk_cell (blk_below X6.out HIB.out) 1).trans rfl
  have y2:W.cell? ⟨b6,2,none⟩ = some (.slice A2 NN.length c2):=(blk_cell (blk_below X6.out HIB.out) 2).trans rfl
  have y7:W.cell? ⟨b7,0,none⟩ = some (.int .i64 (i0:Int)):=(blk_cell (blk_below X7.out HIB.out) 0).trans rfl
  have xF:=(HIB.out.cell (p:=⟨bF,oF + i0,none⟩) HBF.out).trans (HXF.out i0 HI0.out)
  rw [HFAR.out] at xF
  have hi1:(i0:Int) < (FF.length:Int):=by rw [HLF.out];have:=HI0.out;omega
  have hi2:(0:Int) ≤ (i0:Int):=by omega
  have hk0:(0:Int) ≤ (k:Int):=by omega
  have hkN:(k:Int) < (NN.length:Int):=by rw [HLN.out];omega
  have hkF:(k:Int) < (FF.length:Int):=by rw [HLF.out];omega
  have hsz:(txtW u).size < far:=by rw [txtW_size];omega
  obtain ⟨wt,hwt⟩:∃ x,txtW u = x:=⟨_,rfl⟩
  rw [hwt] at hsz ⊢
  have hbe:(((wt.size:Nat):Int) == ((far:Nat):Int)) = false:=by rw [beq_eq_false_iff_ne];omega
  have HWT:=am hwt
  have HWS:=am hsz
  obtain ⟨bN,oN,An,cn,rfl,hzN,_,hCn⟩:=at_rowK CN.out k (by rw [HLN.out];exact hk)
  have hkL:k < s.N.length:=by rw [HO2.out.lN];exact hk
  have hNe:NN.getD k [] = castsI (s.N.getD k []):=by rw [← HNN.out,List.getD_eq_getElem?_getD,List.getElem?_map,List.getElem?_eq_getElem hkL,getD_lt hkL];rfl
  obtain ⟨hn4,hnk⟩:=HO2.out.next _ (getD_mem (d:=([]:List Nat)) hkL)
  obtain ⟨l,hl⟩:∃ l,s.N.getD k [] = l:=⟨_,rfl⟩
  rw [hl] at hn4 hnk hNe
  rw [hNe,castsI_length] at hzN hCn
  have HNK:=am hnk
  have HL4:=am hn4
  have HLL:=am hl
  have hl4:(l.length:Int) = 4:=by omega
  obtain ⟨bx,ox,rfl,hbx,hcx⟩:=C_place hCn (show 0 < l.length by omega)
  have HX:=am (fun d (hd:d < l.length)=>hcx d ((l.getD d 0:Nat):Int) (by unfold castsI;rw [List.getElem?_map,List.getElem?_eq_getElem hd,← getD_lt (d:=0) hd];rfl):∀ d,d < l.length → w5.cell? ⟨bx,ox + d,none⟩ = some (.int .i64 ((l.getD d 0:Nat):Int)))
  have HBX:=am hbx
  have xN:=(HIB.out.cell (World.block_lt_of_cell? w5 _ hzN)).trans hzN
  clear hk hu hI hlen ih hwt hsz hzN hCn hkL hNe hn4 hnk hl hbx hcx
  go_enter Tryz.func61,Tryz.ntmps61
  go_wp2
  go_loopw [29] (fun v29 wr=>∃ d:Nat,d ≤ 4 ∧ v29 = .int .i64 d ∧ Aside0 (WalkI w5 wr b10 b11 b13 g s.T.length cap fv GL (outs ++ (dfP s gB m k u d).map txtW))) (fun v29 _=>4 - (intOf v29).toNat)
  case atStart=>exact ⟨0,Nat.zero_le _,rfl,⟨by rw [show dfP s gB m k u 0 = [] from rfl,List.map_nil,List.append_nil];exact HI.out⟩⟩
  case round =>
   clear y1 y2 y7 xF xN HI HIB
   obtain ⟨d,hd,rfl,HI⟩:=hrel
   have HIB:=am HI.out.b5
   by_cases hlt:d < 4
   rotate_left
   ·have hge:¬ (d:Int) < (l.length:Int):=by rw [hl4];omega
    obtain rfl:d = 4:=by omega
    have HE:=am (show dfP s gB m k u 4 = dfsW (kidsN s gB) (m + 1) k u from rfl)
    clear hd hlt
    go_wp2
    go_end0
    exact ⟨rfl,by rw [← HE.out];exact HI.out⟩
   have hdI:(d:Int) < (l.length:Int):=by rw [hl4];omega
   have hdl:d < l.length:=by have:=HL4.out;omega
   have hw3:IntKind.i64.wrap ((d:Int) + 1) = ((d + 1:Nat):Int):=by rw [IntKind.wrap_i64];omega
   obtain ⟨a,hae⟩:∃ a,l.getD d 0 = a:=⟨_,rfl⟩
   have han:a < s.T.length:=HNK.out a (by rw [← hae];exact getD_mem hdl)
   have hX:=HX.out d hdl
   rw [hae] at hX
   have xa:=(HIB.out.cell (p:=⟨bx,ox + d,none⟩) HBX.out).trans hX
   have haF:(a:Int) < (FF.length:Int):=by rw [HLF.out];omega
   have haG:(a:Int) < (s.T.length:Int):=by omega
   have ha0:(0:Int) ≤ (a:Int):=by omega
   have y1:wr.cell? ⟨b6,1,none⟩ = some (.slice (some ⟨bF,oF,none⟩) FF.length c1):=(blk_cell (blk_below X6.out HIB.out) 1).trans rfl
   have xFa:=(HIB.out.cell (p:=⟨bF,oF + a,none⟩) HBF.out).trans (HXF.out a han)
   have xFk:=(HIB.out.cell (p:=⟨bF,oF + k,none⟩) HBF.out).trans (HXF.out k HK.out)
   have y11:wr.cell? ⟨b11,0,none⟩ = some (.slice (some ⟨g,0,none⟩) s.T.length cap):=(blk_cell HI.out.e11 0).trans rfl
   have xg:=HI.out.good han
   have HDP:=am (dfP_succ s gB m k u d)
   rw [HLL.out,hae,← HGL.out a] at HDP
   have hfk:s.F.getD k 0 ≤ 300:=by have h1:=far_le HO2.out.ok HK.out;have:=HM.out;have:=HK.out;omega
   obtain ⟨fa,hfa⟩:∃ x,s.F.getD a 0 = x:=⟨_,rfl⟩
   obtain ⟨fk,hfke⟩:∃ x,s.F.getD k 0 = x:=⟨_,rfl⟩
   obtain ⟨ga,hga⟩:∃ x,GL.getD a false = x:=⟨_,rfl⟩
   rw [hfa] at xFa HDP
   rw [hfke] at xFk HDP hfk
   rw [hga] at xg HDP
   have HWF:=am (show wrap64 ((fk:Int) + 1) = ((fk + 1:Nat):Int) by rw [← i64_w,IntKind.wrap_i64];omega)
   have HAN:=am han
   have HD4:=am hlt
   have HIr:=am HI.out.drew
   clear hd hlt hdl hae han hX hfa hfke hga hfk
   by_cases hfe:fa = fk + 1
   rotate_left
   ·have hfb:(((fa:Nat):Int) == ((fk + 1:Nat):Int)) = false:=by rw [beq_eq_false_iff_ne];omega
    have hfb2:(((fa:Nat):Int) == (fk:Int) + 1) = false:=hfb
    have HPX:=am (show dfP s gB m k u (d + 1) = dfP s gB m k u d by rw [HDP.out,if_neg (by rw [beq_eq_false_iff_ne.2 hfe];simp)])
    go_wp2
    have hwf:=HWF.out
    refine start_ (n:=18) (S:=fun w'=>w'.cell? ⟨b6,1,none⟩ = some (.slice (some ⟨bF,oF,none⟩) FF.length c1) ∧ w'.cell? ⟨bF,oF + a,none⟩ = some (.int .i64 (fa:Int)) ∧ w'.cell? ⟨bF,oF + k,none⟩ = some (.int .i64 (fk:Int))) (ds:=[]) (bm 18 0) k_r rfl rfl ⟨y1,xFa,xFk⟩ (fun hHeld=>?_)
    refine take_ (i:=0) (N:=some 34) (v:=?_) (a':=?_) (bm 18 1) rfl rfl k_r (fun _ _ _ h=>h) (Or.inl ⟨by rfl,?_⟩) hHeld ?_ ?_
    rotate_left
    ·rintro w' ⟨s_0,s_1,s_2⟩
     go_simp
     try with_reducible rfl
    rotate_left
    ·simp only [Act.put,ac_]
     rfl
    refine take_ (i:=1) (N:=some 35) (v:=?_) (a':=?_) (bm 18 3) rfl rfl k_r (fun _ _ _ h=>h) (Or.inl ⟨by rfl,?_⟩) hHeld ?_ ?_
    rotate_left
    ·rintro w' ⟨s_0,s_1,s_2⟩
     go_simp
     try with_reducible rfl
    rotate_left
    ·simp only [Act.put,ac_]
     rfl
    refine take_ (i:=2) (N:=some 36) (v:=?_) (a':=?_) (bm 18 7) rfl rfl k_r (fun _ _ _ h=>h) (Or.inl ⟨by rfl,?_⟩) hHeld ?_ ?_
    rotate_left
    ·rintro w' ⟨s_0,s_1,s_2⟩
     go_simp
     try with_reducible rfl
    rotate_left
    ·simp only [Act.put,ac_]
     rfl
    refine take_ (i:=3) (N:=some 37) (v:=?_) (a':=?_) (bm 18 15) rfl rfl k_r (fun _ _ _ h=>h) (Or.inl ⟨by rfl,?_⟩) hHeld ?_ ?_
    rotate_left
    ·rintro w' ⟨s_0,s_1,s_2⟩
     go_simp
     try with_reducible rfl
    rotate_left
    ·simp only [Act.put,ac_]
     rfl
    refine take_ (i:=4) (N:=some 38) (v:=?_) (a':=?_) (bm 18 31) rfl rfl k_r (fun _ _ _ h=>h) (Or.inl ⟨by rfl,?_⟩) hHeld ?_ ?_
    rotate_left
    ·rintro w' ⟨s_0,s_1,s_2⟩
     go_simp
     try with_reducible rfl
    rotate_left
    ·simp only [Act.put,ac_]
     rfl
    refine take_ (i:=5) (N:=some 39) (v:=?_) (a':=?_) (bm 18 63) rfl rfl k_r (fun _ _ _ h=>h) (Or.inl ⟨by rfl,?_⟩) hHeld ?_ ?_
    rotate_left
    ·rintro w' ⟨s_0,s_1,s_2⟩
     go_simp
     try with_reducible rfl
    rotate_left
    ·simp only [Act.put,ac_]
     rfl
    refine take_ (i:=6) (N:=some 40) (v:=?_) (a':=?_) (bm 18 127) rfl rfl k_r (fun _ _ _ h=>h) (Or.inl ⟨by rfl,?_⟩) hHeld ?_ ?_
    rotate_left
    ·rintro w' ⟨s_0,s_1,s_2⟩
     go_simp
     try with_reducible rfl
    rotate_left
    ·simp only [Act.put,ac_]
     rfl
    refine take_ (i:=7) (N:=some 41) (v:=?_) (a':=?_) (bm 18 255) rfl rfl k_r (fun _ _ _ h=>h) (Or.inl ⟨by rfl,?_⟩) hHeld ?_ ?_
    rotate_left
    ·rintro w' ⟨s_0,s_1,s_2⟩
     go_simp
     try with_reducible rfl
    rotate_left
    ·simp only [Act.put,ac_]
     rfl
    refine take_ (i:=8) (N:=some 42) (v:=?_) (a':=?_) (bm 18 511) rfl rfl k_r (fun _ _ _ h=>h) (Or.inl ⟨by rfl,?_⟩) hHeld ?_ ?_
    rotate_left
    ·rintro w' ⟨s_0,s_1,s_2⟩
     go_simp
     try with_reducible rfl
    rotate_left
    ·simp only [Act.put,ac_]
     rfl
    refine take_ (i:=9) (N:=some 43) (v:=?_) (a':=?_) (bm 18 1023) rfl rfl k_r (fun _ _ _ h=>h) (Or.inl ⟨by rfl,?_⟩) hHeld ?_ ?_
    rotate_left
    ·rintro w' ⟨s_0,s_1,s_2⟩
     go_simp
     try with_reducible rfl
    rotate_left
    ·simp only [Act.put,ac_]
     rfl
    refine take_ (i:=10) (N:=some 44) (v:=?_) (a':=?_) (bm 18 2047) rfl rfl k_r (fun _ _ _ h=>h) (Or.inl ⟨by rfl,?_⟩) hHeld ?_ ?_
    rotate_left
    ·rintro w' ⟨s_0,s_1,s_2⟩
     go_simp
     try with_reducible rfl
    rotate_left
    ·simp only [Act.put,ac_]
     rfl
    refine take_ (i:=11) (N:=some 45) (v:=?_) (a':=?_) (bm 18 4095) rfl rfl k_r (fun _ _ _ h=>h) (Or.inl ⟨by rfl,?_⟩) hHeld ?_ ?_
    rotate_left
    ·rintro w' ⟨s_0,s_1,s_2⟩
     go_simp
     try with_reducible rfl
    rotate_left
    ·simp only [Act.put,ac_]
     rfl
    refine take_ (i:=12) (N:=some 46) (v:=?_) (a':=?_) (bm 18 8191) rfl rfl k_r (fun _ _ _ h=>h) (Or.inl ⟨by rfl,?_⟩) hHeld ?_ ?_
    rotate_left
    ·rintro w' ⟨s_0,s_1,s_2⟩
     go_simp
     try with_reducible rfl
    rotate_left
    ·simp only [Act.put,ac_]
     rfl
    refine take_ (i:=13) (N:=some 47) (v:=undef) (a':=?_) (bm 18 16383) rfl rfl k_r (fun _ _ _ h=>h) (Or.inr ⟨by rfl,rfl⟩) hHeld ?_ ?_
    rotate_left
    ·simp only [Act.put,ac_]
     rfl
    refine take_ (i:=14) (N:=some 48) (v:=undef) (a':=?_) (bm 18 32767) rfl rfl k_r (fun _ _ _ h=>h) (Or.inr ⟨by rfl,rfl⟩) hHeld ?_ ?_
    rotate_left
    ·simp only [Act.put,ac_]
     rfl
    refine take_ (i:=15) (N:=some 49) (v:=undef) (a':=?_) (bm 18 65535) rfl rfl k_r (fun _ _ _ h=>h) (Or.inr ⟨by rfl,rfl⟩) hHeld ?_ ?_
    rotate_left
    ·simp only [Act.put,ac_]
     rfl
    refine take_ (i:=16) (N:=some 50) (v:=undef) (a':=?_) (bm 18 131071) rfl rfl k_r (fun _ _ _ h=>h) (Or.inr ⟨by rfl,rfl⟩) hHeld ?_ ?_
    rotate_left
    ·simp only [Act.put,ac_]
     rfl
    refine take_ (i:=17) (N:=some 51) (v:=?_) (a':=?_) (bm 18 262143) rfl rfl k_r (fun _ _ _ h=>h) (Or.inl ⟨by rfl,?_⟩) hHeld ?_ ?_
    rotate_left
    ·rintro w' ⟨s_0,s_1,s_2⟩
     go_simp
     try with_reducible rfl
    rotate_left
    ·simp only [Act.put,ac_]
     rfl
    refine done_ k_r ?_
    clear hHeld y1 xFa xFk y11 xg xa hwf
    generalize wr.drew = wd at HIr ⊢
    go_wp2
    go_roundw
    case rel=>exact ⟨d + 1,HD4.out,by first | rfl | simp,⟨by rw [HPX.out];exact HIr.out⟩⟩
    case measure=>have:=HD4.out;simp [intOf];omega
   have hfb:(((fa:Nat):Int) == ((fk + 1:Nat):Int)) = true:=by rw [hfe];exact beq_self_eq_true _
   have hfb2:(((fa:Nat):Int) == (fk:Int) + 1) = true:=hfb
   cases ga with
   | true =>
    have HPX:=am (show dfP s gB m k u (d + 1) = dfP s gB m k u d ++ dfsW (kidsN s gB) m a (u ++ [d]) by rw [HDP.out,if_pos (by rw [hfe,beq_self_eq_true];rfl)])
    have HLB:=am (show (outs ++ (dfP s gB m k u d).map txtW).length + (dfsW (kidsN s gB) m a (u ++ [d])).length ≤ 2199023255552 by
     have h1:=dfP_len s gB m k u (d:=d + 1) (by have:=HD4.out;omega)
     rw [HPX.out,List.length_append] at h1
     rw [List.length_append,List.length_map]
     have:=HLEN.out
     omega)
    go_wp2
    have hwf:=HWF.out
    refine start_ (n:=18) (S:=fun w'=>w'.cell? ⟨b6,1,none⟩ = some (.slice (some ⟨bF,oF,none⟩) FF.length c1) ∧ w'.cell? ⟨bF,oF + a,none⟩ = some (.int .i64 (fa:Int)) ∧ w'.cell? ⟨bF,oF + k,none⟩ = some (.int .i64 (fk:Int)) ∧ w'.cell? ⟨b11,0,none⟩ = some (.slice (some ⟨g,0,none⟩) s.T.length cap) ∧ w'.cell? ⟨g,a,none⟩ = some (.bool true)) (ds:=[]) (bm 18 0) k_r rfl rfl ⟨y1,xFa,xFk,y11,xg⟩ (fun hHeld=>?_)
    refine take_ (i:=0) (N:=some 34) (v:=?_) (a':=?_) (bm 18 1) rfl rfl k_r (fun _ _ _ h=>h) (Or.inl ⟨by rfl,?_⟩) hHeld ?_ ?_
    rotate_left
    ·rintro w' ⟨s_0,s_1,s_2,s_3,s_4⟩
     go_simp
     try with_reducible rfl
    rotate_left
    ·simp only [Act.put,ac_]
     rfl
    refine take_ (i:=1) (N:=some 35) (v:=?_) (a':=?_) (bm 18 3) rfl rfl k_r (fun _ _ _ h=>h) (Or.inl ⟨by rfl,?_⟩) hHeld ?_ ?_
    rotate_left
    ·rintro w' ⟨s_0,s_1,s_2,s_3,s_4⟩
     go_simp
     try with_reducible rfl
    rotate_left
    ·simp only [Act.put,ac_]
     rfl
    refine take_ (i:=2) (N:=some 36) (v:=?_) (a':=?_) (bm 18 7) rfl rfl k_r (fun _ _ _ h=>h) (Or.inl ⟨by rfl,?_⟩) hHeld ?_ ?_
    rotate_left
    ·rintro w' ⟨s_0,s_1,s_2,s_3,s_4⟩
     go_simp
     try with_reducible rfl
    rotate_left
    ·simp only [Act.put,ac_]
     rfl
    refine take_ (i:=3) (N:=some 37) (v:=?_) (a':=?_) (bm 18 15) rfl rfl k_r (fun _ _ _ h=>h) (Or.inl ⟨by rfl,?_⟩) hHeld ?_ ?_
    rotate_left
    ·rintro w' ⟨s_0,s_1,s_2,s_3,s_4⟩
     go_simp
     try with_reducible rfl
    rotate_left
    ·simp only [Act.put,ac_]
     rfl
    refine take_ (i:=4) (N:=some 38) (v:=?_) (a':=?_) (bm 18 31) rfl rfl k_r (fun _ _ _ h=>h) (Or.inl ⟨by rfl,?_⟩) hHeld ?_ ?_
    rotate_left
    ·rintro w' ⟨s_0,s_1,s_2,s_3,s_4⟩
     go_simp
     try with_reducible rfl
    rotate_left
    ·simp only [Act.put,ac_]
     rfl
    refine take_ (i:=5) (N:=some 39) (v:=?_) (a':=?_) (bm 18 63) rfl rfl k_r (fun _ _ _ h=>h) (Or.inl ⟨by rfl,?_⟩) hHeld ?_ ?_
    rotate_left
    ·rintro w' ⟨s_0,s_1,s_2,s_3,s_4⟩
     go_simp
     try with_reducible rfl
    rotate_left
    ·simp only [Act.put,ac_]
     rfl
    refine take_ (i:=6) (N:=some 40) (v:=?_) (a':=?_) (bm 18 127) rfl rfl k_r (fun _ _ _ h=>h) (Or.inl ⟨by rfl,?_⟩) hHeld ?_ ?_
    rotate_left
    ·rintro w' ⟨s_0,s_1,s_2,s_3,s_4⟩
     go_simp
     try with_reducible rfl
    rotate_left
    ·simp only [Act.put,ac_]
     rfl
    refine take_ (i:=7) (N:=some 41) (v:=?_) (a':=?_) (bm 18 255) rfl rfl k_r (fun _ _ _ h=>h) (Or.inl ⟨by rfl,?_⟩) hHeld ?_ ?_
    rotate_left
    ·rintro w' ⟨s_0,s_1,s_2,s_3,s_4⟩
     go_simp
     try with_reducible rfl
    rotate_left
    ·simp only [Act.put,ac_]
     rfl
    refine take_ (i:=8) (N:=some 42) (v:=?_) (a':=?_) (bm 18 511) rfl rfl k_r (fun _ _ _ h=>h) (Or.inl ⟨by rfl,?_⟩) hHeld ?_ ?_
    rotate_left
    ·rintro w' ⟨s_0,s_1,s_2,s_3,s_4⟩
     go_simp
     try with_reducible rfl
    rotate_left
    ·simp only [Act.put,ac_]
     rfl
    refine take_ (i:=9) (N:=some 43) (v:=?_) (a':=?_) (bm 18 1023) rfl rfl k_r (fun _ _ _ h=>h) (Or.inl ⟨by rfl,?_⟩) hHeld ?_ ?_
    rotate_left
    ·rintro w' ⟨s_0,s_1,s_2,s_3,s_4⟩
     go_simp
     try with_reducible rfl
    rotate_left
    ·simp only [Act.put,ac_]
     rfl
    refine take_ (i:=10) (N:=some 44) (v:=?_) (a':=?_) (bm 18 2047) rfl rfl k_r (fun _ _ _ h=>h) (Or.inl ⟨by rfl,?_⟩) hHeld ?_ ?_
    rotate_left
    ·rintro w' ⟨s_0,s_1,s_2,s_3,s_4⟩
     go_simp
     try with_reducible rfl
    rotate_left
    ·simp only [Act.put,ac_]
     rfl
    refine take_ (i:=11) (N:=some 45) (v:=?_) (a':=?_) (bm 18 4095) rfl rfl k_r (fun _ _ _ h=>h) (Or.inl ⟨by rfl,?_⟩) hHeld ?_ ?_
    rotate_left
    ·rintro w' ⟨s_0,s_1,s_2,s_3,s_4⟩
     go_simp
     try with_reducible rfl
    rotate_left
    ·simp only [Act.put,ac_]
     rfl
    refine take_ (i:=12) (N:=some 46) (v:=?_) (a':=?_) (bm 18 8191) rfl rfl k_r (fun _ _ _ h=>h) (Or.inl ⟨by rfl,?_⟩) hHeld ?_ ?_
    rotate_left
    ·rintro w' ⟨s_0,s_1,s_2,s_3,s_4⟩
     go_simp
     try with_reducible rfl
    rotate_left
    ·simp only [Act.put,ac_]
     rfl
    refine take_ (i:=13) (N:=some 47) (v:=?_) (a':=?_) (bm 18 16383) rfl rfl k_r (fun _ _ _ h=>h) (Or.inl ⟨by rfl,?_⟩) hHeld ?_ ?_
    rotate_left
    ·rintro w' ⟨s_0,s_1,s_2,s_3,s_4⟩
     go_simp
     try with_reducible rfl
    rotate_left
    ·simp only [Act.put,ac_]
     rfl
    refine take_ (i:=14) (N:=some 48) (v:=?_) (a':=?_) (bm 18 32767) rfl rfl k_r (fun _ _ _ h=>h) (Or.inl ⟨by rfl,?_⟩) hHeld ?_ ?_
    rotate_left
    ·rintro w' ⟨s_0,s_1,s_2,s_3,s_4⟩
     go_simp
     try with_reducible rfl
    rotate_left
    ·simp only [Act.put,ac_]
     rfl
    refine take_ (i:=15) (N:=some 49) (v:=?_) (a':=?_) (bm 18 65535) rfl rfl k_r (fun _ _ _ h=>h) (Or.inl ⟨by rfl,?_⟩) hHeld ?_ ?_
    rotate_left
    ·rintro w' ⟨s_0,s_1,s_2,s_3,s_4⟩
     go_simp
     try with_reducible rfl
    rotate_left
    ·simp only [Act.put,ac_]
     rfl
    refine take_ (i:=16) (N:=some 50) (v:=?_) (a':=?_) (bm 18 131071) rfl rfl k_r (fun _ _ _ h=>h) (Or.inl ⟨by rfl,?_⟩) hHeld ?_ ?_
    rotate_left
    ·rintro w' ⟨s_0,s_1,s_2,s_3,s_4⟩
     go_simp
     try with_reducible rfl
    rotate_left
    ·simp only [Act.put,ac_]
     rfl
    refine take_ (i:=17) (N:=some 51) (v:=?_) (a':=?_) (bm 18 262143) rfl rfl k_r (fun _ _ _ h=>h) (Or.inl ⟨by rfl,?_⟩) hHeld ?_ ?_
    rotate_left
    ·rintro w' ⟨s_0,s_1,s_2,s_3,s_4⟩
     go_simp
     try with_reducible rfl
    rotate_left
    ·simp only [Act.put,ac_]
     rfl
    refine done_ k_r ?_
    clear hHeld y1 xFa xFk y11 xg xa hwf
    generalize wr.drew = wd at HIr ⊢
    have z13:wd.cell? ⟨b13,0,none⟩ = some fv:=(blk_cell HIr.out.e13 0).trans rfl
    rw [HFV.out] at z13
    have hd0:(0:Int) ≤ (d:Int):=by omega
    have hd1:(d:Int) ≤ (d:Int) + 1:=by omega
    have hd2:(d:Int) + 1 ≤ 4:=by have:=HD4.out;omega
    have ht1:((d:Int) + 1).toNat = d + 1:=by omega
    have HW5:=am (show wrap64 ((d:Int) + 1) = (d:Int) + 1 by rw [← i64_w];exact hw3)
    have hz2:wt.size + (min (d + 1) 4 - d) ≤ 9223372036854775807:=by have:=HWS.out;have:=HF40.out;omega
    have hz3:¬ 9223372036854775807 < wt.size + (min (d + 1) 4 - d):=by have:=HWS.out;have:=HF40.out;omega
    have HTX:=am (show txtW (u ++ [d]) = wt ++ (⟨#[117,114,100,108]⟩:ByteArray).extract d (d + 1) by rw [txtW_snoc,HWT.out,dirs_ex HD4.out])
    have HUD:=am (show (u ++ [d]).length + m = far by rw [List.length_append];have:=HU.out;simp;omega)
    go_wp2
    have hw5:=HW5.out
    refine start_ (n:=9) (S:=fun w'=>w'.cell? ⟨b13,0,none⟩ = some (.func (.func 61) #[] #[.pointer (some ⟨b6,0,none⟩),.pointer (some ⟨b7,0,none⟩),.pointer (some ⟨b10,0,none⟩),.pointer (some ⟨b11,0,none⟩),.pointer (some ⟨b13,0,none⟩)])) (ds:=[]) (bm 9 0) k_r rfl rfl z13 (fun hHeld=>?_)
    refine take_ (i:=0) (N:=some 52) (v:=?_) (a':=?_) (bm 9 1) rfl rfl k_r (fun _ _ _ h=>h) (Or.inl ⟨by rfl,?_⟩) hHeld ?_ ?_
    rotate_left
    ·rintro w' s_0
     go_simp
     try with_reducible rfl
    rotate_left
    ·simp only [Act.put,ac_]
     rfl
    refine take_ (i:=1) (N:=some 53) (v:=?_) (a':=?_) (bm 9 3) rfl rfl k_r (fun _ _ _ h=>h) (Or.inl ⟨by rfl,?_⟩) hHeld ?_ ?_
    rotate_left
    ·rintro w' s_0
     go_simp
     try with_reducible rfl
    rotate_left
    ·simp only [Act.put,ac_]
     rfl
    refine take_ (i:=2) (N:=some 54) (v:=?_) (a':=?_) (bm 9 7) rfl rfl k_r (fun _ _ _ h=>h) (Or.inl ⟨by rfl,?_⟩) hHeld ?_ ?_
    rotate_left
    ·rintro w' s_0
     go_simp
     try with_reducible rfl
    rotate_left
    ·simp only [Act.put,ac_]
     rfl
    refine take_ (i:=3) (N:=some 55) (v:=?_) (a':=?_) (bm 9 15) rfl rfl k_r (fun _ _ _ h=>h) (Or.inl ⟨by rfl,?_⟩) hHeld ?_ ?_
    rotate_left
    ·rintro w' s_0
     go_simp
     try with_reducible rfl
    rotate_left
    ·simp only [Act.put,ac_]
     rfl
    refine take_ (i:=4) (N:=some 56) (v:=?_) (a':=?_) (bm 9 31) rfl rfl k_r (fun _ _ _ h=>h) (Or.inl ⟨by rfl,?_⟩) hHeld ?_ ?_
    rotate_left
    ·rintro w' s_0
     go_simp
     try with_reducible rfl
    rotate_left
    ·simp only [Act.put,ac_]
     rfl
    refine take_ (i:=5) (N:=some 57) (v:=?_) (a':=?_) (bm 9 63) rfl rfl k_r (fun _ _ _ h=>h) (Or.inl ⟨by rfl,?_⟩) hHeld ?_ ?_
    rotate_left
    ·rintro w' s_0
     go_simp
     try with_reducible rfl
    rotate_left
    ·simp only [Act.put,ac_]
     rfl
    refine take_ (i:=6) (N:=some 58) (v:=?_) (a':=?_) (bm 9 127) rfl rfl k_r (fun _ _ _ h=>h) (Or.inl ⟨by rfl,?_⟩) hHeld ?_ ?_
    rotate_left
    ·rintro w' s_0
     go_simp
     try with_reducible rfl
    rotate_left
    ·simp only [Act.put,ac_]
     rfl
    refine take_ (i:=7) (N:=some 59) (v:=?_) (a':=?_) (bm 9 255) rfl rfl k_r (fun _ _ _ h=>h) (Or.inl ⟨by rfl,?_⟩) hHeld ?_ ?_
    rotate_left
    ·rintro w' s_0
     go_simp
     try with_reducible rfl
    rotate_left
    ·simp only [Act.put,ac_]
     rfl
    refine one_ (i:=8) (N:=some 60) (bm 9 511) rfl rfl k_r d_c (fun K' hK'=>?_)
    refine goesV_ HEN.out #[.int .i64 (a:Int),.string (txtW (u ++ [d])),.pointer (some ⟨b6,0,none⟩),.pointer (some ⟨b7,0,none⟩),.pointer (some ⟨b10,0,none⟩),.pointer (some ⟨b11,0,none⟩),.pointer (some ⟨b13,0,none⟩)] (by rfl) rfl rfl rfl (by rw [HTX.out];simp only [List.map_toArray,List.map_cons,List.map_nil];rfl) ?_
    refine (IH.out a (u ++ [d]) _ wd.drew HAN.out HUD.out HIr.out.drew HLB.out).mono ?_
    rintro e w8 ⟨rfl,hw8⟩
    have HI8:=am hw8
    refine ⟨_,rfl,?_⟩
    refine hK'.out _ _ (by rw [← HFV.out];exact (blk_cell HI8.out.e13 0).trans rfl) (fun hHeld=>?_)
    clear hK' K' hw8
    refine nm (some 60) ?_
    refine done_ k_r ?_
    clear hHeld z13 hz2 hz3 hd1 hd2 ht1 hw5
    go_wp2
    go_roundw
    case rel=>exact ⟨d + 1,HD4.out,by first | rfl | simp,⟨by rw [HPX.out,List.map_append,← List.append_assoc];exact HI8.out⟩⟩
    case measure=>have:=HD4.out;simp [intOf];omega
   | false =>
    have HPX:=am (show dfP s gB m k u (d + 1) = dfP s gB m k u d by rw [HDP.out,if_neg (by simp)])
    go_wp2
    have hwf:=HWF.out
    refine start_ (n:=18) (S:=fun w'=>w'.cell? ⟨b6,1,none⟩ = some (.slice (some ⟨bF,oF,none⟩) FF.length c1) ∧ w'.cell? ⟨bF,oF + a,none⟩ = some (.int .i64 (fa:Int)) ∧ w'.cell? ⟨bF,oF + k,none⟩ = some (.int .i64 (fk:Int)) ∧ w'.cell? ⟨b11,0,none⟩ = some (.slice (some ⟨g,0,none⟩) s.T.length cap) ∧ w'.cell? ⟨g,a,none⟩ = some (.bool false)) (ds:=[]) (bm 18 0) k_r rfl rfl ⟨y1,xFa,xFk,y11,xg⟩ (fun hHeld=>?_)
    refine take_ (i:=0) (N:=some 34) (v:=?_) (a':=?_) (bm 18 1) rfl rfl k_r (fun _ _ _ h=>h) (Or.inl ⟨by rfl,?_⟩) hHeld ?_ ?_
    rotate_left
    ·rintro w' ⟨s_0,s_1,s_2,s_3,s_4⟩
     go_simp
     try with_reducible rfl
    rotate_left
    ·simp only [Act.put,ac_]
     rfl
    refine take_ (i:=1) (N:=some 35) (v:=?_) (a':=?_) (bm 18 3) rfl rfl k_r (fun _ _ _ h=>h) (Or.inl ⟨by rfl,?_⟩) hHeld ?_ ?_
    rotate_left
    ·rintro w' ⟨s_0,s_1,s_2,s_3,s_4⟩
     go_simp
     try with_reducible rfl
    rotate_left
    ·simp only [Act.put,ac_]
     rfl
    refine take_ (i:=2) (N:=some 36) (v:=?_) (a':=?_) (bm 18 7) rfl rfl k_r (fun _ _ _ h=>h) (Or.inl ⟨by rfl,?_⟩) hHeld ?_ ?_
    rotate_left
    ·rintro w' ⟨s_0,s_1,s_2,s_3,s_4⟩
     go_simp
     try with_reducible rfl
    rotate_left
    ·simp only [Act.put,ac_]
     rfl
    refine take_ (i:=3) (N:=some 37) (v:=?_) (a':=?_) (bm 18 15) rfl rfl k_r (fun _ _ _ h=>h) (Or.inl ⟨by rfl,?_⟩) hHeld ?_ ?_
    rotate_left
    ·rintro w' ⟨s_0,s_1,s_2,s_3,s_4⟩
     go_simp
     try with_reducible rfl
    rotate_left
    ·simp only [Act.put,ac_]
     rfl
    refine take_ (i:=4) (N:=some 38) (v:=?_) (a':=?_) (bm 18 31) rfl rfl k_r (fun _ _ _ h=>h) (Or.inl ⟨by rfl,?_⟩) hHeld ?_ ?_
    rotate_left
    ·rintro w' ⟨s_0,s_1,s_2,s_3,s_4⟩
     go_simp
     try with_reducible rfl
    rotate_left
    ·simp only [Act.put,ac_]
     rfl
    refine take_ (i:=5) (N:=some 39) (v:=?_) (a':=?_) (bm 18 63) rfl rfl k_r (fun _ _ _ h=>h) (Or.inl ⟨by rfl,?_⟩) hHeld ?_ ?_
    rotate_left
    ·rintro w' ⟨s_0,s_1,s_2,s_3,s_4⟩
     go_simp
     try with_reducible rfl
    rotate_left
    ·simp only [Act.put,ac_]
     rfl
    refine take_ (i:=6) (N:=some 40) (v:=?_) (a':=?_) (bm 18 127) rfl rfl k_r (fun _ _ _ h=>h) (Or.inl ⟨by rfl,?_⟩) hHeld ?_ ?_
    rotate_left
    ·rintro w' ⟨s_0,s_1,s_2,s_3,s_4⟩
     go_simp
     try with_reducible rfl
    rotate_left
    ·simp only [Act.put,ac_]
     rfl
    refine take_ (i:=7) (N:=some 41) (v:=?_) (a':=?_) (bm 18 255) rfl rfl k_r (fun _ _ _ h=>h) (Or.inl ⟨by rfl,?_⟩) hHeld ?_ ?_
    rotate_left
    ·rintro w' ⟨s_0,s_1,s_2,s_3,s_4⟩
     go_simp
     try with_reducible rfl
    rotate_left
    ·simp only [Act.put,ac_]
     rfl
    refine take_ (i:=8) (N:=some 42) (v:=?_) (a':=?_) (bm 18 511) rfl rfl k_r (fun _ _ _ h=>h) (Or.inl ⟨by rfl,?_⟩) hHeld ?_ ?_
    rotate_left
    ·rintro w' ⟨s_0,s_1,s_2,s_3,s_4⟩
     go_simp
     try with_reducible rfl
    rotate_left
    ·simp only [Act.put,ac_]
     rfl
    refine take_ (i:=9) (N:=some 43) (v:=?_) (a':=?_) (bm 18 1023) rfl rfl k_r (fun _ _ _ h=>h) (Or.inl ⟨by rfl,?_⟩) hHeld ?_ ?_
    rotate_left
    ·rintro w' ⟨s_0,s_1,s_2,s_3,s_4⟩
     go_simp
     try with_reducible rfl
    rotate_left
    ·simp only [Act.put,ac_]
     rfl
    refine take_ (i:=10) (N:=some 44) (v:=?_) (a':=?_) (bm 18 2047) rfl rfl k_r (fun _ _ _ h=>h) (Or.inl ⟨by rfl,?_⟩) hHeld ?_ ?_
    rotate_left
    ·rintro w' ⟨s_0,s_1,s_2,s_3,s_4⟩
     go_simp
     try with_reducible rfl
    rotate_left
    ·simp only [Act.put,ac_]
     rfl
    refine take_ (i:=11) (N:=some 45) (v:=?_) (a':=?_) (bm 18 4095) rfl rfl k_r (fun _ _ _ h=>h) (Or.inl ⟨by rfl,?_⟩) hHeld ?_ ?_
    rotate_left
    ·rintro w' ⟨s_0,s_1,s_2,s_3,s_4⟩
     go_simp
     try with_reducible rfl
    rotate_left
    ·simp only [Act.put,ac_]
     rfl
    refine take_ (i:=12) (N:=some 46) (v:=?_) (a':=?_) (bm 18 8191) rfl rfl k_r (fun _ _ _ h=>h) (Or.inl ⟨by rfl,?_⟩) hHeld ?_ ?_
    rotate_left
    ·rintro w' ⟨s_0,s_1,s_2,s_3,s_4⟩
     go_simp
     try with_reducible rfl
    rotate_left
    ·simp only [Act.put,ac_]
     rfl
    refine take_ (i:=13) (N:=some 47) (v:=?_) (a':=?_) (bm 18 16383) rfl rfl k_r (fun _ _ _ h=>h) (Or.inl ⟨by rfl,?_⟩) hHeld ?_ ?_
    rotate_left
    ·rintro w' ⟨s_0,s_1,s_2,s_3,s_4⟩
     go_simp
     try with_reducible rfl
    rotate_left
    ·simp only [Act.put,ac_]
     rfl
    refine take_ (i:=14) (N:=some 48) (v:=?_) (a':=?_) (bm 18 32767) rfl rfl k_r (fun _ _ _ h=>h) (Or.inl ⟨by rfl,?_⟩) hHeld ?_ ?_
    rotate_left
    ·rintro w' ⟨s_0,s_1,s_2,s_3,s_4⟩
     go_simp
     try with_reducible rfl
    rotate_left
    ·simp only [Act.put,ac_]
     rfl
    refine take_ (i:=15) (N:=some 49) (v:=?_) (a':=?_) (bm 18 65535) rfl rfl k_r (fun _ _ _ h=>h) (Or.inl ⟨by rfl,?_⟩) hHeld ?_ ?_
    rotate_left
    ·rintro w' ⟨s_0,s_1,s_2,s_3,s_4⟩
     go_simp
     try with_reducible rfl
    rotate_left
    ·simp only [Act.put,ac_]
     rfl
    refine take_ (i:=16) (N:=some 50) (v:=?_) (a':=?_) (bm 18 131071) rfl rfl k_r (fun _ _ _ h=>h) (Or.inl ⟨by rfl,?_⟩) hHeld ?_ ?_
    rotate_left
    ·rintro w' ⟨s_0,s_1,s_2,s_3,s_4⟩
     go_simp
     try with_reducible rfl
    rotate_left
    ·simp only [Act.put,ac_]
     rfl
    refine take_ (i:=17) (N:=some 51) (v:=?_) (a':=?_) (bm 18 262143) rfl rfl k_r (fun _ _ _ h=>h) (Or.inl ⟨by rfl,?_⟩) hHeld ?_ ?_
    rotate_left
    ·rintro w' ⟨s_0,s_1,s_2,s_3,s_4⟩
     go_simp
     try with_reducible rfl
    rotate_left
    ·simp only [Act.put,ac_]
     rfl
    refine done_ k_r ?_
    clear hHeld y1 xFa xFk y11 xg xa hwf
    generalize wr.drew = wd at HIr ⊢
    go_wp2
    go_roundw
    case rel=>exact ⟨d + 1,HD4.out,by first | rfl | simp,⟨by rw [HPX.out];exact HIr.out⟩⟩
    case measure=>have:=HD4.out;simp [intOf];omega
end Go.Proofs.YtldhkbiomingbaaGreatDoor.F

namespace Go.Proofs.YtldhkbiomingbaaGreatDoor.F
open Go.Proofs.YtldhkbiomingbaaGreatDoor
open Go.RowKit Go.YW.PrintWords Go.YW.PrintMore
theorem casts_far {s:RS} {i:Nat} (hF:i < s.F.length):rd (castsI s.F) (i:Int) = ((s.F.getD i 0:Nat):Int):=by
 unfold rd
 rw [Int.toNat_natCast,List.getD_eq_getElem?_getD,castsI_getD _ _ hF,getD_lt hF];rfl
theorem impl_solution_some {t n:ByteArray} {goal:Int} {w h i:Nat} {s:RS} (ht:t.size < 4294967281) (e:puS t n goal = some (w,h,s,i)) :
  Ev (fun k=>impl_solution.f k t n goal) (rT w h s,castsI s.F,s.N.map castsI,rW s,(i:Int),decide (s.F.getD i 0 ≤ 40)):=by
 have hP:=impl_IsPuzzle_ev t n goal ht
 obtain ⟨hp,hs,hgi,hi⟩:=puS_some e
 have hn:=puzB_name hp
 rw [hp] at hP
 obtain ⟨cs,_,_,_,_,o⟩:=srch_some hs
 have o:=o.ok
 have hm:=o.most
 have hc:=cells_ev (w:=w) (h:=h) (s:=s) hn o.tray hm (castsI s.F) (s.N.map castsI) (rW s)
 have hi2:Ev (fun k=>slices_Index_int_int.f k (cellsI s (bt n 0)) goal) ((i:Nat):Int):=by
  have h:=indexI_l0 (l:=cellsI s (bt n 0)) (by rw [cellsI_len];omega) goal _ 0 (Nat.zero_add _) (fun j hj=>by omega)
  have hg:(cellsI s (bt n 0)).findIdx (fun x=>decide (x = goal)) = i:=hgi
  rw [hg,if_pos (show i < (cellsI s (bt n 0)).length by rw [cellsI_len];exact hi)] at h
  exact h
 have hF:i < s.F.length:=by rw [o.lF];exact hi
 have hfar:=casts_far hF
 unfold impl_solution.f
 refine Ev.bind hP (Ev.congr (fun k=>by rw [if_pos rfl,reachOf_some ht hs,Option.bind_some];exact if_pos rfl) (Ev.bind hc (Ev.bind hi2 (Ev.congr (fun k=>?_) (Ev.now _)))))
 refine (if_pos (show ((i:Nat):Int) ≥ 0 by omega)).trans ((if_pos (show 0 ≤ ((i:Nat):Int) by omega)).trans ((if_pos (show ((i:Nat):Int) < ((castsI s.F).length:Int) by rw [castsI_length,o.lF];omega)).trans ?_))
 show some (rT w h s,castsI s.F,s.N.map castsI,rW s,(i:Int),decide (rd (castsI s.F) (i:Int) ≤ 40)) = _
 rw [hfar,decide_eq_decide.2 (show ((s.F.getD i 0:Nat):Int) ≤ 40 ↔ s.F.getD i 0 ≤ 40 by omega)]
theorem impl_solution_none {t n:ByteArray} {goal:Int} (ht:t.size < 4294967281) (e:puS t n goal = none):∃ r1 r2 r3 r4 r5,
  Ev (fun k=>impl_solution.f k t n goal) (r1,r2,r3,r4,r5,false):=by
 have hP:=impl_IsPuzzle_ev t n goal ht
 unfold impl_solution.f
 by_cases hp:puzB t n goal = true
 rotate_left
 ·rw [Bool.not_eq_true] at hp
  rw [hp] at hP
  exact ⟨[],[],[],[],0,Ev.bind hP (Ev.congr (fun k=>if_neg Bool.false_ne_true) (Ev.now _))⟩
 have hn:=puzB_name hp
 rw [hp] at hP
 unfold puS at e
 rw [if_pos hp] at e
 cases hs:srch t with
 | none =>
  refine ⟨[],[],[],[],0,Ev.bind hP (Ev.congr (fun k=>?_) (Ev.now _))⟩
  rw [if_pos rfl,reachOf_none ht hs,Option.bind_some]
  exact if_neg Bool.false_ne_true
 | some q =>
  obtain ⟨w,h,s⟩:=q
  rw [hs,Option.bind_some] at e
  simp only at e
  obtain ⟨cs,_,_,_,_,o⟩:=srch_some hs
  have o:=o.ok
  have hm:=o.most
  have hl:¬ goalAt s (bt n 0) goal < s.T.length:=fun q=>by rw [if_pos q] at e;cases e
  have hc:=cells_ev (w:=w) (h:=h) (s:=s) hn o.tray hm (castsI s.F) (s.N.map castsI) (rW s)
  have hi2:Ev (fun k=>slices_Index_int_int.f k (cellsI s (bt n 0)) goal) (-1):=by
   have h:=indexI_l0 (l:=cellsI s (bt n 0)) (by rw [cellsI_len];omega) goal _ 0 (Nat.zero_add _) (fun j hj=>by omega)
   rw [if_neg (show ¬ (cellsI s (bt n 0)).findIdx (fun x=>decide (x = goal)) < (cellsI s (bt n 0)).length by rw [cellsI_len];exact hl)] at h
   exact h
  exact ⟨rT w h s,castsI s.F,s.N.map castsI,rW s,-1,Ev.bind hP (Ev.congr (fun k=>by rw [if_pos rfl,reachOf_some ht hs,Option.bind_some];exact if_pos rfl) (Ev.bind hc (Ev.bind hi2 (Ev.congr (fun k=>if_neg (show ¬ ((-1:Int) ≥ 0) by omega)) (Ev.now _)))))⟩
end Go.Proofs.YtldhkbiomingbaaGreatDoor.F

namespace Go.Proofs.YtldhkbiomingbaaGreatDoor.F
open Go.Proofs.YtldhkbiomingbaaGreatDoor
open Go.RowKit Go.YW.PrintWords Go.YW.PrintLast Go.YW.PrintMore Go.Lib
attribute [local go_sem] max2_int min2_int

end Go.Proofs.YtldhkbiomingbaaGreatDoor.F

namespace Go.Proofs.YtldhkbiomingbaaGreatDoor.F
open Go.Proofs.YtldhkbiomingbaaGreatDoor
open Go.RowKit Go.YW.PrintWords Go.YW.PrintLast Go.YW.PrintMore
attribute [local go_sem] max2_int min2_int max_two min_two max_three min_three max_four min_four
def laws_szPuzzle.f (a0_0:ByteArray) (a0_1:ByteArray) (a0_2:Int) (a1:Int):Option (Int):=if (wrap64 (a1 - (a0_0.size:Int))) < 0 then (some (-1)) else (if (wrap64 ((wrap64 (a1 - (a0_0.size:Int))) - (a0_1.size:Int))) < 0 then (some (-1)) else (some (wrap64 ((wrap64 (a1 - (a0_0.size:Int))) - (a0_1.size:Int)))))
theorem laws_szPuzzle.calls (a0_0:ByteArray) (a0_1:ByteArray) (a0_2:Int) (a1:Int) (r:Int) (w:World) (h:laws_szPuzzle.f a0_0 a0_1 a0_2 a1 = some r) :
  Calls Tryz.prog 16 #[.agg #[.string a0_0,.string a0_1,.int .i64 a0_2],.int .i64 a1] w fun e w'=>e = .returned (.int .i64 r) ∧ Below w.heap.size w w':=by
 have hu26:=Tryz.underlying26
 have HB:=am (Below.refl w.heap.size w)
 have H:(if (wrap64 (a1 - (a0_0.size:Int))) < 0 then (some (-1)) else (if (wrap64 ((wrap64 (a1 - (a0_0.size:Int))) - (a0_1.size:Int))) < 0 then (some (-1)) else (some (wrap64 ((wrap64 (a1 - (a0_0.size:Int))) - (a0_1.size:Int)))))) = some r:=h
 clear h
 by_cases c3:(wrap64 (a1 - (a0_0.size:Int))) < 0
 ·rw [if_pos c3] at H
  have c3b0:=decide_eq_true c3
  clear c3
  obtain rfl:=Option.some.inj H
  go_enter Tryz.func16,Tryz.ntmps16
  go_wp2_with (first | (refine bx 2 #[.string a0_0,.string a0_1,.int .i64 a0_2] 26 ?_;intro gb101 hg w4 hbox hb;have BK101:=am (hbox);have GW101:=am ((by rw [hg];exact (below_size aq2):w.heap.size ≤ gb101));have GE101:=GW101;replace HB:=am (below_step aq2 hb);clear hb hbox hg;obtain ⟨hcz5_0,hcz5_1,hcz5_2,hfz5_0,hfz5_1,hfz5_2⟩:=blk3_ BK101.out))
  go_ret
  exact ⟨aq8,aq0⟩
 rw [if_neg c3] at H
 have c3b0:=decide_eq_false c3
 clear c3
 by_cases c6:(wrap64 ((wrap64 (a1 - (a0_0.size:Int))) - (a0_1.size:Int))) < 0
 rotate_left
 ·rw [if_neg c6] at H
  have c6b0:=decide_eq_false c6
  clear c6
  obtain rfl:=Option.some.inj H
  go_enter Tryz.func16,Tryz.ntmps16
  go_wp2_with (first | (refine bx 2 #[.string a0_0,.string a0_1,.int .i64 a0_2] 26 ?_;intro gb101 hg w9 hbox hb;have BK101:=am (hbox);have GW101:=am ((by rw [hg];exact (below_size aq2):w.heap.size ≤ gb101));have GE101:=GW101;replace HB:=am (below_step aq2 hb);clear hb hbox hg;obtain ⟨hcz10_0,hcz10_1,hcz10_2,hfz10_0,hfz10_1,hfz10_2⟩:=blk3_ BK101.out))
  go_ret
  exact ⟨aq8,aq0⟩
 rw [if_pos c6] at H
 have c6b0:=decide_eq_true c6
 clear c6
 obtain rfl:=Option.some.inj H
 go_enter Tryz.func16,Tryz.ntmps16
 go_wp2_with (first | (refine bx 2 #[.string a0_0,.string a0_1,.int .i64 a0_2] 26 ?_;intro gb101 hg w7 hbox hb;have BK101:=am (hbox);have GW101:=am ((by rw [hg];exact (below_size aq2):w.heap.size ≤ gb101));have GE101:=GW101;replace HB:=am (below_step aq2 hb);clear hb hbox hg;obtain ⟨hcz8_0,hcz8_1,hcz8_2,hfz8_0,hfz8_1,hfz8_2⟩:=blk3_ BK101.out))
 go_ret
 exact ⟨aq8,aq0⟩
def laws_toPuzzle.f (a0_0:ByteArray) (a0_1:ByteArray) (a0_2:Int):Option (ByteArray × ByteArray × Int):=some (a0_0,a0_1,a0_2)
theorem laws_toPuzzle.calls (a0_0:ByteArray) (a0_1:ByteArray) (a0_2:Int) (r1:ByteArray) (r2:ByteArray) (r3:Int) (w:World) (h:laws_toPuzzle.f a0_0 a0_1 a0_2 = some (r1,r2,r3)) :
  Calls Tryz.prog 18 #[.agg #[.string a0_0,.string a0_1,.int .i64 a0_2]] w fun e w'=>e = .returned (.agg #[.string r1,.string r2,.int .i64 r3]) ∧ Below w.heap.size w w':=by
 have hu26:=Tryz.underlying26
 have hu30:=Tryz.underlying30
 have HB:=am (Below.refl w.heap.size w)
 have H:(some (a0_0,a0_1,a0_2)) = some (r1,r2,r3):=h
 clear h
 simp only [Option.some.injEq,Prod.mk.injEq] at H
 obtain ⟨rfl,rfl,rfl⟩:=H
 go_enter Tryz.func18,Tryz.ntmps18
 go_wp2_with (first | (refine bx 1 #[.string a0_0,.string a0_1,.int .i64 a0_2] 26 ?_;intro gb101 hg w2 hbox hb;have BK101:=am (hbox);have GW101:=am ((by rw [hg];exact (below_size aq2):w.heap.size ≤ gb101));have GE101:=GW101;replace HB:=am (below_step aq2 hb);clear hb hbox hg) | (refine bx 2 #[.string (⟨#[]⟩:ByteArray),.string (⟨#[]⟩:ByteArray),.int .i64 0] 30 ?_;intro gb102 hg w3 hbox hb;have BK102:=am (hbox);have GW102:=am ((by rw [hg];exact (below_size aq0):w.heap.size ≤ gb102));have GE102:=GW102;replace HB:=am (below_step aq0 hb);have NB101_102:=am ((by rw [hg];exact Nat.ne_of_lt (blk_lt (g:=gb101) (o:=.cells #[.string a0_0,.string a0_1,.int .i64 a0_2] 26 (0,0)) aq1):gb101 ≠ gb102));have NB102_101:=am ((by rw [hg];exact Nat.ne_of_gt (blk_lt (g:=gb101) (o:=.cells #[.string a0_0,.string a0_1,.int .i64 a0_2] 26 (0,0)) aq1):gb102 ≠ gb101));replace BK101:=am (bb BK101 hb);clear hb hbox hg) | (refine bx 3 #[.string (⟨#[]⟩:ByteArray),.string (⟨#[]⟩:ByteArray),.int .i64 0] 30 ?_;intro gb103 hg w4 hbox hb;have BK103:=am (hbox);have GW103:=am ((by rw [hg];exact (below_size aq3):w.heap.size ≤ gb103));have GE103:=GW103;replace HB:=am (below_step aq3 hb);have NB101_103:=am ((by rw [hg];exact Nat.ne_of_lt (blk_lt (g:=gb101) (o:=.cells #[.string a0_0,.string a0_1,.int .i64 a0_2] 26 (0,0)) aq1):gb101 ≠ gb103));have NB103_101:=am ((by rw [hg];exact Nat.ne_of_gt (blk_lt (g:=gb101) (o:=.cells #[.string a0_0,.string a0_1,.int .i64 a0_2] 26 (0,0)) aq1):gb103 ≠ gb101));replace BK101:=am (bb BK101 hb);have NB102_103:=am ((by rw [hg];exact Nat.ne_of_lt (blk_lt (g:=gb102) (o:=.cells #[.string (⟨#[]⟩:ByteArray),.string (⟨#[]⟩:ByteArray),.int .i64 0] 30 (0,0)) aq9):gb102 ≠ gb103));have NB103_102:=am ((by rw [hg];exact Nat.ne_of_gt (blk_lt (g:=gb102) (o:=.cells #[.string (⟨#[]⟩:ByteArray),.string (⟨#[]⟩:ByteArray),.int .i64 0] 30 (0,0)) aq9):gb103 ≠ gb102));replace BK102:=am (blk_below (g:=gb102) (o:=.cells #[.string (⟨#[]⟩:ByteArray),.string (⟨#[]⟩:ByteArray),.int .i64 0] 30 (0,0)) aq9 hb);clear hb hbox hg;have hnb5:=NB101_102.out;have hnc5:=NB102_101.out;have hnb6:=NB101_103.out;have hnc6:=NB103_101.out;obtain ⟨hcz7_0,hcz7_1,hcz7_2,hfz7_0,hfz7_1,hfz7_2⟩:=blk3_ BK101.out;have hnb8:=NB103_102.out;have hnc8:=NB102_103.out;obtain ⟨hcz9_0,hcz9_1,hcz9_2,hfz9_0,hfz9_1,hfz9_2⟩:=blk3_ BK103.out;obtain ⟨hcz10_0,hcz10_1,hcz10_2,hfz10_0,hfz10_1,hfz10_2⟩:=blk3_ BK102.out))
 refine bodyPost_ret (results_cell_row rfl _ _ gb102 30 #[.string a0_0,.string a0_1,.int .i64 a0_2] (0,0) _ rfl (by (with_reducible repeat (first | refine blk_drewN ?_ _ | refine blk_drew ?_ | refine blk_alloc ?_ _));refine blk_put (cs:=#[.string a0_0,.string a0_1,.int .i64 0]) ?_ 2 _ rfl;(with_reducible repeat (first | refine blk_drewN ?_ _ | refine blk_drew ?_ | refine blk_alloc ?_ _));refine blk_put (cs:=#[.string a0_0,.string (⟨#[]⟩:ByteArray),.int .i64 0]) ?_ 1 _ rfl;(with_reducible repeat (first | refine blk_drewN ?_ _ | refine blk_drew ?_ | refine blk_alloc ?_ _));refine blk_put (cs:=#[.string (⟨#[]⟩:ByteArray),.string (⟨#[]⟩:ByteArray),.int .i64 0]) ?_ 0 _ rfl;(with_reducible repeat (first | refine blk_drewN ?_ _ | refine blk_drew ?_ | refine blk_alloc ?_ _));refine blk_far ?_ NB102_103.out _;(with_reducible repeat (first | refine blk_drewN ?_ _ | refine blk_drew ?_ | refine blk_alloc ?_ _));refine blk_far ?_ NB102_103.out _;(with_reducible repeat (first | refine blk_drewN ?_ _ | refine blk_drew ?_ | refine blk_alloc ?_ _));refine blk_far ?_ NB102_103.out _;(with_reducible repeat (first | refine blk_drewN ?_ _ | refine blk_drew ?_ | refine blk_alloc ?_ _));exact BK102.out) Tryz.underlying30 rfl k_r) rfl ?_
 exact ⟨aq8,by repeat (first | (with_reducible first | exact HB.out | apply below_alloc | apply pw_below_drewN | apply below_drew1 | refine below_set ?_ GE101.out | refine below_set ?_ GE102.out | refine below_set ?_ GE103.out) | exact HB.out)⟩

end Go.Proofs.YtldhkbiomingbaaGreatDoor.F

namespace Go.Proofs.YtldhkbiomingbaaGreatDoor.F
open Go.RowKit Go.Proofs.YtldhkbiomingbaaGreatDoor Go.YW.PrintWords Go.YW.PrintMore
theorem szPuzzle_ok {t n:ByteArray} {g:Int} (ht:t.size ≤ 9223372036854775807) (hn:n.size ≤ 9223372036854775807):∃ r,laws_szPuzzle.f t n g 1048576 = some r ∧ (0 ≤ r → t.size ≤ 1048576 ∧ n.size ≤ 1048576):=by
 unfold laws_szPuzzle.f
 have e1:wrap64 (1048576 - (t.size:Int)) = 1048576 - (t.size:Int):=w64 o_m o_m
 rw [e1]
 by_cases h1:1048576 - (t.size:Int) < 0
 ·rw [if_pos h1]
  exact ⟨-1,rfl,fun h=>by omega⟩
 rw [if_neg h1]
 have e2:wrap64 (1048576 - (t.size:Int) - (n.size:Int)) = 1048576 - (t.size:Int) - (n.size:Int):=w64 o_m o_m
 rw [e2]
 by_cases h2:1048576 - (t.size:Int) - (n.size:Int) < 0
 rotate_left
 ·rw [if_neg h2]
  exact ⟨_,rfl,fun h=>by omega⟩
 rw [if_pos h2]
 exact ⟨-1,rfl,fun h=>by omega⟩
end Go.Proofs.YtldhkbiomingbaaGreatDoor.F

namespace Go.Proofs.YtldhkbiomingbaaGreatDoor.F
open Go.Proofs.YtldhkbiomingbaaGreatDoor
open Go.RowKit Go.YW.PrintWords Go.YW.PrintLast Go.YW.PrintMore
attribute [local go_sem] max2_int min2_int max_two min_two max_three min_three max_four min_four
def impl_CountSolutions.l0:Nat → Int → Int → List Int → List Int → Int → Int → ByteArray → ByteArray → Int → List ByteArray → List Int → List (List Int) → List ByteArray → Option (Int × Bool)
 | 0,_,_,_,_,_,_,_,_,_,_,_,_,_=>none
 | k + 1,x5,x7,x8,x24,x25,x26,x102000,x102001,x102002,x117000,x117001,x117002,x117003=>if x26 < x25 then (if 0 ≤ x26 then (if x26 < (x24.length:Int) then (if (rd x24 x26) = x102002 then (if x26 < (x117001.length:Int) then (if 0 ≤ x5 then (if x5 < (x117001.length:Int) then (if (rd x117001 x26) = (rd x117001 x5) then (if x26 < (x8.length:Int) then (impl_CountSolutions.l0 k x5 (wrap64 (x7 + (rd x8 x26))) x8 x24 x25 (wrap64 (x26 + 1)) x102000 x102001 x102002 x117000 x117001 x117002 x117003) else (none)) else (impl_CountSolutions.l0 k x5 x7 x8 x24 x25 (wrap64 (x26 + 1)) x102000 x102001 x102002 x117000 x117001 x117002 x117003)) else (none)) else (none)) else (none)) else (impl_CountSolutions.l0 k x5 x7 x8 x24 x25 (wrap64 (x26 + 1)) x102000 x102001 x102002 x117000 x117001 x117002 x117003)) else (none)) else (none)) else (some (x7,true))
def impl_CountSolutions.f (k:Nat) (a0_0:ByteArray) (a0_1:ByteArray) (a0_2:Int):Option (Int × Bool):=(impl_solution.f k a0_0 a0_1 a0_2).bind fun bt102=>(if bt102.2.2.2.2.2 = true then ((impl_reach_ways.f k bt102.1 bt102.2.1 bt102.2.2.1 bt102.2.2.2.1).bind fun t117=>((impl_reach_cells.f k bt102.1 bt102.2.1 bt102.2.2.1 bt102.2.2.2.1 a0_1).bind fun t120=>(impl_CountSolutions.l0 k bt102.2.2.2.2.1 0 t117 t120 (t120.length:Int) 0 a0_0 a0_1 a0_2 bt102.1 bt102.2.1 bt102.2.2.1 bt102.2.2.2.1))) else (some (0,false)))
theorem impl_CountSolutions.mono_l:∀ k,(∀ y0 y1 y2 y3 y4 y5 y6 y7 y8 y9 y10 y11 y12,LeO (impl_CountSolutions.l0 k y0 y1 y2 y3 y4 y5 y6 y7 y8 y9 y10 y11 y12) (impl_CountSolutions.l0 (k + 1) y0 y1 y2 y3 y4 y5 y6 y7 y8 y9 y10 y11 y12))
 | 0=>fun _ _ _ _ _ _ _ _ _ _ _ _ _ r h=>by simp [impl_CountSolutions.l0] at h
 | k + 1=>by
  have ih0:=impl_CountSolutions.mono_l k
  ·intro y0 y1 y2 y3 y4 y5 y6 y7 y8 y9 y10 y11 y12
   unfold impl_CountSolutions.l0
   have im0:=@impl_reach_cells.mono;have im1:=@impl_reach_ways.mono;have im2:=@impl_solution.mono;exact mo
theorem impl_CountSolutions.calls (k:Nat) (a0_0:ByteArray) (a0_1:ByteArray) (a0_2:Int) (r1:Int) (r2:Bool) (w:World) (h:impl_CountSolutions.f k a0_0 a0_1 a0_2 = some (r1,r2)) :
  Calls Tryz.prog 23 #[.agg #[.string a0_0,.string a0_1,.int .i64 a0_2]] w fun e w'=>e = .returned (.tuple #[.int .i64 r1,.bool r2]) ∧ Below w.heap.size w w':=by
 have hu30:=Tryz.underlying30
 have hu59:=Tryz.underlying59
 have HB:=am (Below.refl w.heap.size w)
 have H:((impl_solution.f k a0_0 a0_1 a0_2).bind fun bt102=>(if bt102.2.2.2.2.2 = true then ((impl_reach_ways.f k bt102.1 bt102.2.1 bt102.2.2.1 bt102.2.2.2.1).bind fun t117=>((impl_reach_cells.f k bt102.1 bt102.2.1 bt102.2.2.1 bt102.2.2.2.1 a0_1).bind fun t120=>(impl_CountSolutions.l0 k bt102.2.2.2.2.1 0 t117 t120 (t120.length:Int) 0 a0_0 a0_1 a0_2 bt102.1 bt102.2.1 bt102.2.2.1 bt102.2.2.2.1))) else (some (0,false)))) = some (r1,r2):=h
 clear h
 replace H:=Option.bind_eq_some_iff.mp H
 obtain ⟨⟨t102,t105,t108,t111,t114,t115⟩,A20,H⟩:=H
 replace H:(if t115 = true then ((impl_reach_ways.f k t102 t105 t108 t111).bind fun t117=>((impl_reach_cells.f k t102 t105 t108 t111 a0_1).bind fun t120=>(impl_CountSolutions.l0 k t114 0 t117 t120 (t120.length:Int) 0 a0_0 a0_1 a0_2 t102 t105 t108 t111))) else (some (0,false))) = some (r1,r2):=H
 have A2:=am A20
 clear A20
 by_cases c3:t115 = true
 rotate_left
 ·replace c3:=Bool.eq_false_iff.mpr c3
  subst c3
  rw [if_neg Bool.false_ne_true] at H
  simp only [Option.some.injEq,Prod.mk.injEq] at H
  obtain ⟨rfl,rfl⟩:=H
  go_enter Tryz.func23,Tryz.ntmps23
  go_wp2_with (first | (refine bx 1 #[.string a0_0,.string a0_1,.int .i64 a0_2] 30 ?_;intro gb101 hg w39 hbox hb;have BK101:=am (hbox);have GW101:=am ((by rw [hg];exact (below_size aq2):w.heap.size ≤ gb101));have GE101:=GW101;replace HB:=am (below_step aq2 hb);clear hb hbox hg;obtain ⟨hcz40_0,hcz40_1,hcz40_2,hfz40_0,hfz40_1,hfz40_2⟩:=blk3_ BK101.out) | (go_at_call 55;(with_reducible refine (impl_solution.calls k a0_0 a0_1 a0_2 t102 t105 t108 t111 t114 false _ A2.out).mono ?_);rintro e w41 ⟨v103,v106,v109,v112,rfl,ho0,ho1,ho2,ho3,hb⟩;have HO104:=am (Kd.R_lower ho0 (below_size aq0));have HO107:=am (Kd.R_lower ho1 (below_size aq0));have HO110:=am (Kd.S_lower ho2 (below_size aq0));have HO113:=am (Kd.R_lower ho3 (below_size aq0));replace BK101:=am (bb BK101 hb);replace HB:=am (below_step aq0 hb);(try clear hb);(try clear ho0);(try clear ho1);(try clear ho2);(try clear ho3)) | (refine bx 4 #[.slice none 0 0,.slice none 0 0,.slice none 0 0,.slice none 0 0] 59 ?_;intro gb116 hg w42 hbox hb;replace HO104:=am (Kd.R_below aq27 hb);replace HO107:=am (Kd.R_below aq29 hb);replace HO110:=am (Kd.S_below aq38 hb);replace HO113:=am (Kd.R_below aq36 hb);have BK116:=am (hbox);have GW116:=am ((by rw [hg];exact (below_size aq0):w.heap.size ≤ gb116));have GE116:=GW116;replace HB:=am (below_step aq0 hb);have NB101_116:=am ((by rw [hg];exact Nat.ne_of_lt (blk_lt (g:=gb101) (o:=.cells #[.string a0_0,.string a0_1,.int .i64 a0_2] 30 (0,0)) aq1):gb101 ≠ gb116));have NB116_101:=am ((by rw [hg];exact Nat.ne_of_gt (blk_lt (g:=gb101) (o:=.cells #[.string a0_0,.string a0_1,.int .i64 a0_2] 30 (0,0)) aq1):gb116 ≠ gb101));replace BK101:=am (bb BK101 hb);clear hb hbox hg;obtain ⟨Ao43,co43,eo43⟩:=Kd.R_slice HO104.out;subst eo43;have hnb44:=NB116_101.out;have hnc44:=NB101_116.out;obtain ⟨hcz45_0,hcz45_1,hcz45_2,hcz45_3,hfz45_0,hfz45_1,hfz45_2,hfz45_3⟩:=blk4_ BK116.out;obtain ⟨Ao46,co46,eo46⟩:=Kd.R_slice HO107.out;subst eo46;obtain ⟨Ao47,co47,eo47⟩:=Kd.S_slice HO110.out;subst eo47;obtain ⟨Ao48,co48,eo48⟩:=Kd.R_slice HO113.out;subst eo48))
  repeat (go_quiet (first | (refine bx 1 #[.string a0_0,.string a0_1,.int .i64 a0_2] 30 ?_;intro gb101 hg w39 hbox hb;have BK101:=am (hbox);have GW101:=am ((by rw [hg];exact (below_size aq2):w.heap.size ≤ gb101));have GE101:=GW101;replace HB:=am (below_step aq2 hb);clear hb hbox hg;obtain ⟨hcz40_0,hcz40_1,hcz40_2,hfz40_0,hfz40_1,hfz40_2⟩:=blk3_ BK101.out) | (go_at_call 55;(with_reducible refine (impl_solution.calls k a0_0 a0_1 a0_2 t102 t105 t108 t111 t114 false _ A2.out).mono ?_);rintro e w41 ⟨v103,v106,v109,v112,rfl,ho0,ho1,ho2,ho3,hb⟩;have HO104:=am (Kd.R_lower ho0 (below_size aq0));have HO107:=am (Kd.R_lower ho1 (below_size aq0));have HO110:=am (Kd.S_lower ho2 (below_size aq0));have HO113:=am (Kd.R_lower ho3 (below_size aq0));replace BK101:=am (bb BK101 hb);replace HB:=am (below_step aq0 hb);(try clear hb);(try clear ho0);(try clear ho1);(try clear ho2);(try clear ho3)) | (refine bx 4 #[.slice none 0 0,.slice none 0 0,.slice none 0 0,.slice none 0 0] 59 ?_;intro gb116 hg w42 hbox hb;replace HO104:=am (Kd.R_below aq27 hb);replace HO107:=am (Kd.R_below aq29 hb);replace HO110:=am (Kd.S_below aq38 hb);replace HO113:=am (Kd.R_below aq36 hb);have BK116:=am (hbox);have GW116:=am ((by rw [hg];exact (below_size aq0):w.heap.size ≤ gb116));have GE116:=GW116;replace HB:=am (below_step aq0 hb);have NB101_116:=am ((by rw [hg];exact Nat.ne_of_lt (blk_lt (g:=gb101) (o:=.cells #[.string a0_0,.string a0_1,.int .i64 a0_2] 30 (0,0)) aq1):gb101 ≠ gb116));have NB116_101:=am ((by rw [hg];exact Nat.ne_of_gt (blk_lt (g:=gb101) (o:=.cells #[.string a0_0,.string a0_1,.int .i64 a0_2] 30 (0,0)) aq1):gb116 ≠ gb101));replace BK101:=am (bb BK101 hb);clear hb hbox hg;obtain ⟨Ao43,co43,eo43⟩:=Kd.R_slice HO104.out;subst eo43;have hnb44:=NB116_101.out;have hnc44:=NB101_116.out;obtain ⟨hcz45_0,hcz45_1,hcz45_2,hcz45_3,hfz45_0,hfz45_1,hfz45_2,hfz45_3⟩:=blk4_ BK116.out;obtain ⟨Ao46,co46,eo46⟩:=Kd.R_slice HO107.out;subst eo46;obtain ⟨Ao47,co47,eo47⟩:=Kd.S_slice HO110.out;subst eo47;obtain ⟨Ao48,co48,eo48⟩:=Kd.R_slice HO113.out;subst eo48));try go_wp2_with (first | (refine bx 1 #[.string a0_0,.string a0_1,.int .i64 a0_2] 30 ?_;intro gb101 hg w39 hbox hb;have BK101:=am (hbox);have GW101:=am ((by rw [hg];exact (below_size aq2):w.heap.size ≤ gb101));have GE101:=GW101;replace HB:=am (below_step aq2 hb);clear hb hbox hg;obtain ⟨hcz40_0,hcz40_1,hcz40_2,hfz40_0,hfz40_1,hfz40_2⟩:=blk3_ BK101.out) | (go_at_call 55;(with_reducible refine (impl_solution.calls k a0_0 a0_1 a0_2 t102 t105 t108 t111 t114 false _ A2.out).mono ?_);rintro e w41 ⟨v103,v106,v109,v112,rfl,ho0,ho1,ho2,ho3,hb⟩;have HO104:=am (Kd.R_lower ho0 (below_size aq0));have HO107:=am (Kd.R_lower ho1 (below_size aq0));have HO110:=am (Kd.S_lower ho2 (below_size aq0));have HO113:=am (Kd.R_lower ho3 (below_size aq0));replace BK101:=am (bb BK101 hb);replace HB:=am (below_step aq0 hb);(try clear hb);(try clear ho0);(try clear ho1);(try clear ho2);(try clear ho3)) | (refine bx 4 #[.slice none 0 0,.slice none 0 0,.slice none 0 0,.slice none 0 0] 59 ?_;intro gb116 hg w42 hbox hb;replace HO104:=am (Kd.R_below aq27 hb);replace HO107:=am (Kd.R_below aq29 hb);replace HO110:=am (Kd.S_below aq38 hb);replace HO113:=am (Kd.R_below aq36 hb);have BK116:=am (hbox);have GW116:=am ((by rw [hg];exact (below_size aq0):w.heap.size ≤ gb116));have GE116:=GW116;replace HB:=am (below_step aq0 hb);have NB101_116:=am ((by rw [hg];exact Nat.ne_of_lt (blk_lt (g:=gb101) (o:=.cells #[.string a0_0,.string a0_1,.int .i64 a0_2] 30 (0,0)) aq1):gb101 ≠ gb116));have NB116_101:=am ((by rw [hg];exact Nat.ne_of_gt (blk_lt (g:=gb101) (o:=.cells #[.string a0_0,.string a0_1,.int .i64 a0_2] 30 (0,0)) aq1):gb116 ≠ gb101));replace BK101:=am (bb BK101 hb);clear hb hbox hg;obtain ⟨Ao43,co43,eo43⟩:=Kd.R_slice HO104.out;subst eo43;have hnb44:=NB116_101.out;have hnc44:=NB101_116.out;obtain ⟨hcz45_0,hcz45_1,hcz45_2,hcz45_3,hfz45_0,hfz45_1,hfz45_2,hfz45_3⟩:=blk4_ BK116.out;obtain ⟨Ao46,co46,eo46⟩:=Kd.R_slice HO107.out;subst eo46;obtain ⟨Ao47,co47,eo47⟩:=Kd.S_slice HO110.out;subst eo47;obtain ⟨Ao48,co48,eo48⟩:=Kd.R_slice HO113.out;subst eo48)))
  go_ret2
  exact ⟨aq8,aq12⟩
 subst c3
 rw [if_pos rfl] at H
 obtain ⟨t117,A4,H⟩:=bn H
 obtain ⟨t120,A5,H⟩:=bn H
 have H':=am H
 clear H
 go_enter Tryz.func23,Tryz.ntmps23
 go_wp2_with (first | (refine bx 1 #[.string a0_0,.string a0_1,.int .i64 a0_2] 30 ?_;intro gb101 hg w6 hbox hb;have BK101:=am (hbox);have GW101:=am ((by rw [hg];exact (below_size aq2):w.heap.size ≤ gb101));have GE101:=GW101;replace HB:=am (below_step aq2 hb);clear hb hbox hg;obtain ⟨hcz7_0,hcz7_1,hcz7_2,hfz7_0,hfz7_1,hfz7_2⟩:=blk3_ BK101.out) | (go_at_call 55;(with_reducible refine (impl_solution.calls k a0_0 a0_1 a0_2 t102 t105 t108 t111 t114 true _ A2.out).mono ?_);rintro e w8 ⟨v103,v106,v109,v112,rfl,ho0,ho1,ho2,ho3,hb⟩;have HO104:=am (Kd.R_lower ho0 (below_size aq0));have HO107:=am (Kd.R_lower ho1 (below_size aq0));have HO110:=am (Kd.S_lower ho2 (below_size aq0));have HO113:=am (Kd.R_lower ho3 (below_size aq0));replace BK101:=am (bb BK101 hb);replace HB:=am (below_step aq0 hb);(try clear hb);(try clear ho0);(try clear ho1);(try clear ho2);(try clear ho3)) | (refine bx 4 #[.slice none 0 0,.slice none 0 0,.slice none 0 0,.slice none 0 0] 59 ?_;intro gb116 hg w9 hbox hb;replace HO104:=am (Kd.R_below aq27 hb);replace HO107:=am (Kd.R_below aq29 hb);replace HO110:=am (Kd.S_below aq38 hb);replace HO113:=am (Kd.R_below aq36 hb);have BK116:=am (hbox);have GW116:=am ((by rw [hg];exact (below_size aq0):w.heap.size ≤ gb116));have GE116:=GW116;replace HB:=am (below_step aq0 hb);have NB101_116:=am ((by rw [hg];exact Nat.ne_of_lt (blk_lt (g:=gb101) (o:=.cells #[.string a0_0,.string a0_1,.int .i64 a0_2] 30 (0,0)) aq1):gb101 ≠ gb116));have NB116_101:=am ((by rw [hg];exact Nat.ne_of_gt (blk_lt (g:=gb101) (o:=.cells #[.string a0_0,.string a0_1,.int .i64 a0_2] 30 (0,0)) aq1):gb116 ≠ gb101));replace BK101:=am (bb BK101 hb);clear hb hbox hg;obtain ⟨Ao10,co10,eo10⟩:=Kd.R_slice HO104.out;subst eo10;have hnb11:=NB116_101.out;have hnc11:=NB101_116.out;obtain ⟨hcz12_0,hcz12_1,hcz12_2,hcz12_3,hfz12_0,hfz12_1,hfz12_2,hfz12_3⟩:=blk4_ BK116.out;obtain ⟨Ao13,co13,eo13⟩:=Kd.R_slice HO107.out;subst eo13;obtain ⟨Ao14,co14,eo14⟩:=Kd.S_slice HO110.out;subst eo14;obtain ⟨Ao15,co15,eo15⟩:=Kd.R_slice HO113.out;subst eo15) | (go_at_call 57;(with_reducible refine (impl_reach_ways.calls k _ _ t102 _ _ t105 _ _ t108 _ _ t111 t117 _ ?side1 ?side2 ?side3 ?side4 ?side5 ?side6 ?side7 ?side8 A4.out).mono ?_);(case side1=>exact aq64);(case side2=>exact aq113);(case side3=>exact aq81);(case side4=>exact (Kd.R_reads' HO107.out).2.1);(case side5=>exact aq63);(case side6=>exact (Kd.S_reads' HO110.out).2.1);(case side7=>exact aq65);(case side8=>exact (Kd.R_reads' HO113.out).2.1);rintro e w16 ⟨v118,rfl,ho0,hb⟩;replace HO104:=am (Kd.R_below aq17 hb);replace HO110:=am (Kd.S_elder' aq15 (Kd.R_base ho0) hb);replace HO113:=am (Kd.R_below aq16 hb);have HO119:=am (Kd.R_lower (Kd.R_new' ho0 (Kd.R_lt aq10)) (below_size aq12));replace HO107:=am (Kd.R_elder' aq10 (Kd.R_base ho0) hb);replace BK101:=am (blk_below (g:=gb101) (o:=.cells #[.string a0_0,.string a0_1,.int .i64 a0_2] 30 (0,0)) aq32 hb);replace BK116:=am (blk_below (g:=gb116) (o:=.cells #[.slice Ao10 t102.length co10,.slice Ao13 t105.length co13,.slice Ao14 t108.length co14,.slice Ao15 t111.length co15] 59 (0,0)) aq21 hb);replace HB:=am (below_step aq12 hb);(try clear hb);(try clear ho0);obtain ⟨hcz17_0,hcz17_1,hcz17_2,hcz17_3,hfz17_0,hfz17_1,hfz17_2,hfz17_3⟩:=blk4_ BK116.out;obtain ⟨hcz18_0,hcz18_1,hcz18_2,hfz18_0,hfz18_1,hfz18_2⟩:=blk3_ BK101.out) | (go_at_call 50;(with_reducible refine (impl_reach_cells.calls k _ _ t102 _ _ t105 _ _ t108 _ _ t111 a0_1 t120 _ ?side1 ?side2 ?side3 ?side4 ?side5 ?side6 ?side7 ?side8 A5.out).mono ?_);(case side1=>exact aq54);(case side2=>exact aq113);(case side3=>exact aq68);(case side4=>exact (Kd.R_reads' HO107.out).2.1);(case side5=>exact aq66);(case side6=>exact (Kd.S_reads' HO110.out).2.1);(case side7=>exact aq67);(case side8=>exact (Kd.R_reads' HO113.out).2.1);rintro e w19 ⟨v121,rfl,ho0,hb⟩;replace HO104:=am (Kd.R_below aq27 hb);replace HO110:=am (Kd.S_elder' aq38 (Kd.R_base ho0) hb);replace HO113:=am (Kd.R_below aq36 hb);have HO122:=am (Kd.R_lower (Kd.R_new' (Kd.R_new' ho0 (Kd.R_lt aq29)) (Kd.R_lt aq51)) (below_size aq12));replace HO107:=am (Kd.R_elder' aq29 (Kd.R_base ho0) hb);replace HO119:=am (Kd.R_elder' aq51 (Kd.R_base ho0) hb);replace BK101:=am (bb BK101 hb);replace BK116:=am (bb BK116 hb);replace HB:=am (below_step aq12 hb);(try clear hb);(try clear ho0);obtain ⟨Ao20,co20,eo20⟩:=Kd.R_slice HO122.out;subst eo20))
 repeat (go_quiet (first | (refine bx 1 #[.string a0_0,.string a0_1,.int .i64 a0_2] 30 ?_;intro gb101 hg w6 hbox hb;have BK101:=am (hbox);have GW101:=am ((by rw [hg];exact (below_size aq2):w.heap.size ≤ gb101));have GE101:=GW101;replace HB:=am (below_step aq2 hb);clear hb hbox hg;obtain ⟨hcz7_0,hcz7_1,hcz7_2,hfz7_0,hfz7_1,hfz7_2⟩:=blk3_ BK101.out) | (go_at_call 55;(with_reducible refine (impl_solution.calls k a0_0 a0_1 a0_2 t102 t105 t108 t111 t114 true _ A2.out).mono ?_);rintro e w8 ⟨v103,v106,v109,v112,rfl,ho0,ho1,ho2,ho3,hb⟩;have HO104:=am (Kd.R_lower ho0 (below_size aq0));have HO107:=am (Kd.R_lower ho1 (below_size aq0));have HO110:=am (Kd.S_lower ho2 (below_size aq0));have HO113:=am (Kd.R_lower ho3 (below_size aq0));replace BK101:=am (bb BK101 hb);replace HB:=am (below_step aq0 hb);(try clear hb);(try clear ho0);(try clear ho1);(try clear ho2);(try clear ho3)) | (refine bx 4 #[.slice none 0 0,.slice none 0 0,.slice none 0 0,.slice none 0 0] 59 ?_;intro gb116 hg w9 hbox hb;replace HO104:=am (Kd.R_below aq27 hb);replace HO107:=am (Kd.R_below aq29 hb);replace HO110:=am (Kd.S_below aq38 hb);replace HO113:=am (Kd.R_below aq36 hb);have BK116:=am (hbox);have GW116:=am ((by rw [hg];exact (below_size aq0):w.heap.size ≤ gb116));have GE116:=GW116;replace HB:=am (below_step aq0 hb);have NB101_116:=am ((by rw [hg];exact Nat.ne_of_lt (blk_lt (g:=gb101) (o:=.cells #[.string a0_0,.string a0_1,.int .i64 a0_2] 30 (0,0)) aq1):gb101 ≠ gb116));have NB116_101:=am ((by rw [hg];exact Nat.ne_of_gt (blk_lt (g:=gb101) (o:=.cells #[.string a0_0,.string a0_1,.int .i64 a0_2] 30 (0,0)) aq1):gb116 ≠ gb101));replace BK101:=am (bb BK101 hb);clear hb hbox hg;obtain ⟨Ao10,co10,eo10⟩:=Kd.R_slice HO104.out;subst eo10;have hnb11:=NB116_101.out;have hnc11:=NB101_116.out;obtain ⟨hcz12_0,hcz12_1,hcz12_2,hcz12_3,hfz12_0,hfz12_1,hfz12_2,hfz12_3⟩:=blk4_ BK116.out;obtain ⟨Ao13,co13,eo13⟩:=Kd.R_slice HO107.out;subst eo13;obtain ⟨Ao14,co14,eo14⟩:=Kd.S_slice HO110.out;subst eo14;obtain ⟨Ao15,co15,eo15⟩:=Kd.R_slice HO113.out;subst eo15) | (go_at_call 57;(with_reducible refine (impl_reach_ways.calls k _ _ t102 _ _ t105 _ _ t108 _ _ t111 t117 _ ?side1 ?side2 ?side3 ?side4 ?side5 ?side6 ?side7 ?side8 A4.out).mono ?_);(case side1=>exact aq64);(case side2=>exact aq113);(case side3=>exact aq81);(case side4=>exact (Kd.R_reads' HO107.out).2.1);(case side5=>exact aq63);(case side6=>exact (Kd.S_reads' HO110.out).2.1);(case side7=>exact aq65);(case side8=>exact (Kd.R_reads' HO113.out).2.1);rintro e w16 ⟨v118,rfl,ho0,hb⟩;replace HO104:=am (Kd.R_below aq17 hb);replace HO110:=am (Kd.S_elder' aq15 (Kd.R_base ho0) hb);replace HO113:=am (Kd.R_below aq16 hb);have HO119:=am (Kd.R_lower (Kd.R_new' ho0 (Kd.R_lt aq10)) (below_size aq12));replace HO107:=am (Kd.R_elder' aq10 (Kd.R_base ho0) hb);replace BK101:=am (blk_below (g:=gb101) (o:=.cells #[.string a0_0,.string a0_1,.int .i64 a0_2] 30 (0,0)) aq32 hb);replace BK116:=am (blk_below (g:=gb116) (o:=.cells #[.slice Ao10 t102.length co10,.slice Ao13 t105.length co13,.slice Ao14 t108.length co14,.slice Ao15 t111.length co15] 59 (0,0)) aq21 hb);replace HB:=am (below_step aq12 hb);(try clear hb);(try clear ho0);obtain ⟨hcz17_0,hcz17_1,hcz17_2,hcz17_3,hfz17_0,hfz17_1,hfz17_2,hfz17_3⟩:=blk4_ BK116.out;obtain ⟨hcz18_0,hcz18_1,hcz18_2,hfz18_0,hfz18_1,hfz18_2⟩:=blk3_ BK101.out) | (go_at_call 50;(with_reducible refine (impl_reach_cells.calls k _ _ t102 _ _ t105 _ _ t108 _ _ t111 a0_1 t120 _ ?side1 ?side2 ?side3 ?side4 ?side5 ?side6 ?side7 ?side8 A5.out).mono ?_);(case side1=>exact aq54);(case side2=>exact aq113);(case side3=>exact aq68);(case side4=>exact (Kd.R_reads' HO107.out).2.1);(case side5=>exact aq66);(case side6=>exact (Kd.S_reads' HO110.out).2.1);(case side7=>exact aq67);(case side8=>exact (Kd.R_reads' HO113.out).2.1);rintro e w19 ⟨v121,rfl,ho0,hb⟩;replace HO104:=am (Kd.R_below aq27 hb);replace HO110:=am (Kd.S_elder' aq38 (Kd.R_base ho0) hb);replace HO113:=am (Kd.R_below aq36 hb);have HO122:=am (Kd.R_lower (Kd.R_new' (Kd.R_new' ho0 (Kd.R_lt aq29)) (Kd.R_lt aq51)) (below_size aq12));replace HO107:=am (Kd.R_elder' aq29 (Kd.R_base ho0) hb);replace HO119:=am (Kd.R_elder' aq51 (Kd.R_base ho0) hb);replace BK101:=am (bb BK101 hb);replace BK116:=am (bb BK116 hb);replace HB:=am (below_step aq12 hb);(try clear hb);(try clear ho0);obtain ⟨Ao20,co20,eo20⟩:=Kd.R_slice HO122.out;subst eo20));try go_wp2_with (first | (refine bx 1 #[.string a0_0,.string a0_1,.int .i64 a0_2] 30 ?_;intro gb101 hg w6 hbox hb;have BK101:=am (hbox);have GW101:=am ((by rw [hg];exact (below_size aq2):w.heap.size ≤ gb101));have GE101:=GW101;replace HB:=am (below_step aq2 hb);clear hb hbox hg;obtain ⟨hcz7_0,hcz7_1,hcz7_2,hfz7_0,hfz7_1,hfz7_2⟩:=blk3_ BK101.out) | (go_at_call 55;(with_reducible refine (impl_solution.calls k a0_0 a0_1 a0_2 t102 t105 t108 t111 t114 true _ A2.out).mono ?_);rintro e w8 ⟨v103,v106,v109,v112,rfl,ho0,ho1,ho2,ho3,hb⟩;have HO104:=am (Kd.R_lower ho0 (below_size aq0));have HO107:=am (Kd.R_lower ho1 (below_size aq0));have HO110:=am (Kd.S_lower ho2 (below_size aq0));have HO113:=am (Kd.R_lower ho3 (below_size aq0));replace BK101:=am (bb BK101 hb);replace HB:=am (below_step aq0 hb);(try clear hb);(try clear ho0);(try clear ho1);(try clear ho2);(try clear ho3)) | (refine bx 4 #[.slice none 0 0,.slice none 0 0,.slice none 0 0,.slice none 0 0] 59 ?_;intro gb116 hg w9 hbox hb;replace HO104:=am (Kd.R_below aq27 hb);replace HO107:=am (Kd.R_below aq29 hb);replace HO110:=am (Kd.S_below aq38 hb);replace HO113:=am (Kd.R_below aq36 hb);have BK116:=am (hbox);have GW116:=am ((by rw [hg];exact (below_size aq0):w.heap.size ≤ gb116));have GE116:=GW116;replace HB:=am (below_step aq0 hb);have NB101_116:=am ((by rw [hg];exact Nat.ne_of_lt (blk_lt (g:=gb101) (o:=.cells #[.string a0_0,.string a0_1,.int .i64 a0_2] 30 (0,0)) aq1):gb101 ≠ gb116));have NB116_101:=am ((by rw [hg];exact Nat.ne_of_gt (blk_lt (g:=gb101) (o:=.cells #[.string a0_0,.string a0_1,.int .i64 a0_2] 30 (0,0)) aq1):gb116 ≠ gb101));replace BK101:=am (bb BK101 hb);clear hb hbox hg;obtain ⟨Ao10,co10,eo10⟩:=Kd.R_slice HO104.out;subst eo10;have hnb11:=NB116_101.out;have hnc11:=NB101_116.out;obtain ⟨hcz12_0,hcz12_1,hcz12_2,hcz12_3,hfz12_0,hfz12_1,hfz12_2,hfz12_3⟩:=blk4_ BK116.out;obtain ⟨Ao13,co13,eo13⟩:=Kd.R_slice HO107.out;subst eo13;obtain ⟨Ao14,co14,eo14⟩:=Kd.S_slice HO110.out;subst eo14;obtain ⟨Ao15,co15,eo15⟩:=Kd.R_slice HO113.out;subst eo15) | (go_at_call 57;(with_reducible refine (impl_reach_ways.calls k _ _ t102 _ _ t105 _ _ t108 _ _ t111 t117 _ ?side1 ?side2 ?side3 ?side4 ?side5 ?side6 ?side7 ?side8 A4.out).mono ?_);(case side1=>exact aq64);(case side2=>exact aq113);(case side3=>exact aq81);(case side4=>exact (Kd.R_reads' HO107.out).2.1);(case side5=>exact aq63);(case side6=>exact (Kd.S_reads' HO110.out).2.1);(case side7=>exact aq65);(case side8=>exact (Kd.R_reads' HO113.out).2.1);rintro e w16 ⟨v118,rfl,ho0,hb⟩;replace HO104:=am (Kd.R_below aq17 hb);replace HO110:=am (Kd.S_elder' aq15 (Kd.R_base ho0) hb);replace HO113:=am (Kd.R_below aq16 hb);have HO119:=am (Kd.R_lower (Kd.R_new' ho0 (Kd.R_lt aq10)) (below_size aq12));replace HO107:=am (Kd.R_elder' aq10 (Kd.R_base ho0) hb);replace BK101:=am (blk_below (g:=gb101) (o:=.cells #[.string a0_0,.string a0_1,.int .i64 a0_2] 30 (0,0)) aq32 hb);replace BK116:=am (blk_below (g:=gb116) (o:=.cells #[.slice Ao10 t102.length co10,.slice Ao13 t105.length co13,.slice Ao14 t108.length co14,.slice Ao15 t111.length co15] 59 (0,0)) aq21 hb);replace HB:=am (below_step aq12 hb);(try clear hb);(try clear ho0);obtain ⟨hcz17_0,hcz17_1,hcz17_2,hcz17_3,hfz17_0,hfz17_1,hfz17_2,hfz17_3⟩:=blk4_ BK116.out;obtain ⟨hcz18_0,hcz18_1,hcz18_2,hfz18_0,hfz18_1,hfz18_2⟩:=blk3_ BK101.out) | (go_at_call 50;(with_reducible refine (impl_reach_cells.calls k _ _ t102 _ _ t105 _ _ t108 _ _ t111 a0_1 t120 _ ?side1 ?side2 ?side3 ?side4 ?side5 ?side6 ?side7 ?side8 A5.out).mono ?_);(case side1=>exact aq54);(case side2=>exact aq113);(case side3=>exact aq68);(case side4=>exact (Kd.R_reads' HO107.out).2.1);(case side5=>exact aq66);(case side6=>exact (Kd.S_reads' HO110.out).2.1);(case side7=>exact aq67);(case side8=>exact (Kd.R_reads' HO113.out).2.1);rintro e w19 ⟨v121,rfl,ho0,hb⟩;replace HO104:=am (Kd.R_below aq27 hb);replace HO110:=am (Kd.S_elder' aq38 (Kd.R_base ho0) hb);replace HO113:=am (Kd.R_below aq36 hb);have HO122:=am (Kd.R_lower (Kd.R_new' (Kd.R_new' ho0 (Kd.R_lt aq29)) (Kd.R_lt aq51)) (below_size aq12));replace HO107:=am (Kd.R_elder' aq29 (Kd.R_base ho0) hb);replace HO119:=am (Kd.R_elder' aq51 (Kd.R_base ho0) hb);replace BK101:=am (bb BK101 hb);replace BK116:=am (bb BK116 hb);replace HB:=am (below_step aq12 hb);(try clear hb);(try clear ho0);obtain ⟨Ao20,co20,eo20⟩:=Kd.R_slice HO122.out;subst eo20)))
 go_loopg [7,26] k (fun kq v7 v26 w'=>∃ (x7_1:Int) (x26_1:Int),v7 = .int .i64 x7_1 ∧ v26 = .int .i64 x26_1 ∧ Aside0 (impl_CountSolutions.l0 kq t114 x7_1 t117 t120 (t120.length:Int) x26_1 a0_0 a0_1 a0_2 t102 t105 t108 t111 = some (r1,r2)) ∧ Aside0 (kq ≤ k) ∧ Aside0 (Kd.R (Kd.int .i64) 3 w' w.heap.size (fun k_=>some k_ ≠ ((.slice Ao20 t120.length co20):Value).ownBlock ∧ some k_ ≠ ((.slice Ao13 t105.length co13):Value).ownBlock) v118 t117) ∧ Aside0 (Kd.R (Kd.int .i64) 3 w' w.heap.size (fun k_=>some k_ ≠ (v118:Value).ownBlock ∧ some k_ ≠ ((.slice Ao13 t105.length co13):Value).ownBlock) (.slice Ao20 t120.length co20) t120) ∧ Aside0 (Kd.R Kd.string 9 w' w.heap.size (fun k_=>some k_ ≠ ((.slice Ao15 t111.length co15):Value).ownBlock) (.slice Ao10 t102.length co10) t102) ∧ Aside0 (Kd.R (Kd.int .i64) 3 w' w.heap.size (fun k_=>some k_ ≠ (v118:Value).ownBlock ∧ some k_ ≠ ((.slice Ao20 t120.length co20):Value).ownBlock) (.slice Ao13 t105.length co13) t105) ∧ Aside0 (Kd.S (Kd.slice 3 (Kd.int .i64)) 40 w' w.heap.size (fun k_=>some k_ ≠ (v118:Value).ownBlock ∧ some k_ ≠ ((.slice Ao20 t120.length co20):Value).ownBlock ∧ some k_ ≠ ((.slice Ao13 t105.length co13):Value).ownBlock) (.slice Ao14 t108.length co14) t108) ∧ Aside0 (Kd.R Kd.string 9 w' w.heap.size (fun k_=>some k_ ≠ ((.slice Ao10 t102.length co10):Value).ownBlock) (.slice Ao15 t111.length co15) t111) ∧ Aside0 (w'.heap[gb101]? = some (.cells #[.string a0_0,.string a0_1,.int .i64 a0_2] 30 (0,0))) ∧ Aside0 (w'.heap[gb116]? = some (.cells #[(.slice Ao10 t102.length co10),(.slice Ao13 t105.length co13),(.slice Ao14 t108.length co14),(.slice Ao15 t111.length co15)] 59 (0,0))) ∧ Aside0 (Below w.heap.size w w'))
 case atStart=>exact ⟨(0),(0),aq7,aq7,H',⟨Nat.le_refl _⟩,⟨by (with_reducible repeat (first | apply Kd.R_alloc | apply Kd.R_drewN | apply Kd.R_drew));exact Kd.R_mono HO119.out (fun _ hk=>⟨hk.2,hk.1.2⟩)⟩,⟨by (with_reducible repeat (first | apply Kd.R_alloc | apply Kd.R_drewN | apply Kd.R_drew));exact Kd.R_mono HO122.out (fun _ hk=>⟨hk.2,hk.1.2⟩)⟩,⟨aq27⟩,⟨by (with_reducible repeat (first | apply Kd.R_alloc | apply Kd.R_drewN | apply Kd.R_drew));exact Kd.R_mono HO107.out (fun _ hk=>⟨hk.1.2,hk.2⟩)⟩,⟨by (with_reducible repeat (first | apply Kd.S_alloc | apply Kd.S_drewN | apply Kd.S_drew));exact Kd.S_mono HO110.out (fun _ hk=>⟨hk.1.2,⟨hk.2,hk.1.1⟩⟩)⟩,⟨aq36⟩,⟨aq1⟩,⟨aq41⟩,⟨aq12⟩⟩
 case round =>
  clear H'
  try clear c1
  try clear c2
  try clear p2
  try clear c3
  try clear c11
  try clear hcz12_0
  try clear hcz12_1
  try clear hcz12_2
  try clear hcz12_3
  try clear hcz17_0
  try clear hcz17_1
  try clear hcz17_2
  try clear hcz17_3
  try clear hcz18_0
  try clear hcz18_1
  try clear hcz18_2
  try clear hcz7_0
  try clear hcz7_1
  try clear hcz7_2
  try clear hfz12_0
  try clear hfz12_1
  try clear hfz12_2
  try clear hfz12_3
  try clear hfz17_0
  try clear hfz17_1
  try clear hfz17_2
  try clear hfz17_3
  try clear hfz18_0
  try clear hfz18_1
  try clear hfz18_2
  try clear hfz7_0
  try clear hfz7_1
  try clear hfz7_2
  obtain ⟨x7_1,x26_1,rfl,rfl,HA,HK1,HO_8,HO_24,HO_117000,HO_117001,HO_117002,HO_117003,BK101,BK116,HB⟩:=hrel
  cases gk with
  | zero=>exact absurd HA.out (by simp [impl_CountSolutions.l0])
  | succ k1 =>
   have H:=HA.out
   clear HA
   simp only [impl_CountSolutions.l0] at H
   by_cases c21:x26_1 < (t120.length:Int)
   rotate_left
   ·rw [if_neg c21] at H
    have c21b0:=decide_eq_false c21
    clear c21
    simp only [Option.some.injEq,Prod.mk.injEq] at H
    obtain ⟨rfl,rfl⟩:=H
    go_wp2
    repeat (go_quiet (fail);try go_wp2)
    go_ret2
    exact ⟨aq8,aq12⟩
   rw [if_pos c21] at H
   have c21b0:=decide_eq_true c21
   clear c21
   replace H:=gd H
   obtain ⟨c22,H⟩:=H
   have c22b0:=decide_eq_true c22
   clear c22
   replace H:=gd H
   obtain ⟨c23,H⟩:=H
   have c23b0:=decide_eq_true c23
   clear c23
   by_cases c24:(rd t120 x26_1) = a0_2
   rotate_left
   ·rw [if_neg c24] at H
    have c24b0:=beq_eq_false_iff_ne.mpr c24
    have c24b1:=bne_iff_ne.mpr c24
    have H':=am H
    clear H
    have p123:0 ≤ (x26_1:Int):=of_decide_eq_true aq4
    have q123:x26_1 < (t120.length:Int):=of_decide_eq_true aq4
    obtain ⟨ad123,e123,hx123_0⟩:=Kd.at_int (Kd.R_reads' HO_24.out).2.2 x26_1 p123 q123
    cases e123
    replace p123:=eq_true p123
    replace q123:=eq_true q123
    have hnb37:=NB101_116.out
    have hnc37:=NB116_101.out
    obtain ⟨hcz38_0,hcz38_1,hcz38_2,hfz38_0,hfz38_1,hfz38_2⟩:=blk3_ BK101.out
    go_wp2
    repeat (go_quiet (fail);try go_wp2)
    go_roundg k1
    case measure=>have:=HK1.out;omega
    case rel=>exact ⟨(x7_1),(wrap64 (x26_1 + 1)),aq7,aq7,H',⟨aq70⟩,⟨aq25⟩,⟨aq88⟩,⟨aq86⟩,⟨aq85⟩,⟨aq83⟩,⟨aq84⟩,⟨aq1⟩,⟨aq41⟩,⟨aq12⟩⟩
   rw [if_pos c24] at H
   have c24b0:=beq_iff_eq.mpr c24
   have c24b1:=bne_eq_false_iff_eq.mpr c24
   clear c24
   replace H:=gd H
   obtain ⟨c25,H⟩:=H
   have c25b0:=decide_eq_true c25
   clear c25
   replace H:=gd H
   obtain ⟨c26,H⟩:=H
   have c26b0:=decide_eq_true c26
   clear c26
   replace H:=gd H
   obtain ⟨c27,H⟩:=H
   have c27b0:=decide_eq_true c27
   clear c27
   by_cases c28:(rd t105 x26_1) = (rd t105 t114)
   rotate_left
   ·rw [if_neg c28] at H
    have c28b0:=beq_eq_false_iff_ne.mpr c28
    have c28b1:=bne_iff_ne.mpr c28
    have H':=am H
    clear H
    have p123:0 ≤ (x26_1:Int):=of_decide_eq_true aq4
    have q123:x26_1 < (t120.length:Int):=of_decide_eq_true aq4
    obtain ⟨ad123,e123,hx123_0⟩:=Kd.at_int (Kd.R_reads' HO_24.out).2.2 x26_1 p123 q123
    cases e123
    replace p123:=eq_true p123
    replace q123:=eq_true q123
    have hnb34:=NB101_116.out
    have hnc34:=NB116_101.out
    obtain ⟨hcz35_0,hcz35_1,hcz35_2,hfz35_0,hfz35_1,hfz35_2⟩:=blk3_ BK101.out
    obtain ⟨hcz36_0,hcz36_1,hcz36_2,hcz36_3,hfz36_0,hfz36_1,hfz36_2,hfz36_3⟩:=blk4_ BK116.out
    have p124:0 ≤ (x26_1:Int):=of_decide_eq_true aq4
    have q124:x26_1 < (t105.length:Int):=of_decide_eq_true aq4
    obtain ⟨ad124,e124,hx124_0⟩:=Kd.at_int (Kd.R_reads' HO_117001.out).2.2 x26_1 p124 q124
    cases e124
    replace p124:=eq_true p124
    replace q124:=eq_true q124
    have p125:0 ≤ (t114:Int):=of_decide_eq_true aq4
    have q125:t114 < (t105.length:Int):=of_decide_eq_true aq4
    obtain ⟨ad125,e125,hx125_0⟩:=Kd.at_int (Kd.R_reads' HO_117001.out).2.2 t114 p125 q125
    obtain rfl:ad124 = ad125:=(by injection e125)
    replace p125:=eq_true p125
    replace q125:=eq_true q125
    go_wp2
    repeat (go_quiet (fail);try go_wp2)
    go_roundg k1
    case measure=>have:=HK1.out;omega
    case rel=>exact ⟨(x7_1),(wrap64 (x26_1 + 1)),aq7,aq7,H',⟨aq70⟩,⟨aq25⟩,⟨aq88⟩,⟨aq86⟩,⟨aq85⟩,⟨aq83⟩,⟨aq84⟩,⟨aq1⟩,⟨aq41⟩,⟨aq12⟩⟩
   rw [if_pos c28] at H
   have c28b0:=beq_iff_eq.mpr c28
   have c28b1:=bne_eq_false_iff_eq.mpr c28
   clear c28
   replace H:=gd H
   obtain ⟨c29,H⟩:=H
   have c29b0:=decide_eq_true c29
   clear c29
   have H':=am H
   clear H
   have p123:0 ≤ (x26_1:Int):=of_decide_eq_true aq4
   have q123:x26_1 < (t120.length:Int):=of_decide_eq_true aq4
   obtain ⟨ad123,e123,hx123_0⟩:=Kd.at_int (Kd.R_reads' HO_24.out).2.2 x26_1 p123 q123
   cases e123
   replace p123:=eq_true p123
   replace q123:=eq_true q123
   have hnb30:=NB101_116.out
   have hnc30:=NB116_101.out
   obtain ⟨hcz31_0,hcz31_1,hcz31_2,hfz31_0,hfz31_1,hfz31_2⟩:=blk3_ BK101.out
   obtain ⟨hcz32_0,hcz32_1,hcz32_2,hcz32_3,hfz32_0,hfz32_1,hfz32_2,hfz32_3⟩:=blk4_ BK116.out
   have p124:0 ≤ (x26_1:Int):=of_decide_eq_true aq4
   have q124:x26_1 < (t105.length:Int):=of_decide_eq_true aq4
   obtain ⟨ad124,e124,hx124_0⟩:=Kd.at_int (Kd.R_reads' HO_117001.out).2.2 x26_1 p124 q124
   cases e124
   replace p124:=eq_true p124
   replace q124:=eq_true q124
   have p125:0 ≤ (t114:Int):=of_decide_eq_true aq4
   have q125:t114 < (t105.length:Int):=of_decide_eq_true aq4
   obtain ⟨ad125,e125,hx125_0⟩:=Kd.at_int (Kd.R_reads' HO_117001.out).2.2 t114 p125 q125
   obtain rfl:ad124 = ad125:=(by injection e125)
   replace p125:=eq_true p125
   replace q125:=eq_true q125
   obtain ⟨Ao33,co33,eo33⟩:=Kd.R_slice HO_8.out
   subst eo33
   have p126:0 ≤ (x26_1:Int):=of_decide_eq_true aq4
   have q126:x26_1 < (t117.length:Int):=of_decide_eq_true aq4
   obtain ⟨ad126,e126,hx126_0⟩:=Kd.at_int (Kd.R_reads' HO_8.out).2.2 x26_1 p126 q126
   cases e126
   replace p126:=eq_true p126
   replace q126:=eq_true q126
   go_wp2
   repeat (go_quiet (fail);try go_wp2)
   go_roundg k1
   case measure=>have:=HK1.out;omega
   case rel=>exact ⟨(wrap64 (x7_1 + (rd t117 x26_1))),(wrap64 (x26_1 + 1)),aq7,aq7,H',⟨aq70⟩,⟨aq25⟩,⟨aq88⟩,⟨aq86⟩,⟨aq85⟩,⟨aq83⟩,⟨aq84⟩,⟨aq1⟩,⟨aq41⟩,⟨aq12⟩⟩

end Go.Proofs.YtldhkbiomingbaaGreatDoor.F

namespace Go.Proofs.YtldhkbiomingbaaGreatDoor.F
open Go.RowKit Go.Proofs.YtldhkbiomingbaaGreatDoor Go.YW.PrintWords Go.YW.PrintMore
theorem word_le {w h:Nat} {cs:List Int} {s:RS} (o:RS.Ok w h cs s):∀ (m i:Nat),i ≤ m → i < s.T.length → (s.W.getD i []).length ≤ i
 | 0,i,hm,hi=>by
  obtain rfl:i = 0:=by omega
  rw [o.first];exact Nat.le_refl _
 | m + 1,i,hm,hi=>by
  by_cases h0:i = 0
  ·subst h0;rw [o.first];exact Nat.le_refl _
  obtain ⟨b1,_,b3⟩:=o.back i hi o_m
  have:=word_le o m _ o_m (Nat.lt_trans b1 hi)
  rw [b3,List.length_append,List.length_singleton]
  omega
theorem farF_le {w h:Nat} {cs:List Int} {s:RS} (o:RS.Ok w h cs s):∀ a ∈ s.F,a ≤ 300:=fun a ha=>by
 obtain ⟨i,hi,rfl⟩:=List.getElem_of_mem ha
 have hi':i < s.T.length:=by rw [← o.lF];exact hi
 have h1:=o.far i hi'
 have h2:=word_le o i i (Nat.le_refl _) hi'
 rw [getD_lt hi] at h1
 have:=o.most
 omega
theorem waysN_len (F:List Nat):∀ (L:List (List Nat)) (i:Nat) (Q:List Int),(waysN F i L Q).length = Q.length
 | [],_,_=>rfl
 | l :: L,i,Q=>by
  unfold waysN
  rw [waysN_len F L]
  clear L
  induction l generalizing Q with
  | nil=>rfl
  | cons a r ih=>rw [List.foldl_cons,ih,addW_len]
theorem waysL_len {w h:Nat} {cs:List Int} {s:RS} (o:RS.Ok w h cs s):(waysL s).length = s.T.length:=by
 unfold waysL
 rw [waysN_len,List.length_cons,zerosI_len]
 have:=o.pos
 omega
theorem cnt_l0 {w h:Nat} {cs:List Int} {s:RS} (o:RS.Ok w h cs s) {t n:ByteArray} {goal:Int} {i:Nat} (hi:i < s.T.length) (TT:List ByteArray) (NN:List (List Int)) (WW:List ByteArray) :
  ∀ (d k:Nat),k + d = s.T.length → Ev (fun f=>impl_CountSolutions.l0 f (i:Int) (cntN s (bt n 0) goal (s.F.getD i 0) k) (waysL s) (cellsI s (bt n 0)) ((cellsI s (bt n 0)).length:Int) (k:Int) t n goal TT (castsI s.F) NN WW) (cntN s (bt n 0) goal (s.F.getD i 0) s.T.length,true)
 | 0,k,hk=>by
  obtain rfl:k = s.T.length:=by omega
  exact Ev.step (fun f=>by rw [impl_CountSolutions.l0,if_neg (by rw [cellsI_len];omega)]) (Ev.now _)
 | d + 1,k,hk=>by
  have hlt:k < s.T.length:=by omega
  have hm:=o.most
  have ih:=cnt_l0 o (t:=t) (n:=n) (goal:=goal) hi TT NN WW d (k + 1) o_m
  have hW:wrap64 ((k:Int) + 1) = ((k + 1:Nat):Int):=w64t (n:=k + 1) o_m
  have hc:rd (cellsI s (bt n 0)) (k:Int) = placeI (bt n 0) (s.T.getD k []):=by
   unfold rd;rw [Int.toNat_natCast];exact cellsI_get s _ hlt
  have hk1:(k:Int) < ((cellsI s (bt n 0)).length:Int):=by rw [cellsI_len];omega
  have hk2:(k:Int) < ((castsI s.F).length:Int):=by rw [castsI_length,o.lF];omega
  have hk3:(k:Int) < ((waysL s).length:Int):=by rw [waysL_len o];omega
  have hi2:(i:Int) < ((castsI s.F).length:Int):=by rw [castsI_length,o.lF];omega
  have hrk:=casts_far (s:=s) (i:=k) (by rw [o.lF];exact hlt)
  have hri:=casts_far (s:=s) (i:=i) (by rw [o.lF];exact hi)
  have hrw:rd (waysL s) (k:Int) = (waysL s).getD k 0:=by unfold rd;rw [Int.toNat_natCast]
  refine Ev.step (fun f=>?_) ih
  rw [impl_CountSolutions.l0,if_pos hk1,if_pos (Int.natCast_nonneg k),if_pos hk1,hc,hW,cntN_succ]
  by_cases e:placeI (bt n 0) (s.T.getD k []) = goal
  rotate_left
  ·rw [if_neg e,if_neg (fun q=>e q.2)]
  rw [if_pos e,if_pos hk2,if_pos (Int.natCast_nonneg i),if_pos hi2,hrk,hri]
  by_cases f2:s.F.getD k 0 = s.F.getD i 0
  rotate_left
  ·rw [if_neg (fun q=>f2 (Int.ofNat_inj.1 q)),if_neg (fun q=>f2 q.1)]
  rw [if_pos (congrArg (fun x:Nat=>(x:Int)) f2),if_pos hk3,hrw,if_pos (show s.F.getD k 0 = s.F.getD i 0 ∧ _ from ⟨f2,e⟩)]
theorem impl_cnt_ev {t n:ByteArray} {goal:Int} (ht:t.size < 4294967281):Ev (fun k=>impl_CountSolutions.f k t n goal) (cntA t n goal):=by
 unfold impl_CountSolutions.f cntA
 cases e:puS t n goal with
 | none =>
  obtain ⟨r1,r2,r3,r4,r5,h⟩:=impl_solution_none ht e
  exact Ev.bind h (Ev.congr (fun k=>if_neg Bool.false_ne_true) (Ev.now _))
 | some q =>
  obtain ⟨w,h,s,i⟩:=q
  have hs:=impl_solution_some ht e
  obtain ⟨hp,hsr,hgi,hi⟩:=puS_some e
  have hn:=puzB_name hp
  obtain ⟨cs,_,_,_,_,o⟩:=srch_some hsr
  refine Ev.bind hs ?_
  by_cases hf:s.F.getD i 0 ≤ 40
  rotate_left
  ·simp only [if_neg hf]
   exact Ev.congr (fun k=>if_neg (by simpa using hf)) (Ev.now _)
  simp only [if_pos hf]
  refine Ev.congr (fun k=>if_pos (decide_eq_true hf)) ?_
  refine Ev.bind (ways_ev o (farF_le o.ok) (rW s)) ?_
  refine Ev.bind (cells_ev (w:=w) (h:=h) (s:=s) hn o.ok.tray o.ok.most (castsI s.F) (s.N.map castsI) (rW s)) ?_
  exact cnt_l0 o.ok hi _ _ _ s.T.length 0 (Nat.zero_add _)
end Go.Proofs.YtldhkbiomingbaaGreatDoor.F

namespace Go.Proofs.YtldhkbiomingbaaGreatDoor.F
open Go.Proofs.YtldhkbiomingbaaGreatDoor
open Go.RowKit Go.YW.PrintWords Go.YW.PrintLast Go.YW.PrintMore Go.Lib
attribute [local go_sem] max2_int min2_int
def cellN (v:Value) (W:World):Nat:=match v with
 | .pointer (some a)=>(match W.cell? a with
  | some (.int _ i)=>(i + 1).toNat
  | _=>0)
 | _=>0
theorem cellN_of {W:World} {a:Addr} {k:IntKind} {i:Int} (h:W.cell? a = some (.int k i)):cellN (.pointer (some a)) W = (i + 1).toNat:=by
 unfold cellN
 simp only
 rw [h]
def leadF (s:RS) (A:List Bool) (k:Nat) (l:List Nat):Bool:=l.any fun a=>(s.F.getD a 0 == s.F.getD k 0 + 1) && A.getD a false
def downJ (s:RS) (nm goal:Int) (far k:Nat) (A:List Bool):List Bool:=downI (fun k=>s.F.getD k 0) (fun k=>decide (placeI nm (s.T.getD k []) = goal)) (fun k=>s.N.getD k []) far k A
theorem downJ_eq {s:RS} {nm goal:Int} {far m:Nat} {A:List Bool} (h:s.F.getD m 0 = far):downJ s nm goal far (m + 1) A = downJ s nm goal far m (A.set m (decide (placeI nm (s.T.getD m []) = goal))):=by
 show downJ s nm goal far m (A.set m (if s.F.getD m 0 = far then _ else _)) = _
 rw [if_pos h]
theorem downJ_ne {s:RS} {nm goal:Int} {far m:Nat} {A:List Bool} (h:s.F.getD m 0 ≠ far):downJ s nm goal far (m + 1) A = downJ s nm goal far m (A.set m (leadF s A m (s.N.getD m []))):=by
 show downJ s nm goal far m (A.set m (if s.F.getD m 0 = far then _ else _)) = _
 rw [if_neg h];rfl
theorem downJ_good (s:RS) (nm goal:Int) (far:Nat):downJ s nm goal far s.T.length (List.replicate s.T.length false) = goodL s nm goal far:=down_same _ _ _ far _ _ (fun n _=>by rw [List.getD_eq_getElem?_getD,List.getElem?_replicate];split <;> rfl)
theorem lead_pred {s:RS} {k:Nat} (hk:k < s.T.length) (hfk:s.F.getD k 0 ≤ 300) (A:List Bool) (b6 b11 b12 g cap bF oF:Nat) (x0 x2 x3:Value) (c1 lF:Nat) (hlF:lF = s.T.length) (w:World)
  (h6:w.heap[b6]? = some (.cells #[x0,.slice (some ⟨bF,oF,none⟩) lF c1,x2,x3] 59 (0,0))) (h12:w.heap[b12]? = some (.cells #[.int .i64 (k:Int)] 3 (0,0))) (h11:w.heap[b11]? = some (.cells #[.slice (some ⟨g,0,none⟩) s.T.length cap] 81 (0,0)))
  (hF:∀ a,a < s.T.length → w.cell? ⟨bF,oF + a,none⟩ = some (.int .i64 ((s.F.getD a 0:Nat):Int))) (hG:∀ a,a < s.T.length → w.cell? ⟨g,a,none⟩ = some (.bool (A.getD a false))) :
  PredAt Tryz.prog 60 #[.pointer (some ⟨b6,0,none⟩),.pointer (some ⟨b12,0,none⟩),.pointer (some ⟨b11,0,none⟩)] (fun x:Fin s.T.length=>Value.int .i64 (x.val:Int)) (fun x=>(s.F.getD x.val 0 == s.F.getD k 0 + 1) && A.getD x.val false) w:=fun W x hb=>by
 obtain ⟨a,ha⟩:=x
 have y6:W.cell? ⟨b6,1,none⟩ = some (.slice (some ⟨bF,oF,none⟩) lF c1):=(blk_cell (blk_below h6 hb) 1).trans rfl
 have y12:W.cell? ⟨b12,0,none⟩ = some (.int .i64 (k:Int)):=(blk_cell (blk_below h12 hb) 0).trans rfl
 have y11:W.cell? ⟨b11,0,none⟩ = some (.slice (some ⟨g,0,none⟩) s.T.length cap):=(blk_cell (blk_below h11 hb) 0).trans rfl
 have xa:=(hb.cell (World.block_lt_of_cell? w _ (hF a ha))).trans (hF a ha)
 have xk:=(hb.cell (World.block_lt_of_cell? w _ (hF k hk))).trans (hF k hk)
 have xg:=(hb.cell (World.block_lt_of_cell? w _ (hG a ha))).trans (hG a ha)
 have ha0:(0:Int) ≤ (a:Int):=by omega
 have haF:(a:Int) < (lF:Int):=by omega
 have haG:(a:Int) < (s.T.length:Int):=by omega
 have hk0:(0:Int) ≤ (k:Int):=by omega
 have hkF:(k:Int) < (lF:Int):=by omega
 show Calls Tryz.prog 60 #[.int .i64 (a:Int),.pointer (some ⟨b6,0,none⟩),.pointer (some ⟨b12,0,none⟩),.pointer (some ⟨b11,0,none⟩)] W fun e w'=>e = .returned (.bool ((s.F.getD a 0 == s.F.getD k 0 + 1) && A.getD a false)) ∧ _
 obtain ⟨fa,hfa⟩:∃ x,s.F.getD a 0 = x:=⟨_,rfl⟩
 obtain ⟨fk,hfke⟩:∃ x,s.F.getD k 0 = x:=⟨_,rfl⟩
 obtain ⟨ga,hga⟩:∃ x,A.getD a false = x:=⟨_,rfl⟩
 rw [hfa] at xa ⊢
 rw [hfke] at xk hfk ⊢
 rw [hga] at xg ⊢
 have hwf:wrap64 ((fk:Int) + 1) = ((fk + 1:Nat):Int):=by rw [← i64_w,IntKind.wrap_i64];omega
 clear h6 h12 h11 hF hG hfa hfke hga hfk hlF hk ha
 by_cases hfe:fa = fk + 1
 rotate_left
 ·have hfb:(((fa:Nat):Int) == ((fk + 1:Nat):Int)) = false:=by rw [beq_eq_false_iff_ne];omega
  have hfb2:(((fa:Nat):Int) == (fk:Int) + 1) = false:=hfb
  have hfn:(fa == fk + 1) = false:=by rw [beq_eq_false_iff_ne];exact hfe
  rw [hfn,Bool.false_and]
  clear hfe hfn
  go_enter Tryz.func60,Tryz.ntmps60
  go_wp2
  refine start_ (n:=19) (S:=fun w'=>w'.cell? ⟨b6,1,none⟩ = some (.slice (some ⟨bF,oF,none⟩) lF c1) ∧ w'.cell? ⟨bF,oF + a,none⟩ = some (.int .i64 (fa:Int)) ∧ w'.cell? ⟨b12,0,none⟩ = some (.int .i64 (k:Int)) ∧ w'.cell? ⟨bF,oF + k,none⟩ = some (.int .i64 (fk:Int))) (ds:=[]) (bm 19 0) k_r rfl rfl ⟨y6,xa,y12,xk⟩ (fun hHeld=>?_)
  refine take_ (i:=0) (N:=some 6) (v:=?_) (a':=?_) (bm 19 1) rfl rfl k_r (fun _ _ _ h=>h) (Or.inl ⟨by rfl,?_⟩) hHeld ?_ ?_
  rotate_left
  ·rintro w' ⟨s_0,s_1,s_2,s_3⟩
   go_simp
   try with_reducible rfl
  rotate_left
  ·simp only [Act.put,ac_]
   rfl
  refine take_ (i:=1) (N:=some 7) (v:=?_) (a':=?_) (bm 19 3) rfl rfl k_r (fun _ _ _ h=>h) (Or.inl ⟨by rfl,?_⟩) hHeld ?_ ?_
  rotate_left
  ·rintro w' ⟨s_0,s_1,s_2,s_3⟩
   go_simp
   try with_reducible rfl
  rotate_left
  ·simp only [Act.put,ac_]
   rfl
  refine take_ (i:=2) (N:=some 8) (v:=?_) (a':=?_) (bm 19 7) rfl rfl k_r (fun _ _ _ h=>h) (Or.inl ⟨by rfl,?_⟩) hHeld ?_ ?_
  rotate_left
  ·rintro w' ⟨s_0,s_1,s_2,s_3⟩
   go_simp
   try with_reducible rfl
  rotate_left
  ·simp only [Act.put,ac_]
   rfl
  refine take_ (i:=3) (N:=some 9) (v:=?_) (a':=?_) (bm 19 15) rfl rfl k_r (fun _ _ _ h=>h) (Or.inl ⟨by rfl,?_⟩) hHeld ?_ ?_
  rotate_left
  ·rintro w' ⟨s_0,s_1,s_2,s_3⟩
   go_simp
   try with_reducible rfl
  rotate_left
  ·simp only [Act.put,ac_]
   rfl
  refine take_ (i:=4) (N:=some 10) (v:=?_) (a':=?_) (bm 19 31) rfl rfl k_r (fun _ _ _ h=>h) (Or.inl ⟨by rfl,?_⟩) hHeld ?_ ?_
  rotate_left
  ·rintro w' ⟨s_0,s_1,s_2,s_3⟩
   go_simp
   try with_reducible rfl
  rotate_left
  ·simp only [Act.put,ac_]
   rfl
  refine take_ (i:=5) (N:=some 11) (v:=?_) (a':=?_) (bm 19 63) rfl rfl k_r (fun _ _ _ h=>h) (Or.inl ⟨by rfl,?_⟩) hHeld ?_ ?_
  rotate_left
  ·rintro w' ⟨s_0,s_1,s_2,s_3⟩
   go_simp
   try with_reducible rfl
  rotate_left
  ·simp only [Act.put,ac_]
   rfl
  refine take_ (i:=6) (N:=some 12) (v:=?_) (a':=?_) (bm 19 127) rfl rfl k_r (fun _ _ _ h=>h) (Or.inl ⟨by rfl,?_⟩) hHeld ?_ ?_
  rotate_left
  ·rintro w' ⟨s_0,s_1,s_2,s_3⟩
   go_simp
   try with_reducible rfl
  rotate_left
  ·simp only [Act.put,ac_]
   rfl
  refine take_ (i:=7) (N:=some 13) (v:=?_) (a':=?_) (bm 19 255) rfl rfl k_r (fun _ _ _ h=>h) (Or.inl ⟨by rfl,?_⟩) hHeld ?_ ?_
  rotate_left
  ·rintro w' ⟨s_0,s_1,s_2,s_3⟩
   go_simp
   try with_reducible rfl
  rotate_left
  ·simp only [Act.put,ac_]
   rfl
  refine take_ (i:=8) (N:=some 14) (v:=?_) (a':=?_) (bm 19 511) rfl rfl k_r (fun _ _ _ h=>h) (Or.inl ⟨by rfl,?_⟩) hHeld ?_ ?_
  rotate_left
  ·rintro w' ⟨s_0,s_1,s_2,s_3⟩
   go_simp
   try with_reducible rfl
  rotate_left
  ·simp only [Act.put,ac_]
   rfl
  refine take_ (i:=9) (N:=some 15) (v:=?_) (a':=?_) (bm 19 1023) rfl rfl k_r (fun _ _ _ h=>h) (Or.inl ⟨by rfl,?_⟩) hHeld ?_ ?_
  rotate_left
  ·rintro w' ⟨s_0,s_1,s_2,s_3⟩
   go_simp
   try with_reducible rfl
  rotate_left
  ·simp only [Act.put,ac_]
   rfl
  refine take_ (i:=10) (N:=some 16) (v:=?_) (a':=?_) (bm 19 2047) rfl rfl k_r (fun _ _ _ h=>h) (Or.inl ⟨by rfl,?_⟩) hHeld ?_ ?_
  rotate_left
  ·rintro w' ⟨s_0,s_1,s_2,s_3⟩
   go_simp
   try with_reducible rfl
  rotate_left
  ·simp only [Act.put,ac_]
   rfl
  refine take_ (i:=11) (N:=some 17) (v:=?_) (a':=?_) (bm 19 4095) rfl rfl k_r (fun _ _ _ h=>h) (Or.inl ⟨by rfl,?_⟩) hHeld ?_ ?_
  rotate_left
  ·rintro w' ⟨s_0,s_1,s_2,s_3⟩
   go_simp
   try with_reducible rfl
  rotate_left
  ·simp only [Act.put,ac_]
   rfl
  refine take_ (i:=12) (N:=some 18) (v:=?_) (a':=?_) (bm 19 8191) rfl rfl k_r (fun _ _ _ h=>h) (Or.inl ⟨by rfl,?_⟩) hHeld ?_ ?_
  rotate_left
  ·rintro w' ⟨s_0,s_1,s_2,s_3⟩
   go_simp
   try with_reducible rfl
  rotate_left
  ·simp only [Act.put,ac_]
   rfl
  refine take_ (i:=13) (N:=some 19) (v:=undef) (a':=?_) (bm 19 16383) rfl rfl k_r (fun _ _ _ h=>h) (Or.inr ⟨by rfl,rfl⟩) hHeld ?_ ?_
  rotate_left
  ·simp only [Act.put,ac_]
   rfl
  refine take_ (i:=14) (N:=some 20) (v:=undef) (a':=?_) (bm 19 32767) rfl rfl k_r (fun _ _ _ h=>h) (Or.inr ⟨by rfl,rfl⟩) hHeld ?_ ?_
  rotate_left
  ·simp only [Act.put,ac_]
   rfl
  refine take_ (i:=15) (N:=some 21) (v:=undef) (a':=?_) (bm 19 65535) rfl rfl k_r (fun _ _ _ h=>h) (Or.inr ⟨by rfl,rfl⟩) hHeld ?_ ?_
  rotate_left
  ·simp only [Act.put,ac_]
   rfl
  refine take_ (i:=16) (N:=some 22) (v:=undef) (a':=?_) (bm 19 131071) rfl rfl k_r (fun _ _ _ h=>h) (Or.inr ⟨by rfl,rfl⟩) hHeld ?_ ?_
  rotate_left
  ·simp only [Act.put,ac_]
   rfl
  refine take_ (i:=17) (N:=some 23) (v:=?_) (a':=?_) (bm 19 262143) rfl rfl k_r (fun _ _ _ h=>h) (Or.inl ⟨by rfl,?_⟩) hHeld ?_ ?_
  rotate_left
  ·rintro w' ⟨s_0,s_1,s_2,s_3⟩
   go_simp
   try with_reducible rfl
  rotate_left
  ·simp only [Act.put,ac_]
   rfl
  refine take_ (i:=18) (N:=some 5) (v:=?_) (a':=?_) (bm 19 524287) rfl rfl k_r (fun _ _ _ h=>h) (Or.inl ⟨by rfl,?_⟩) hHeld ?_ ?_
  rotate_left
  ·rintro w' ⟨s_0,s_1,s_2,s_3⟩
   go_simp
   try with_reducible rfl
  rotate_left
  ·simp only [Act.put,ac_]
   rfl
  refine done_ k_r ?_
  go_wp2
  go_ret
  exact ⟨rfl,⟨1,rfl⟩⟩
 have hfb:(((fa:Nat):Int) == ((fk + 1:Nat):Int)) = true:=by rw [hfe];exact beq_self_eq_true _
 have hfb2:(((fa:Nat):Int) == (fk:Int) + 1) = true:=hfb
 have hfn:(fa == fk + 1) = true:=by rw [hfe];exact beq_self_eq_true _
 rw [hfn,Bool.true_and]
 clear hfe hfn
 go_enter Tryz.func60,Tryz.ntmps60
 go_wp2
 refine start_ (n:=19) (S:=fun w'=>w'.cell? ⟨b6,1,none⟩ = some (.slice (some ⟨bF,oF,none⟩) lF c1) ∧ w'.cell? ⟨bF,oF + a,none⟩ = some (.int .i64 (fa:Int)) ∧ w'.cell? ⟨b12,0,none⟩ = some (.int .i64 (k:Int)) ∧ w'.cell? ⟨bF,oF + k,none⟩ = some (.int .i64 (fk:Int)) ∧ w'.cell? ⟨b11,0,none⟩ = some (.slice (some ⟨g,0,none⟩) s.T.length cap) ∧ w'.cell? ⟨g,a,none⟩ = some (.bool ga)) (ds:=[]) (bm 19 0) k_r rfl rfl ⟨y6,xa,y12,xk,y11,xg⟩ (fun hHeld=>?_)
 refine take_ (i:=0) (N:=some 6) (v:=?_) (a':=?_) (bm 19 1) rfl rfl k_r (fun _ _ _ h=>h) (Or.inl ⟨by rfl,?_⟩) hHeld ?_ ?_
 rotate_left
 ·rintro w' ⟨s_0,s_1,s_2,s_3,s_4,s_5⟩
  go_simp
  try with_reducible rfl
 rotate_left
 ·simp only [Act.put,ac_]
  rfl
 refine take_ (i:=1) (N:=some 7) (v:=?_) (a':=?_) (bm 19 3) rfl rfl k_r (fun _ _ _ h=>h) (Or.inl ⟨by rfl,?_⟩) hHeld ?_ ?_
 rotate_left
 ·rintro w' ⟨s_0,s_1,s_2,s_3,s_4,s_5⟩
  go_simp
  try with_reducible rfl
 rotate_left
 ·simp only [Act.put,ac_]
  rfl
 refine take_ (i:=2) (N:=some 8) (v:=?_) (a':=?_) (bm 19 7) rfl rfl k_r (fun _ _ _ h=>h) (Or.inl ⟨by rfl,?_⟩) hHeld ?_ ?_
 rotate_left
 ·rintro w' ⟨s_0,s_1,s_2,s_3,s_4,s_5⟩
  go_simp
  try with_reducible rfl
 rotate_left
 ·simp only [Act.put,ac_]
  rfl
 refine take_ (i:=3) (N:=some 9) (v:=?_) (a':=?_) (bm 19 15) rfl rfl k_r (fun _ _ _ h=>h) (Or.inl ⟨by rfl,?_⟩) hHeld ?_ ?_
 rotate_left
 ·rintro w' ⟨s_0,s_1,s_2,s_3,s_4,s_5⟩
  go_simp
  try with_reducible rfl
 rotate_left
 ·simp only [Act.put,ac_]
  rfl
 refine take_ (i:=4) (N:=some 10) (v:=?_) (a':=?_) (bm 19 31) rfl rfl k_r (fun _ _ _ h=>h) (Or.inl ⟨by rfl,?_⟩) hHeld ?_ ?_
 rotate_left
 ·rintro w' ⟨s_0,s_1,s_2,s_3,s_4,s_5⟩
  go_simp
  try with_reducible rfl
 rotate_left
 ·simp only [Act.put,ac_]
  rfl
 refine take_ (i:=5) (N:=some 11) (v:=?_) (a':=?_) (bm 19 63) rfl rfl k_r (fun _ _ _ h=>h) (Or.inl ⟨by rfl,?_⟩) hHeld ?_ ?_
 rotate_left
 ·rintro w' ⟨s_0,s_1,s_2,s_3,s_4,s_5⟩
  go_simp
  try with_reducible rfl
 rotate_left
 ·simp only [Act.put,ac_]
  rfl
 refine take_ (i:=6) (N:=some 12) (v:=?_) (a':=?_) (bm 19 127) rfl rfl k_r (fun _ _ _ h=>h) (Or.inl ⟨by rfl,?_⟩) hHeld ?_ ?_
 rotate_left
 ·rintro w' ⟨s_0,s_1,s_2,s_3,s_4,s_5⟩
  go_simp
  try with_reducible rfl
 rotate_left
 ·simp only [Act.put,ac_]
  rfl
 refine take_ (i:=7) (N:=some 13) (v:=?_) (a':=?_) (bm 19 255) rfl rfl k_r (fun _ _ _ h=>h) (Or.inl ⟨by rfl,?_⟩) hHeld ?_ ?_
 rotate_left
 ·rintro w' ⟨s_0,s_1,s_2,s_3,s_4,s_5⟩
  go_simp
  try with_reducible rfl
 rotate_left
 ·simp only [Act.put,ac_]
  rfl
 refine take_ (i:=8) (N:=some 14) (v:=?_) (a':=?_) (bm 19 511) rfl rfl k_r (fun _ _ _ h=>h) (Or.inl ⟨by rfl,?_⟩) hHeld ?_ ?_
 rotate_left
 ·rintro w' ⟨s_0,s_1,s_2,s_3,s_4,s_5⟩
  go_simp
  try with_reducible rfl
 rotate_left
 ·simp only [Act.put,ac_]
  rfl
 refine take_ (i:=9) (N:=some 15) (v:=?_) (a':=?_) (bm 19 1023) rfl rfl k_r (fun _ _ _ h=>h) (Or.inl ⟨by rfl,?_⟩) hHeld ?_ ?_
 rotate_left
 ·rintro w' ⟨s_0,s_1,s_2,s_3,s_4,s_5⟩
  go_simp
  try with_reducible rfl
 rotate_left
 ·simp only [Act.put,ac_]
  rfl
 refine take_ (i:=10) (N:=some 16) (v:=?_) (a':=?_) (bm 19 2047) rfl rfl k_r (fun _ _ _ h=>h) (Or.inl ⟨by rfl,?_⟩) hHeld ?_ ?_
 rotate_left
 ·rintro w' ⟨s_0,s_1,s_2,s_3,s_4,s_5⟩
  go_simp
  try with_reducible rfl
 rotate_left
 ·simp only [Act.put,ac_]
  rfl
 refine take_ (i:=11) (N:=some 17) (v:=?_) (a':=?_) (bm 19 4095) rfl rfl k_r (fun _ _ _ h=>h) (Or.inl ⟨by rfl,?_⟩) hHeld ?_ ?_
 rotate_left
 ·rintro w' ⟨s_0,s_1,s_2,s_3,s_4,s_5⟩
  go_simp
  try with_reducible rfl
 rotate_left
 ·simp only [Act.put,ac_]
  rfl
 refine take_ (i:=12) (N:=some 18) (v:=?_) (a':=?_) (bm 19 8191) rfl rfl k_r (fun _ _ _ h=>h) (Or.inl ⟨by rfl,?_⟩) hHeld ?_ ?_
 rotate_left
 ·rintro w' ⟨s_0,s_1,s_2,s_3,s_4,s_5⟩
  go_simp
  try with_reducible rfl
 rotate_left
 ·simp only [Act.put,ac_]
  rfl
 refine take_ (i:=13) (N:=some 19) (v:=?_) (a':=?_) (bm 19 16383) rfl rfl k_r (fun _ _ _ h=>h) (Or.inl ⟨by rfl,?_⟩) hHeld ?_ ?_
 rotate_left
 ·rintro w' ⟨s_0,s_1,s_2,s_3,s_4,s_5⟩
  go_simp
  try with_reducible rfl
 rotate_left
 ·simp only [Act.put,ac_]
  rfl
 refine take_ (i:=14) (N:=some 20) (v:=?_) (a':=?_) (bm 19 32767) rfl rfl k_r (fun _ _ _ h=>h) (Or.inl ⟨by rfl,?_⟩) hHeld ?_ ?_
 rotate_left
 ·rintro w' ⟨s_0,s_1,s_2,s_3,s_4,s_5⟩
  go_simp
  try with_reducible rfl
 rotate_left
 ·simp only [Act.put,ac_]
  rfl
 refine take_ (i:=15) (N:=some 21) (v:=?_) (a':=?_) (bm 19 65535) rfl rfl k_r (fun _ _ _ h=>h) (Or.inl ⟨by rfl,?_⟩) hHeld ?_ ?_
 rotate_left
 ·rintro w' ⟨s_0,s_1,s_2,s_3,s_4,s_5⟩
  go_simp
  try with_reducible rfl
 rotate_left
 ·simp only [Act.put,ac_]
  rfl
 refine take_ (i:=16) (N:=some 22) (v:=?_) (a':=?_) (bm 19 131071) rfl rfl k_r (fun _ _ _ h=>h) (Or.inl ⟨by rfl,?_⟩) hHeld ?_ ?_
 rotate_left
 ·rintro w' ⟨s_0,s_1,s_2,s_3,s_4,s_5⟩
  go_simp
  try with_reducible rfl
 rotate_left
 ·simp only [Act.put,ac_]
  rfl
 refine take_ (i:=17) (N:=some 23) (v:=?_) (a':=?_) (bm 19 262143) rfl rfl k_r (fun _ _ _ h=>h) (Or.inl ⟨by rfl,?_⟩) hHeld ?_ ?_
 rotate_left
 ·rintro w' ⟨s_0,s_1,s_2,s_3,s_4,s_5⟩
  go_simp
  try with_reducible rfl
 rotate_left
 ·simp only [Act.put,ac_]
  rfl
 refine take_ (i:=18) (N:=some 5) (v:=?_) (a':=?_) (bm 19 524287) rfl rfl k_r (fun _ _ _ h=>h) (Or.inl ⟨by rfl,?_⟩) hHeld ?_ ?_
 rotate_left
 ·rintro w' ⟨s_0,s_1,s_2,s_3,s_4,s_5⟩
  go_simp
  try with_reducible rfl
 rotate_left
 ·simp only [Act.put,ac_]
  rfl
 refine done_ k_r ?_
 go_wp2
 go_ret
 exact ⟨rfl,⟨1,rfl⟩⟩
theorem lead_calls {s:RS} {k:Nat} (hk:k < s.T.length) (hfk:s.F.getD k 0 ≤ 300) {A:List Bool} {b6 b11 b12 g cap bF oF:Nat} {x0 x2 x3:Value} {c1 lF c0:Nat} {A0:Option Addr} {l:List Nat} {bb:Bool} (hlF:lF = s.T.length) {w:World} (hl:∀ a ∈ l,a < s.T.length) (h4:l.length = 4) (hb:leadF s A k l = bb)
  (h6:w.heap[b6]? = some (.cells #[x0,.slice (some ⟨bF,oF,none⟩) lF c1,x2,x3] 59 (0,0))) (h12:w.heap[b12]? = some (.cells #[.int .i64 (k:Int)] 3 (0,0))) (h11:w.heap[b11]? = some (.cells #[.slice (some ⟨g,0,none⟩) s.T.length cap] 81 (0,0)))
  (hF:∀ a,a < s.T.length → w.cell? ⟨bF,oF + a,none⟩ = some (.int .i64 ((s.F.getD a 0:Nat):Int))) (hG:∀ a,a < s.T.length → w.cell? ⟨g,a,none⟩ = some (.bool (A.getD a false))) (hL:Kd.C (Kd.int .i64) w A0 4 (castsI l)) :
  Calls Tryz.prog 59 #[.slice A0 4 c0,.func (.func 60) #[] #[.pointer (some ⟨b6,0,none⟩),.pointer (some ⟨b12,0,none⟩),.pointer (some ⟨b11,0,none⟩)]] w fun e w'=>e = .returned (.bool bb) ∧ Below w.heap.size w w':=by
 letI:Inhabited (Fin s.T.length):=⟨⟨k,hk⟩⟩
 obtain ⟨zs,hz⟩:∃ zs:List (Fin s.T.length),zs.map Fin.val = l:=⟨l.pmap (fun a h=>⟨a,h⟩) hl,by rw [List.map_pmap];exact (List.pmap_eq_map (p:=fun a=>a < s.T.length) (f:=fun a:Nat=>a) ..).trans (List.map_id' l)⟩
 have hlz:zs.length = 4:=by rw [← h4,← hz,List.length_map]
 obtain ⟨bk,o,rfl,hbk,hcells⟩:=C_place hL o_m
 refine (Tryz.slices_ContainsFunc (α:=Fin s.T.length) (fun x:Fin s.T.length=>Value.int .i64 (x.val:Int)) (fun x=>(s.F.getD x.val 0 == s.F.getD k 0 + 1) && A.getD x.val false) 60 _ (enters_of Tryz.func60 k_r rfl) bk o 4 c0 zs _ (lead_pred hk hfk A b6 b11 b12 g cap bF oF x0 x2 x3 c1 lF hlF w h6 h12 h11 hF hG) o_m o_m ?_).mono ?_
 ·intro j hj
  refine hcells j _ ?_
  unfold castsI
  rw [← hz,List.getElem?_map,List.getElem?_map,List.getElem?_eq_getElem hj,getElem!_pos zs j hj];rfl
 ·rintro e w' ⟨he,q,rfl⟩
  refine ⟨?_,pw_below_drewN (Below.refl _ _) q⟩
  rw [he,List.take_of_length_le o_m,← hb]
  unfold leadF
  rw [← hz,List.any_map];rfl
def impl_AllSolutions.f (t n:ByteArray) (goal:Int):Option (List ByteArray × Bool):=if t.size < 4294967281 then some (allA t n goal) else none
theorem impl_AllSolutions.calls (a0_0 a0_1:ByteArray) (a0_2:Int) (r1:List ByteArray) (r2:Bool) (w:World) (h:impl_AllSolutions.f a0_0 a0_1 a0_2 = some (r1,r2)) :
  Calls Tryz.prog 25 #[.agg #[.string a0_0,.string a0_1,.int .i64 a0_2]] w fun e w'=>∃ v0_:Value,e = .returned (.tuple #[v0_,.bool r2]) ∧ Kd.R Kd.string 9 w' w.heap.size (fun _=>True) v0_ r1 ∧ Below w.heap.size w w':=by
 unfold impl_AllSolutions.f at h
 by_cases hsz:a0_0.size < 4294967281
 case neg=>rw [if_neg hsz] at h;cases h
 rw [if_pos hsz] at h
 have HR:=am (show allA a0_0 a0_1 a0_2 = (r1,r2) from Option.some.inj h)
 have HB:=am (Below.refl w.heap.size w)
 clear h
 obtain ⟨⟨cn,cb⟩,hc⟩:∃ q,cntA a0_0 a0_1 a0_2 = q:=⟨_,rfl⟩
 obtain ⟨K1,hK1⟩:=impl_cnt_ev (t:=a0_0) (n:=a0_1) (goal:=a0_2) hsz
 have HC:=am (show impl_CountSolutions.f K1 a0_0 a0_1 a0_2 = some (cn,cb) from (hK1 K1 (Nat.le_refl _)).trans (congrArg some hc))
 clear hK1
 cases cb with
 | false =>
  obtain ⟨rfl,rfl⟩:[] = r1 ∧ false = r2:=by
   have h:=HR.out
   unfold cntA at hc
   unfold allA at h
   cases hs:puS a0_0 a0_1 a0_2 with
   | none=>rw [hs] at h;exact Prod.mk.inj h
   | some q =>
    rw [hs] at h hc
    simp only at h hc
    by_cases hle:q.2.2.1.F.getD q.2.2.2 0 ≤ 40
    rotate_left
    ·rw [if_neg (fun q=>hle q.1)] at h;exact Prod.mk.inj h
    rw [if_pos hle] at hc;cases (Prod.mk.inj hc).2
  clear hc HR hsz
  go_enter Tryz.func25,Tryz.ntmps25
  go_wp2_with (first
   | (refine bx 1 #[.string a0_0,.string a0_1,.int .i64 a0_2] 30 ?_;intro b1 hg_ w1 hbox hb;have X1:=am hbox;have HB1:=am (below_step HB.out hb);have z0:w1.cell? ⟨b1,0,none⟩ = some (.string a0_0):=(blk_cell hbox 0).trans rfl;have z1:w1.cell? ⟨b1,1,none⟩ = some (.string a0_1):=(blk_cell hbox 1).trans rfl;have z2:w1.cell? ⟨b1,2,none⟩ = some (.int .i64 a0_2):=(blk_cell hbox 2).trans rfl;clear hg_ hbox hb)
   | (go_at_call 23;refine (impl_CountSolutions.calls K1 a0_0 a0_1 a0_2 _ _ _ HC.out).mono ?_;rintro e w2 ⟨rfl,hb2⟩;have HB2:=am (below_step HB1.out hb2);have X2:=am (blk_below X1.out hb2);clear hb2 z0 z1 z2;have y0:w2.cell? ⟨b1,0,none⟩ = some (.string a0_0):=(blk_cell X2.out 0).trans rfl;have y1:w2.cell? ⟨b1,1,none⟩ = some (.string a0_1):=(blk_cell X2.out 1).trans rfl;have y2:w2.cell? ⟨b1,2,none⟩ = some (.int .i64 a0_2):=(blk_cell X2.out 2).trans rfl))
  go_ret2
  exact ⟨_,rfl,Kd.R_nil _ _ _ _ _,HB2.out⟩
 | true =>
  obtain ⟨gw,gh,s,i0,hps,hle⟩:∃ gw gh s i0,puS a0_0 a0_1 a0_2 = some (gw,gh,s,i0) ∧ s.F.getD i0 0 ≤ 40:=by
   have h:=hc
   unfold cntA at h
   cases hs:puS a0_0 a0_1 a0_2 with
   | none=>rw [hs] at h;cases (Prod.mk.inj h).2
   | some q =>
    obtain ⟨gw,gh,s,i0⟩:=q
    rw [hs] at h
    simp only at h
    by_cases hle:s.F.getD i0 0 ≤ 40
    rotate_left
    ·rw [if_neg hle] at h;cases (Prod.mk.inj h).2
    exact ⟨gw,gh,s,i0,rfl,hle⟩
  have HA:=am (show allA a0_0 a0_1 a0_2 = if cn ≤ 100 then (txL (solL s (bt a0_1 0) a0_2 (s.F.getD i0 0) (s.F.getD i0 0)),true) else ([],false) by
   unfold allA
   rw [hps]
   simp only
   rw [hc]
   by_cases h1:cn ≤ 100
   ·rw [if_pos h1,if_pos ⟨hle,h1⟩]
   ·rw [if_neg h1,if_neg (fun q=>h1 q.2)])
  by_cases hcn:cn ≤ 100
  case neg =>
   have hcI:(100:Int) < cn:=by omega
   rw [if_neg hcn] at HA
   obtain ⟨rfl,rfl⟩:[] = r1 ∧ false = r2:=Prod.mk.inj (HA.out.symm.trans HR.out)
   clear hps hle hc HR HA hcn hsz
   go_enter Tryz.func25,Tryz.ntmps25
   go_wp2_with (first
    | (refine bx 1 #[.string a0_0,.string a0_1,.int .i64 a0_2] 30 ?_;intro b1 hg_ w1 hbox hb;have X1:=am hbox;have HB1:=am (below_step HB.out hb);have z0:w1.cell? ⟨b1,0,none⟩ = some (.string a0_0):=(blk_cell hbox 0).trans rfl;have z1:w1.cell? ⟨b1,1,none⟩ = some (.string a0_1):=(blk_cell hbox 1).trans rfl;have z2:w1.cell? ⟨b1,2,none⟩ = some (.int .i64 a0_2):=(blk_cell hbox 2).trans rfl;clear hg_ hbox hb)
    | (go_at_call 23;refine (impl_CountSolutions.calls K1 a0_0 a0_1 a0_2 _ _ _ HC.out).mono ?_;rintro e w2 ⟨rfl,hb2⟩;have HB2:=am (below_step HB1.out hb2);have X2:=am (blk_below X1.out hb2);clear hb2 z0 z1 z2;have y0:w2.cell? ⟨b1,0,none⟩ = some (.string a0_0):=(blk_cell X2.out 0).trans rfl;have y1:w2.cell? ⟨b1,1,none⟩ = some (.string a0_1):=(blk_cell X2.out 1).trans rfl;have y2:w2.cell? ⟨b1,2,none⟩ = some (.int .i64 a0_2):=(blk_cell X2.out 2).trans rfl))
   go_ret2
   exact ⟨_,rfl,Kd.R_nil _ _ _ _ _,HB2.out⟩
  have hcI:¬ (100:Int) < cn:=by omega
  obtain ⟨hpz,hsr,_,hi0⟩:=puS_some hps
  obtain ⟨cs,_,v,_,hr,o2⟩:=srch_some hsr
  have hnm:=puzB_name hpz
  obtain ⟨K2,hK2⟩:=impl_solution_some hsz hps
  have HS:=am (hK2 K2 (Nat.le_refl _))
  obtain ⟨K3,hK3⟩:=cells_ev (w:=gw) (h:=gh) (s:=s) hnm o2.ok.tray o2.ok.most (castsI s.F) (s.N.map castsI) (rW s)
  have HCE:=am (hK3 K3 (Nat.le_refl _))
  obtain ⟨fa,hfa⟩:∃ f,s.F.getD i0 0 = f:=⟨_,rfl⟩
  rw [hfa] at hle HS HA
  rw [if_pos hcn] at HA
  obtain ⟨rfl,rfl⟩:txL (solL s (bt a0_1 0) a0_2 fa fa) = r1 ∧ true = r2:=Prod.mk.inj (HA.out.symm.trans HR.out)
  have HO2:=am o2
  have HO3:=am (reach_far v hr)
  have HLE:=am hle
  have HI0:=am hi0
  have HFA:=am hfa
  have HM:=am o2.ok.most
  have HPOS:=am o2.ok.pos
  obtain ⟨TT,hTT⟩:∃ x,rT gw gh s = x:=⟨_,rfl⟩
  obtain ⟨FF,hFF⟩:∃ x,castsI s.F = x:=⟨_,rfl⟩
  obtain ⟨WW,hWW⟩:∃ x,rW s = x:=⟨_,rfl⟩
  obtain ⟨NN,hNN⟩:∃ x,s.N.map castsI = x:=⟨_,rfl⟩
  rw [hTT,hFF,hWW,hNN] at HS HCE
  have HFF:=am hFF
  have HNN:=am hNN
  have hlT:TT.length = s.T.length:=by rw [← hTT,rT_len]
  have HLF:=am (show FF.length = s.T.length by rw [← hFF,castsI_length,o2.ok.lF])
  have HLN:=am (show NN.length = s.T.length by rw [← hNN,List.length_map,o2.lN])
  have HLC:=am (cellsI_len s (bt a0_1 0))
  have hge0:(0:Int) ≤ (s.T.length:Int):=by omega
  have hle0:(s.T.length:Int).toNat ≤ 281474976710656:=by have:=HM.out;omega
  have hw0:wrap64 ((s.T.length:Int) - 1) = (s.T.length:Int) - 1:=by rw [← i64_w,IntKind.wrap_i64];have:=HM.out;have:=HPOS.out;omega
  clear hps hsr o2 v hr hpz hnm hle hfa hc HR HA hcn hsz hK2 hK3 hi0 hTT hFF hWW hNN
  go_enter Tryz.func25,Tryz.ntmps25
  go_wp2_with (first
   | (refine bx 1 #[.string a0_0,.string a0_1,.int .i64 a0_2] 30 ?_;intro b1 hg_ w1 hbox hb;have X1:=am hbox;have HB1:=am (below_step HB.out hb);have z0:w1.cell? ⟨b1,0,none⟩ = some (.string a0_0):=(blk_cell hbox 0).trans rfl;have z1:w1.cell? ⟨b1,1,none⟩ = some (.string a0_1):=(blk_cell hbox 1).trans rfl;have z2:w1.cell? ⟨b1,2,none⟩ = some (.int .i64 a0_2):=(blk_cell hbox 2).trans rfl;clear hg_ hbox hb)
   | (go_at_call 23;refine (impl_CountSolutions.calls K1 a0_0 a0_1 a0_2 _ _ _ HC.out).mono ?_;rintro e w2 ⟨rfl,hb2⟩;have HB2:=am (below_step HB1.out hb2);have X2:=am (blk_below X1.out hb2);clear hb2 z0 z1 z2;have y0:w2.cell? ⟨b1,0,none⟩ = some (.string a0_0):=(blk_cell X2.out 0).trans rfl;have y1:w2.cell? ⟨b1,1,none⟩ = some (.string a0_1):=(blk_cell X2.out 1).trans rfl;have y2:w2.cell? ⟨b1,2,none⟩ = some (.int .i64 a0_2):=(blk_cell X2.out 2).trans rfl)
   | (go_at_call 55;refine (impl_solution.calls K2 a0_0 a0_1 a0_2 _ _ _ _ _ _ _ HS.out).mono ?_;rintro e w3 ⟨v0,v1,v2,v3,rfl,ho0,ho1,ho2,ho3,hb3⟩;obtain ⟨A0,c0,rfl⟩:=Kd.R_slice ho0;obtain ⟨A1,c1,rfl⟩:=Kd.R_slice ho1;obtain ⟨A2,c2,rfl⟩:=Kd.S_slice ho2;obtain ⟨A3,c3,rfl⟩:=Kd.R_slice ho3;have HO0:=am (R_true ho0);have HO1:=am (R_true ho1);have HP2:=am (Kd.S_mono (ok':=fun _=>True) ho2 (fun _ _=>trivial));have HR3:=am (R_true ho3);have HB3:=am (below_step HB2.out hb3);have X3:=am (blk_below X2.out hb3);clear ho0 ho1 ho2 ho3 hb3 y0 y1 y2)
   | (refine bx 6 #[.slice none 0 0,.slice none 0 0,.slice none 0 0,.slice none 0 0] 59 ?_;intro b6 hg_ w4 hbox hb;obtain ⟨y0,y1,y2,y3,f0,f1,f2,f3⟩:=blk4_ hbox;have Z6:=am hbox;have G6:=am hg_;have HQ4:=am hb;clear hg_ hbox hb)
   | (refine bx 7 #[.int .i64 0] 3 ?_;intro b7 hg_ w5 hbox hb;have Z7:=am hbox;have G7:=am (show b7 = w4.heap.size from hg_);have Z6b:=am (blk_below Z6.out hb);have HQ5:=am (below_step HQ4.out hb);clear y0 y1 y2 y3 f0 f1 f2 f3;obtain ⟨y0,y1,y2,y3,f0,f1,f2,f3⟩:=blk4_ Z6b.out;have y7:w5.cell? ⟨b7,0,none⟩ = some (.int .i64 0):=(blk_cell hbox 0).trans rfl;have f7:=blk_frozen hbox 0;have hn67:¬ b6 = b7:=(by have:=blk_lt Z6.out;omega);have hn76:¬ b7 = b6:=(by have:=blk_lt Z6.out;omega);clear hg_ hbox hb)
   | ((with_reducible refine gate_dst (N:=31) rfl ?_);obtain ⟨w6,hw6⟩:∃ W,(set4 w5 b6 (.slice A0 s.T.length c0) (.slice A1 FF.length c1) (.slice A2 NN.length c2) (.slice A3 WW.length c3)).setCell ⟨b7,0,none⟩ (.int .i64 (i0:Int)) = W:=⟨_,rfl⟩;have HW6:=am hw6;unfold set4 at hw6;rw [hw6];clear hw6 y0 y1 y2 y3 f0 f1 f2 f3 y7 f7;have HKP:=am (fun k (hk:k < w3.heap.size)=>by rw [← HW6.out];exact (Below.heap_setCell _ ⟨b7,0,none⟩ _ k (by have:=G7.out;have:=HQ4.out.size;show k ≠ b7;omega)).trans ((heap_set4 _ _ _ _ _ _ (by have:=G6.out;omega)).trans (HQ5.out.block k hk)):∀ k,k < w3.heap.size → w6.heap[k]? = w3.heap[k]?);have HQ0:=am (Kd.R_step HO0.out (fun k _ hk=>HKP.out k hk));have HQ1:=am (Kd.R_step HO1.out (fun k _ hk=>HKP.out k hk));have HQ2:=am (Kd.S_step HP2.out (fun k _ hk=>HKP.out k hk));have HQ3:=am (Kd.R_step HR3.out (fun k _ hk=>HKP.out k hk));have X6:=am (show w6.heap[b6]? = some (.cells #[.slice A0 s.T.length c0,.slice A1 FF.length c1,.slice A2 NN.length c2,.slice A3 WW.length c3] 59 (0,0)) by rw [← HW6.out];exact blk_far (blk_set4 Z6b.out _ _ _ _) (p:=⟨b7,0,none⟩) hn67 _);have X7:=am (show w6.heap[b7]? = some (.cells #[.int .i64 (i0:Int)] 3 (0,0)) by rw [← HW6.out];refine (blk_set ((heap_set4 _ _ _ _ _ _ hn76).trans Z7.out) 0 _).trans ?_;rfl);have HB6:=am (show Below w.heap.size w w6 by rw [← HW6.out];exact (below_set4 (below_step HB3.out HQ5.out) (by rw [G6.out];exact HB3.out.size) _ _ _ _).setCell (p:=⟨b7,0,none⟩) (by rw [G7.out];exact Nat.le_trans HB3.out.size HQ4.out.size) _);have X1b:=am ((HKP.out b1 (blk_lt X3.out)).trans X3.out);obtain ⟨y0,y1,y2,y3,f0,f1,f2,f3⟩:=blk4_ X6.out;have z1:w6.cell? ⟨b1,1,none⟩ = some (.string a0_1):=(blk_cell X1b.out 1).trans rfl)
   | (go_at_call 50;have hcl:=impl_reach_cells.calls K3 _ _ TT _ _ FF _ _ NN _ _ WW a0_1 _ _ (Kd.R_reads' HQ0.out).2.2 (Kd.R_reads' HQ0.out).2.1 (Kd.R_reads' HQ1.out).2.2 (Kd.R_reads' HQ1.out).2.1 (Kd.S_reads' HQ2.out).2.2 (Kd.S_reads' HQ2.out).2.1 (Kd.R_reads' HQ3.out).2.2 (Kd.R_reads' HQ3.out).2.1 HCE.out;rw [hlT] at hcl;refine hcl.mono ?_;clear hcl;rintro e w7 ⟨v7,rfl,ho7,hb7⟩;obtain ⟨A7,c7,rfl⟩:=Kd.R_slice ho7;have HC7:=am (Kd.R_reads' ho7).2.2;have HB7:=am (below_step HB6.out hb7);have X67:=am (blk_below X6.out hb7);have X77:=am (blk_below X7.out hb7);have X17:=am (blk_below X1b.out hb7);have HC1:=am (Kd.C_below (Kd.R_reads' HQ1.out).2.2 hb7);have HC2:=am (Kd.C_below (Kd.S_reads' HQ2.out).2.2 hb7);clear ho7 hb7 y0 y1 y2 y3 f0 f1 f2 f3 z1)
   | ((with_reducible refine gate_dst (N:=35) rfl ?_);refine Kd.R_lit Kd.string _ 9 ?hg (N:=35) ?hd (xs:=([]:List ByteArray)) (inner:=[]) (ok:=fun _=>True) (okp:=fun _=>True) ?hr ?hp (fun _ hk=>hk) trivial (Below.refl _ _) (Nat.le_refl _) (by simp) ?_;(case hd=>rfl);(case hg=>rfl);(case hr=>first | (go_simp;done) | (go_simp;rfl));(case hp=>exact (Reps.none _ _));intro v8 w8 ho8 hb8 hg8 hn8;obtain ⟨A8,c8,rfl⟩:=Kd.R_slice ho8;have HO8:=am ho8;have HQ8:=am hb8;clear ho8 hb8 hg8 hn8)
   | (refine bx 10 #[.slice none 0 0] 35 ?_;intro b10 hg_ w9 hbox hb;have Z10:=am hbox;have G10:=am (show b10 = w8.heap.size from hg_);have HQ9:=am (below_step HQ8.out hb);have HO9:=am (Kd.R_below HO8.out hb);have y10:w9.cell? ⟨b10,0,none⟩ = some (.slice none 0 0):=(blk_cell hbox 0).trans rfl;have f10:=blk_frozen hbox 0;clear hg_ hbox hb)
   | ((with_reducible refine gate_dst (N:=36) rfl ?_);obtain ⟨w10,hw10⟩:∃ W,w9.setCell ⟨b10,0,none⟩ (.slice A8 0 c8) = W:=⟨_,rfl⟩;rw [hw10];have HQ10:=am (show Below w7.heap.size w7 w10 by rw [← hw10];exact HQ9.out.setCell (p:=⟨b10,0,none⟩) (by rw [G10.out];exact HQ8.out.size) _);have E10:=am (show w10.heap[b10]? = some (.cells #[.slice A8 0 c8] 35 (0,0)) by rw [← hw10];exact (blk_set Z10.out 0 _).trans rfl);have HO10:=am (show Kd.R Kd.string 9 w10 w7.heap.size (fun _=>True) (.slice A8 0 c8) [] by rw [← hw10];exact R_off (p:=⟨b10,0,none⟩) rfl HO9.out Z10.out d_c _);clear hw10 y10 f10;have z60:w10.cell? ⟨b6,0,none⟩ = some (.slice A0 s.T.length c0):=(blk_cell (blk_below X67.out HQ10.out) 0).trans rfl)
   | ((with_reducible refine gate_dst (N:=39) rfl ?_);refine Kd.R_make Kd.bool _ 4 rfl (N:=39) rfl 81 _ _ rfl (s.T.length:Int) rfl rfl Tryz.underlying81 (.bool false) 1 info4 rfl d_c o_m false (ok:=fun _=>True) (okp:=fun _=>True) rfl (fun _ hk=>hk) trivial hge0 (Nat.le_trans (Nat.mul_le_mul_right _ hle0) o_m) (Below.refl _ _) (Nat.le_refl _) ?_;intro v11 w11 ho11 hb11 hg11 hn11;rw [Int.toNat_natCast] at ho11;obtain ⟨g,cap,hv11,hgb,hgl,_⟩:=Kd.R_form ho11 (by rw [List.length_replicate];exact HPOS.out);rw [List.length_replicate] at hv11;subst hv11;have HGB:=am hgb;have HO11:=am ho11;have HQ11:=am hb11;have z60:w11.cell? ⟨b6,0,none⟩ = some (.slice A0 s.T.length c0):=(blk_cell (blk_below X67.out (below_step HQ10.out hb11)) 0).trans rfl;clear ho11 hb11 hg11 hn11 hgb hgl)
   | (refine bx 11 #[.slice none 0 0] 81 ?_;intro b11 hg_ w12 hbox hb;have Z11:=am hbox;have G11:=am (show b11 = w11.heap.size from hg_);have HQ12:=am (below_step HQ11.out hb);have HO12:=am (Kd.R_below HO11.out hb);have y11:w12.cell? ⟨b11,0,none⟩ = some (.slice none 0 0):=(blk_cell hbox 0).trans rfl;have f11:=blk_frozen hbox 0;clear hg_ hbox hb)
   | ((with_reducible refine gate_dst (N:=40) rfl ?_);obtain ⟨w13,hw13⟩:∃ W,w12.setCell ⟨b11,0,none⟩ (.slice (some ⟨g,0,none⟩) s.T.length cap) = W:=⟨_,rfl⟩;rw [hw13];have HQ13:=am (show Below w10.heap.size w10 w13 by rw [← hw13];exact HQ12.out.setCell (p:=⟨b11,0,none⟩) (by rw [G11.out];exact HQ11.out.size) _);have E11:=am (show w13.heap[b11]? = some (.cells #[.slice (some ⟨g,0,none⟩) s.T.length cap] 81 (0,0)) by rw [← hw13];exact (blk_set Z11.out 0 _).trans rfl);have HO13:=am (show Kd.R Kd.bool 4 w13 w10.heap.size (fun _=>True) (.slice (some ⟨g,0,none⟩) s.T.length cap) (List.replicate s.T.length false) by rw [← hw13];exact R_off (p:=⟨b11,0,none⟩) rfl HO12.out Z11.out d_c _);clear hw13 y11 f11;have z60:w13.cell? ⟨b6,0,none⟩ = some (.slice A0 s.T.length c0):=(blk_cell (blk_below X67.out (below_step HQ10.out HQ13.out)) 0).trans rfl)
   | (refine bx 12 #[.int .i64 0] 3 ?_;intro b12 hg_ w14 hbox hb;have E12:=am hbox;have G12:=am (show b12 = w13.heap.size from hg_);have HQ14:=am (below_step HQ13.out hb);have E11b:=am (blk_below E11.out hb);have HO14:=am (Kd.R_below HO13.out hb);have y12:w14.cell? ⟨b12,0,none⟩ = some (.int .i64 0):=(blk_cell hbox 0).trans rfl;have f12:=blk_frozen hbox 0;clear hg_ hbox hb))
  have W12:=am (show (w14.setCell ⟨b12,0,none⟩ (.int .i64 ((s.T.length:Int) - 1))).heap[b12]? = some (.cells #[.int .i64 ((s.T.length:Int) - 1)] 3 (0,0)) from (blk_set E12.out 0 _).trans rfl)
  have hn12:b12 ≠ b11:=by have:=blk_lt E11.out;have:=G12.out;omega
  obtain ⟨bF,oF,rfl,hbF,hcF⟩:=C_place HC1.out (by rw [HLF.out];exact HPOS.out)
  have HXF:=am (fun a (ha:a < s.T.length)=>hcF a ((s.F.getD a 0:Nat):Int) (by rw [← HFF.out];unfold castsI;rw [List.getElem?_map,List.getElem?_eq_getElem (by rw [HO2.out.ok.lF];exact ha),getD_lt (by rw [HO2.out.ok.lF];exact ha)];rfl):∀ a,a < s.T.length → w7.cell? ⟨bF,oF + a,none⟩ = some (.int .i64 ((s.F.getD a 0:Nat):Int)))
  obtain ⟨bC,oC,rfl,hbC,hcC⟩:=C_place HC7.out (by rw [HLC.out];exact HPOS.out)
  have HXC:=am (fun a (ha:a < s.T.length)=>hcC a (placeI (bt a0_1 0) (s.T.getD a [])) (by rw [← cellsI_get s _ ha,List.getElem?_eq_getElem (by rw [HLC.out];exact ha),getD_lt (by rw [HLC.out];exact ha)]):∀ a,a < s.T.length → w7.cell? ⟨bC,oC + a,none⟩ = some (.int .i64 (placeI (bt a0_1 0) (s.T.getD a []))))
  clear hbF hcF hbC hcC
  go_loopw [12] (fun v12 wr=>∃ (k:Nat) (A:List Bool) (b12:Nat),k ≤ s.T.length ∧ v12 = .pointer (some ⟨b12,0,none⟩) ∧ A.length = s.T.length ∧ Aside0 (downJ s (bt a0_1 0) a0_2 fa k A = goodL s (bt a0_1 0) a0_2 fa) ∧ Aside0 (wr.heap[b12]? = some (.cells #[.int .i64 ((k:Int) - 1)] 3 (0,0))) ∧ Aside0 (wr.heap[b11]? = some (.cells #[.slice (some ⟨g,0,none⟩) s.T.length cap] 81 (0,0))) ∧ Aside0 (Kd.R Kd.bool 4 wr w10.heap.size (fun _=>True) (.slice (some ⟨g,0,none⟩) s.T.length cap) A) ∧ Aside0 (Below w10.heap.size w10 wr) ∧ Aside0 (w10.heap.size ≤ b12 ∧ b12 ≠ b11)) (fun v12 wr=>cellN v12 wr)
  case atStart=>exact ⟨s.T.length,_,b12,Nat.le_refl _,rfl,List.length_replicate,⟨downJ_good s (bt a0_1 0) a0_2 fa⟩,W12,⟨blk_far E11b.out (p:=⟨b12,0,none⟩) hn12.symm _⟩,⟨R_off (p:=⟨b12,0,none⟩) rfl HO14.out E12.out d_c _⟩,⟨HQ14.out.setCell (p:=⟨b12,0,none⟩) (by rw [G12.out];exact HQ13.out.size) _⟩,⟨⟨by rw [G12.out];exact HQ13.out.size,hn12⟩⟩⟩
  case round =>
   clear W12 hn12 y12 f12 z60
   obtain ⟨k,A,b12,hk,rfl,hAl,HDW,E12,E11w,HD,HQ,HN12⟩:=hrel
   have HQ7:=am (below_step HQ10.out HQ.out)
   have x12:wr.cell? ⟨b12,0,none⟩ = some (.int .i64 ((k:Int) - 1)):=(blk_cell E12.out 0).trans rfl
   have HME:=am x12
   cases k with
   | succ m =>
    have e0:(((m + 1:Nat):Int) - 1) = (m:Int):=by omega
    rw [e0] at x12 E12
    have hgm:(0:Int) ≤ (m:Int):=by omega
    have hmI:(m:Int) < (s.T.length:Int):=by omega
    have hmF:(m:Int) < (FF.length:Int):=by rw [HLF.out];omega
    have hmN:(m:Int) < (NN.length:Int):=by rw [HLN.out];omega
    have hmC:(m:Int) < ((cellsI s (bt a0_1 0)).length:Int):=by rw [HLC.out];omega
    have hiF:(i0:Int) < (FF.length:Int):=by rw [HLF.out];have:=HI0.out;omega
    have hi0:(0:Int) ≤ (i0:Int):=by omega
    have hwm:wrap64 ((m:Int) - 1) = (m:Int) - 1:=by rw [← i64_w,IntKind.wrap_i64];have:=HM.out;omega
    have hml:m < s.T.length:=by omega
    have x6:wr.cell? ⟨b6,1,none⟩ = some (.slice (some ⟨bF,oF,none⟩) FF.length c1):=(blk_cell (blk_below X67.out HQ7.out) 1).trans rfl
    have x7:wr.cell? ⟨b7,0,none⟩ = some (.int .i64 (i0:Int)):=(blk_cell (blk_below X77.out HQ7.out) 0).trans rfl
    have xF:=(HQ7.out.cell (World.block_lt_of_cell? w7 _ (HXF.out m hml))).trans (HXF.out m hml)
    have xI:=(HQ7.out.cell (World.block_lt_of_cell? w7 _ (HXF.out i0 HI0.out))).trans (HXF.out i0 HI0.out)
    rw [HFA.out] at xI
    obtain ⟨fm,hfm⟩:∃ x,s.F.getD m 0 = x:=⟨_,rfl⟩
    rw [hfm] at xF
    have HFM:=am hfm
    have HK:=am hk
    have HAL:=am hAl
    have HML:=am hml
    have HDr:=am (Kd.R_drew HD.out)
    have HQr:=am (below_drew1 HQ.out)
    have E12r:=am (blk_drew E12.out)
    have E11r:=am (blk_drew E11w.out)
    clear hk hAl e0 hfm
    by_cases hfe:fm = fa
    ·have hbe:(((fm:Nat):Int) == ((fa:Nat):Int)) = true:=by rw [hfe];exact beq_self_eq_true _
     obtain ⟨pl,hpl⟩:∃ x,placeI (bt a0_1 0) (s.T.getD m []) = x:=⟨_,rfl⟩
     obtain ⟨bb,hbb⟩:∃ x,(pl == a0_2) = x:=⟨_,rfl⟩
     have HDW2:=am (show downJ s (bt a0_1 0) a0_2 fa m (A.set m bb) = goodL s (bt a0_1 0) a0_2 fa by rw [← HDW.out,downJ_eq (HFM.out.trans hfe),hpl,← hbb];rfl)
     have HPL:=am hpl
     clear hfe hpl
     go_wp2
     refine start_ (n:=11) (S:=fun w'=>w'.cell? ⟨b6,1,none⟩ = some (.slice (some ⟨bF,oF,none⟩) FF.length c1) ∧ w'.cell? ⟨b12,0,none⟩ = some (.int .i64 (m:Int)) ∧ w'.cell? ⟨bF,oF + m,none⟩ = some (.int .i64 (fm:Int)) ∧ w'.cell? ⟨b7,0,none⟩ = some (.int .i64 (i0:Int)) ∧ w'.cell? ⟨bF,oF + i0,none⟩ = some (.int .i64 (fa:Int))) (ds:=[]) (bm 11 0) k_r rfl rfl ⟨x6,x12,xF,x7,xI⟩ (fun hHeld=>?_)
     refine take_ (i:=0) (N:=some 48) (v:=?_) (a':=?_) (bm 11 1) rfl rfl k_r (fun _ _ _ h=>h) (Or.inl ⟨by rfl,?_⟩) hHeld ?_ ?_
     rotate_left
     ·rintro w' ⟨s_0,s_1,s_2,s_3,s_4⟩
      go_simp
      try with_reducible rfl
     rotate_left
     ·simp only [Act.put,ac_]
      rfl
     refine take_ (i:=1) (N:=some 49) (v:=?_) (a':=?_) (bm 11 3) rfl rfl k_r (fun _ _ _ h=>h) (Or.inl ⟨by rfl,?_⟩) hHeld ?_ ?_
     rotate_left
     ·rintro w' ⟨s_0,s_1,s_2,s_3,s_4⟩
      go_simp
      try with_reducible rfl
     rotate_left
     ·simp only [Act.put,ac_]
      rfl
     refine take_ (i:=2) (N:=some 50) (v:=?_) (a':=?_) (bm 11 7) rfl rfl k_r (fun _ _ _ h=>h) (Or.inl ⟨by rfl,?_⟩) hHeld ?_ ?_
     rotate_left
     ·rintro w' ⟨s_0,s_1,s_2,s_3,s_4⟩
      go_simp
      try with_reducible rfl
     rotate_left
     ·simp only [Act.put,ac_]
      rfl
     refine take_ (i:=3) (N:=some 51) (v:=?_) (a':=?_) (bm 11 15) rfl rfl k_r (fun _ _ _ h=>h) (Or.inl ⟨by rfl,?_⟩) hHeld ?_ ?_
     rotate_left
     ·rintro w' ⟨s_0,s_1,s_2,s_3,s_4⟩
      go_simp
      try with_reducible rfl
     rotate_left
     ·simp only [Act.put,ac_]
      rfl
     refine take_ (i:=4) (N:=some 52) (v:=?_) (a':=?_) (bm 11 31) rfl rfl k_r (fun _ _ _ h=>h) (Or.inl ⟨by rfl,?_⟩) hHeld ?_ ?_
     rotate_left
     ·rintro w' ⟨s_0,s_1,s_2,s_3,s_4⟩
      go_simp
      try with_reducible rfl
     rotate_left
     ·simp only [Act.put,ac_]
      rfl
     refine take_ (i:=5) (N:=some 53) (v:=?_) (a':=?_) (bm 11 63) rfl rfl k_r (fun _ _ _ h=>h) (Or.inl ⟨by rfl,?_⟩) hHeld ?_ ?_
     rotate_left
     ·rintro w' ⟨s_0,s_1,s_2,s_3,s_4⟩
      go_simp
      try with_reducible rfl
     rotate_left
     ·simp only [Act.put,ac_]
      rfl
     refine take_ (i:=6) (N:=some 54) (v:=?_) (a':=?_) (bm 11 127) rfl rfl k_r (fun _ _ _ h=>h) (Or.inl ⟨by rfl,?_⟩) hHeld ?_ ?_
     rotate_left
     ·rintro w' ⟨s_0,s_1,s_2,s_3,s_4⟩
      go_simp
      try with_reducible rfl
     rotate_left
     ·simp only [Act.put,ac_]
      rfl
     refine take_ (i:=7) (N:=some 55) (v:=?_) (a':=?_) (bm 11 255) rfl rfl k_r (fun _ _ _ h=>h) (Or.inl ⟨by rfl,?_⟩) hHeld ?_ ?_
     rotate_left
     ·rintro w' ⟨s_0,s_1,s_2,s_3,s_4⟩
      go_simp
      try with_reducible rfl
     rotate_left
     ·simp only [Act.put,ac_]
      rfl
     refine take_ (i:=8) (N:=some 56) (v:=?_) (a':=?_) (bm 11 511) rfl rfl k_r (fun _ _ _ h=>h) (Or.inl ⟨by rfl,?_⟩) hHeld ?_ ?_
     rotate_left
     ·rintro w' ⟨s_0,s_1,s_2,s_3,s_4⟩
      go_simp
      try with_reducible rfl
     rotate_left
     ·simp only [Act.put,ac_]
      rfl
     refine take_ (i:=9) (N:=some 57) (v:=?_) (a':=?_) (bm 11 1023) rfl rfl k_r (fun _ _ _ h=>h) (Or.inl ⟨by rfl,?_⟩) hHeld ?_ ?_
     rotate_left
     ·rintro w' ⟨s_0,s_1,s_2,s_3,s_4⟩
      go_simp
      try with_reducible rfl
     rotate_left
     ·simp only [Act.put,ac_]
      rfl
     refine take_ (i:=10) (N:=some 58) (v:=?_) (a':=?_) (bm 11 2047) rfl rfl k_r (fun _ _ _ h=>h) (Or.inl ⟨by rfl,?_⟩) hHeld ?_ ?_
     rotate_left
     ·rintro w' ⟨s_0,s_1,s_2,s_3,s_4⟩
      go_simp
      try with_reducible rfl
     rotate_left
     ·simp only [Act.put,ac_]
      rfl
     refine done_ k_r ?_
     clear hHeld x6 x12 xF x7 xI
     generalize wr.drew = wd at HDr HQr E12r E11r ⊢
     have HQ7r:=am (below_step HQ10.out HQr.out)
     have x12:wd.cell? ⟨b12,0,none⟩ = some (.int .i64 (m:Int)):=(blk_cell E12r.out 0).trans rfl
     have x11:wd.cell? ⟨b11,0,none⟩ = some (.slice (some ⟨g,0,none⟩) s.T.length cap):=(blk_cell E11r.out 0).trans rfl
     have xC:=(HQ7r.out.cell (World.block_lt_of_cell? w7 _ (HXC.out m HML.out))).trans (HXC.out m HML.out)
     rw [HPL.out] at xC
     have x1:wd.cell? ⟨b1,2,none⟩ = some (.int .i64 a0_2):=(blk_cell (blk_below X17.out HQ7r.out) 2).trans rfl
     obtain ⟨hga,hgf⟩:=Kd.R_celln false HDr.out (m:Int) hgm hmI
     rw [Int.toNat_natCast] at hga hgf
     have HDs:=am (Kd.R_drew HDr.out)
     have HQs:=am (below_drew1 HQr.out)
     have E12s:=am (blk_drew E12r.out)
     have E11s:=am (blk_drew E11r.out)
     go_wp2
     go_still_tail 10,k_r
     change wpList _ _ _ _ _ wd.drew
     have hga':wd.drew.cell? ⟨g,m,none⟩ = some _:=hga
     have hgf':wd.drew.frozen? ⟨g,m,none⟩ = false:=hgf
     clear hga hgf x12 x11 xC x1
     generalize wd.drew = we at hga' hgf' HDs HQs E12s E11s ⊢
     have h1:=Kd.R_putn HDs.out (m:Int) bb
     rw [Int.toNat_natCast] at h1
     have HDz:=am h1
     have HQz:=am (HQs.out.setCell (p:=⟨g,m,none⟩) HGB.out (.bool bb))
     have hg11:¬ g = b11:=fun e=>Kd.R_ne HDs.out E11s.out d_c (by rw [e];rfl)
     have hg12:¬ g = b12:=fun e=>Kd.R_ne HDs.out E12s.out d_c (by rw [e];rfl)
     have E11z:=am (blk_far E11s.out (p:=⟨g,m,none⟩) (fun e=>hg11 e.symm) (.bool bb))
     have E12z:=am (blk_far E12s.out (p:=⟨g,m,none⟩) (fun e=>hg12 e.symm) (.bool bb))
     clear h1 hg11 hg12
     go_wp2_with (first
      | ((with_reducible refine gate_store (t:=4) (p:=68) rfl ?_);refine store_event (t:=4) (p:=68) (v:=?vo) (w1:=(we.setCell ⟨g,m,none⟩ (.bool bb))) ?hg ?ho ?hn ?hr ?_;(case ho=>rfl);(case hg=>rfl);(case hn=>rfl);(case hr=>first | (go_simp;done) | (go_simp;rfl));intro wz hwz;rw [← hwz] at HDz HQz E11z E12z;clear hwz hga' hgf';have x12:wz.cell? ⟨b12,0,none⟩ = some (.int .i64 (m:Int)):=(blk_cell E12z.out 0).trans rfl)
      | (refine bx 12 #[.int .i64 0] 3 ?_;intro b13 hg_ w17 hbox hb;have E12b:=am hbox;have G13:=am (show b13 = wz.heap.size from hg_);have HN13:=am (show b13 ≠ b11 by have:=blk_lt E11z.out;omega);have HQ17:=am (below_step HQz.out hb);have E11c:=am (blk_below E11z.out hb);have HD17:=am (Kd.R_below HDz.out hb);have y13:w17.cell? ⟨b13,0,none⟩ = some (.int .i64 0):=(blk_cell hbox 0).trans rfl;have f13:=blk_frozen hbox 0;clear hg_ hbox hb)
      | ((with_reducible refine gate_dst (N:=46) rfl ?_);obtain ⟨w18,hw18⟩:∃ W,w17.setCell ⟨b13,0,none⟩ (.int .i64 (m:Int)) = W:=⟨_,rfl⟩;rw [hw18];have HQ18:=am (show Below w10.heap.size w10 w18 by rw [← hw18];exact HQ17.out.setCell (p:=⟨b13,0,none⟩) (by rw [G13.out];exact HQz.out.size) _);have E12c:=am (show w18.heap[b13]? = some (.cells #[.int .i64 (m:Int)] 3 (0,0)) by rw [← hw18];exact (blk_set E12b.out 0 _).trans rfl);have E11d:=am (show w18.heap[b11]? = some (.cells #[.slice (some ⟨g,0,none⟩) s.T.length cap] 81 (0,0)) by rw [← hw18];exact blk_far E11c.out (p:=⟨b13,0,none⟩) HN13.out.symm _);have HD18:=am (show Kd.R Kd.bool 4 w18 w10.heap.size (fun _=>True) (.slice (some ⟨g,0,none⟩) s.T.length cap) (A.set m bb) by rw [← hw18];exact R_off (p:=⟨b13,0,none⟩) rfl HD17.out E12b.out d_c _);clear hw18 y13 f13;have y13:w18.cell? ⟨b13,0,none⟩ = some (.int .i64 (m:Int)):=(blk_cell E12c.out 0).trans rfl;have f13:=blk_frozen E12c.out 0))
     go_roundw
     case rel=>exact ⟨m,A.set m bb,b13,by have:=HK.out;omega,rfl,by rw [List.length_set];exact HAL.out,HDW2,⟨(blk_set E12c.out 0 _).trans rfl⟩,⟨blk_far E11d.out (p:=⟨b13,0,none⟩) HN13.out.symm _⟩,⟨R_off (p:=⟨b13,0,none⟩) rfl HD18.out E12c.out d_c _⟩,⟨HQ18.out.setCell (p:=⟨b13,0,none⟩) (by rw [G13.out];exact HQz.out.size) _⟩,⟨⟨by rw [G13.out];exact HQz.out.size,HN13.out⟩⟩⟩
     case measure=>rw [cellN_of HME.out,cellN_of ((blk_cell ((blk_set E12c.out 0 _).trans rfl) 0).trans rfl)];omega
    have hbe:(((fm:Nat):Int) == ((fa:Nat):Int)) = false:=by rw [beq_eq_false_iff_ne];omega
    obtain ⟨bN,oN,An,cn,rfl,hzN,_,hCn⟩:=at_rowK HC2.out m (by rw [HLN.out];exact HML.out)
    have hmL:m < s.N.length:=by rw [HO2.out.lN];exact HML.out
    have hNe:NN.getD m [] = castsI (s.N.getD m []):=by rw [← HNN.out,List.getD_eq_getElem?_getD,List.getElem?_map,List.getElem?_eq_getElem hmL,getD_lt hmL];rfl
    obtain ⟨hn4,hnk⟩:=HO2.out.next _ (getD_mem (d:=([]:List Nat)) hmL)
    obtain ⟨bb,hbb⟩:∃ x,leadF s A m (s.N.getD m []) = x:=⟨_,rfl⟩
    have HDW2:=am (show downJ s (bt a0_1 0) a0_2 fa m (A.set m bb) = goodL s (bt a0_1 0) a0_2 fa by rw [← HDW.out,downJ_ne (by rw [HFM.out];exact hfe),hbb])
    rw [hNe,castsI_length,hn4] at hzN hCn
    have ZN:=am hzN
    have HCN:=am hCn
    have HN4:=am hn4
    have HNK:=am hnk
    have HBB:=am hbb
    have hfm3:s.F.getD m 0 ≤ 300:=by have h1:=far_le HO2.out.ok HML.out;have:=HM.out;have:=HML.out;omega
    clear hfe hzN hCn hNe hn4 hnk hmL hbb
    go_wp2
    refine start_ (n:=11) (S:=fun w'=>w'.cell? ⟨b6,1,none⟩ = some (.slice (some ⟨bF,oF,none⟩) FF.length c1) ∧ w'.cell? ⟨b12,0,none⟩ = some (.int .i64 (m:Int)) ∧ w'.cell? ⟨bF,oF + m,none⟩ = some (.int .i64 (fm:Int)) ∧ w'.cell? ⟨b7,0,none⟩ = some (.int .i64 (i0:Int)) ∧ w'.cell? ⟨bF,oF + i0,none⟩ = some (.int .i64 (fa:Int))) (ds:=[]) (bm 11 0) k_r rfl rfl ⟨x6,x12,xF,x7,xI⟩ (fun hHeld=>?_)
    refine take_ (i:=0) (N:=some 48) (v:=?_) (a':=?_) (bm 11 1) rfl rfl k_r (fun _ _ _ h=>h) (Or.inl ⟨by rfl,?_⟩) hHeld ?_ ?_
    rotate_left
    ·rintro w' ⟨s_0,s_1,s_2,s_3,s_4⟩
     go_simp
     try with_reducible rfl
    rotate_left
    ·simp only [Act.put,ac_]
     rfl
    refine take_ (i:=1) (N:=some 49) (v:=?_) (a':=?_) (bm 11 3) rfl rfl k_r (fun _ _ _ h=>h) (Or.inl ⟨by rfl,?_⟩) hHeld ?_ ?_
    rotate_left
    ·rintro w' ⟨s_0,s_1,s_2,s_3,s_4⟩
     go_simp
     try with_reducible rfl
    rotate_left
    ·simp only [Act.put,ac_]
     rfl
    refine take_ (i:=2) (N:=some 50) (v:=?_) (a':=?_) (bm 11 7) rfl rfl k_r (fun _ _ _ h=>h) (Or.inl ⟨by rfl,?_⟩) hHeld ?_ ?_
    rotate_left
    ·rintro w' ⟨s_0,s_1,s_2,s_3,s_4⟩
     go_simp
     try with_reducible rfl
    rotate_left
    ·simp only [Act.put,ac_]
     rfl
    refine take_ (i:=3) (N:=some 51) (v:=?_) (a':=?_) (bm 11 15) rfl rfl k_r (fun _ _ _ h=>h) (Or.inl ⟨by rfl,?_⟩) hHeld ?_ ?_
    rotate_left
    ·rintro w' ⟨s_0,s_1,s_2,s_3,s_4⟩
     go_simp
     try with_reducible rfl
    rotate_left
    ·simp only [Act.put,ac_]
     rfl
    refine take_ (i:=4) (N:=some 52) (v:=?_) (a':=?_) (bm 11 31) rfl rfl k_r (fun _ _ _ h=>h) (Or.inl ⟨by rfl,?_⟩) hHeld ?_ ?_
    rotate_left
    ·rintro w' ⟨s_0,s_1,s_2,s_3,s_4⟩
     go_simp
     try with_reducible rfl
    rotate_left
    ·simp only [Act.put,ac_]
     rfl
    refine take_ (i:=5) (N:=some 53) (v:=?_) (a':=?_) (bm 11 63) rfl rfl k_r (fun _ _ _ h=>h) (Or.inl ⟨by rfl,?_⟩) hHeld ?_ ?_
    rotate_left
    ·rintro w' ⟨s_0,s_1,s_2,s_3,s_4⟩
     go_simp
     try with_reducible rfl
    rotate_left
    ·simp only [Act.put,ac_]
     rfl
    refine take_ (i:=6) (N:=some 54) (v:=?_) (a':=?_) (bm 11 127) rfl rfl k_r (fun _ _ _ h=>h) (Or.inl ⟨by rfl,?_⟩) hHeld ?_ ?_
    rotate_left
    ·rintro w' ⟨s_0,s_1,s_2,s_3,s_4⟩
     go_simp
     try with_reducible rfl
    rotate_left
    ·simp only [Act.put,ac_]
     rfl
    refine take_ (i:=7) (N:=some 55) (v:=?_) (a':=?_) (bm 11 255) rfl rfl k_r (fun _ _ _ h=>h) (Or.inl ⟨by rfl,?_⟩) hHeld ?_ ?_
    rotate_left
    ·rintro w' ⟨s_0,s_1,s_2,s_3,s_4⟩
     go_simp
     try with_reducible rfl
    rotate_left
    ·simp only [Act.put,ac_]
     rfl
    refine take_ (i:=8) (N:=some 56) (v:=?_) (a':=?_) (bm 11 511) rfl rfl k_r (fun _ _ _ h=>h) (Or.inl ⟨by rfl,?_⟩) hHeld ?_ ?_
    rotate_left
    ·rintro w' ⟨s_0,s_1,s_2,s_3,s_4⟩
     go_simp
     try with_reducible rfl
    rotate_left
    ·simp only [Act.put,ac_]
     rfl
    refine take_ (i:=9) (N:=some 57) (v:=?_) (a':=?_) (bm 11 1023) rfl rfl k_r (fun _ _ _ h=>h) (Or.inl ⟨by rfl,?_⟩) hHeld ?_ ?_
    rotate_left
    ·rintro w' ⟨s_0,s_1,s_2,s_3,s_4⟩
     go_simp
     try with_reducible rfl
    rotate_left
    ·simp only [Act.put,ac_]
     rfl
    refine take_ (i:=10) (N:=some 58) (v:=?_) (a':=?_) (bm 11 2047) rfl rfl k_r (fun _ _ _ h=>h) (Or.inl ⟨by rfl,?_⟩) hHeld ?_ ?_
    rotate_left
    ·rintro w' ⟨s_0,s_1,s_2,s_3,s_4⟩
     go_simp
     try with_reducible rfl
    rotate_left
    ·simp only [Act.put,ac_]
     rfl
    refine done_ k_r ?_
    clear hHeld x6 x12 xF x7 xI
    generalize wr.drew = wd at HDr HQr E12r E11r ⊢
    replace HDr:=am (Kd.R_drew HDr.out)
    replace HQr:=am (below_drew1 HQr.out)
    replace E12r:=am (blk_drew E12r.out)
    replace E11r:=am (blk_drew E11r.out)
    have HQ7r:=am (below_step HQ10.out HQr.out)
    have x12:wd.cell? ⟨b12,0,none⟩ = some (.int .i64 (m:Int)):=(blk_cell E12r.out 0).trans rfl
    have x11:wd.cell? ⟨b11,0,none⟩ = some (.slice (some ⟨g,0,none⟩) s.T.length cap):=(blk_cell E11r.out 0).trans rfl
    have x6:wd.cell? ⟨b6,2,none⟩ = some (.slice (some ⟨bN,oN,none⟩) NN.length c2):=(blk_cell (blk_below X67.out HQ7r.out) 2).trans rfl
    have xN:wd.cell? ⟨bN,oN + m,none⟩ = some (.slice An 4 cn):=(HQ7r.out.cell (World.block_lt_of_cell? w7 _ ZN.out)).trans ZN.out
    have HPC:=am (lead_calls (w:=wd.drew) (c0:=cn) HML.out hfm3 HLF.out HNK.out HN4.out HBB.out (blk_below X67.out HQ7r.out) E12r.out E11r.out (fun a ha=>(HQ7r.out.cell (World.block_lt_of_cell? w7 _ (HXF.out a ha))).trans (HXF.out a ha)) (fun a ha=>by
     obtain ⟨h1,_⟩:=Kd.R_celln false HDr.out (a:Int) (Int.natCast_nonneg a) o_m
     rw [Int.toNat_natCast,rd_bool] at h1
     exact h1) (Kd.C_below HCN.out HQ7r.out))
    clear hfm3
    go_wp2
    refine start_ (n:=11) (S:=fun w'=>w'.cell? ⟨b11,0,none⟩ = some (.slice (some ⟨g,0,none⟩) s.T.length cap) ∧ w'.cell? ⟨b12,0,none⟩ = some (.int .i64 (m:Int)) ∧ w'.cell? ⟨b6,2,none⟩ = some (.slice (some ⟨bN,oN,none⟩) NN.length c2) ∧ w'.cell? ⟨bN,oN + m,none⟩ = some (.slice An 4 cn)) (ds:=[10]) (bm 11 0) k_r rfl rfl ⟨x11,x12,x6,xN⟩ (fun hHeld=>?_)
    refine py0 (i:=2) (N:=some 71) (bm 11 4) ?_
    refine py0 (i:=7) (N:=some 76) (bm 11 132) ?_
    refine tkk4 (i:=0) (N:=some 69) (bm 11 133) hHeld ?_
    refine tkk4 (i:=1) (N:=some 70) (bm 11 135) hHeld ?_
    refine tkk4 (i:=3) (N:=some 72) (bm 11 143) hHeld ?_
    refine tkk4 (i:=4) (N:=some 73) (bm 11 159) hHeld ?_
    refine py0 (i:=5) (N:=some 74) (bm 11 191) ?_
    refine tkk4 (i:=6) (N:=some 75) (bm 11 255) hHeld ?_
    refine one_ (i:=8) (N:=some 77) (bm 11 511) rfl rfl k_r d_c (fun K hK=>?_)
    refine goes_ Tryz.func59 k_r rfl #[.slice An 4 cn,.func (.func 60) #[] #[.pointer (some ⟨b6,0,none⟩),.pointer (some ⟨b12,0,none⟩),.pointer (some ⟨b11,0,none⟩)]] (by rfl) rfl rfl (by (try simp only [List.map_toArray,List.map_cons,List.map_nil]);first | done | rfl) ?_
    refine HPC.out.mono ?_
    rintro e w16 ⟨rfl,hb16⟩
    refine ⟨_,rfl,?_⟩
    have HD16:=am (Kd.R_below HDr.out hb16)
    have HQ16:=am (below_step HQr.out hb16)
    have E11q:=am (blk_below E11r.out hb16)
    have E12q:=am (blk_below E12r.out hb16)
    have hs1:=(hb16.cell (World.block_lt_of_cell? _ _ hHeld.1)).trans hHeld.1
    have hs2:=(hb16.cell (World.block_lt_of_cell? _ _ hHeld.2.1)).trans hHeld.2.1
    have hs3:=(hb16.cell (World.block_lt_of_cell? _ _ hHeld.2.2.1)).trans hHeld.2.2.1
    have hs4:=(hb16.cell (World.block_lt_of_cell? _ _ hHeld.2.2.2)).trans hHeld.2.2.2
    obtain ⟨hwa,hwf⟩:=Kd.R_celln false HD16.out (m:Int) (Int.natCast_nonneg m) hmI
    rw [Int.toNat_natCast] at hwa hwf
    clear hb16
    refine hK.out _ _ ⟨hs1,hs2,hs3,hs4⟩ (fun hHeld=>?_)
    clear hK K
    refine nm (some 77) ?_
    refine py0 (i:=9) (N:=some 78) (bm 11 1023) ?_
    refine last_ (i:=10) (N:=none) (bm 11 2047) rfl rfl k_r d_c (fun K hK=>?_)
    refine skip_ (w1:=?_) (by rfl) rfl ?_ ?_
    rotate_left
    ·go_simp
     rfl
    refine hK.out _ _ ?_
    clear hK K
    refine done_ k_r ?_
    clear x12 x11 x6 xN
    have h1:=Kd.R_putn HD16.out (m:Int) bb
    rw [Int.toNat_natCast] at h1
    have HDz:=am h1
    have HQz:=am (HQ16.out.setCell (p:=⟨g,m,none⟩) HGB.out (.bool bb))
    have hg11:¬ g = b11:=fun e=>Kd.R_ne HD16.out E11q.out d_c (by rw [e];rfl)
    have hg12:¬ g = b12:=fun e=>Kd.R_ne HD16.out E12q.out d_c (by rw [e];rfl)
    have E11z:=am (blk_far E11q.out (p:=⟨g,m,none⟩) (fun e=>hg11 e.symm) (.bool bb))
    have E12z:=am (blk_far E12q.out (p:=⟨g,m,none⟩) (fun e=>hg12 e.symm) (.bool bb))
    generalize w16.setCell ⟨g,m,none⟩ (.bool bb) = wz at HDz HQz E11z E12z ⊢
    have x12:wz.cell? ⟨b12,0,none⟩ = some (.int .i64 (m:Int)):=(blk_cell E12z.out 0).trans rfl
    clear h1 hg11 hg12 hwa hwf
    go_wp2_with (first
     | (refine bx 12 #[.int .i64 0] 3 ?_;intro b13 hg_ w17 hbox hb;have E12b:=am hbox;have G13:=am (show b13 = wz.heap.size from hg_);have HN13:=am (show b13 ≠ b11 by have:=blk_lt E11z.out;omega);have HQ17:=am (below_step HQz.out hb);have E11c:=am (blk_below E11z.out hb);have HD17:=am (Kd.R_below HDz.out hb);have y13:w17.cell? ⟨b13,0,none⟩ = some (.int .i64 0):=(blk_cell hbox 0).trans rfl;have f13:=blk_frozen hbox 0;clear hg_ hbox hb)
     | ((with_reducible refine gate_dst (N:=46) rfl ?_);obtain ⟨w18,hw18⟩:∃ W,w17.setCell ⟨b13,0,none⟩ (.int .i64 (m:Int)) = W:=⟨_,rfl⟩;rw [hw18];have HQ18:=am (show Below w10.heap.size w10 w18 by rw [← hw18];exact HQ17.out.setCell (p:=⟨b13,0,none⟩) (by rw [G13.out];exact HQz.out.size) _);have E12c:=am (show w18.heap[b13]? = some (.cells #[.int .i64 (m:Int)] 3 (0,0)) by rw [← hw18];exact (blk_set E12b.out 0 _).trans rfl);have E11d:=am (show w18.heap[b11]? = some (.cells #[.slice (some ⟨g,0,none⟩) s.T.length cap] 81 (0,0)) by rw [← hw18];exact blk_far E11c.out (p:=⟨b13,0,none⟩) HN13.out.symm _);have HD18:=am (show Kd.R Kd.bool 4 w18 w10.heap.size (fun _=>True) (.slice (some ⟨g,0,none⟩) s.T.length cap) (A.set m bb) by rw [← hw18];exact R_off (p:=⟨b13,0,none⟩) rfl HD17.out E12b.out d_c _);clear hw18 y13 f13;have y13:w18.cell? ⟨b13,0,none⟩ = some (.int .i64 (m:Int)):=(blk_cell E12c.out 0).trans rfl;have f13:=blk_frozen E12c.out 0))
    go_roundw
    case rel=>exact ⟨m,A.set m bb,b13,by have:=HK.out;omega,rfl,by rw [List.length_set];exact HAL.out,HDW2,⟨(blk_set E12c.out 0 _).trans rfl⟩,⟨blk_far E11d.out (p:=⟨b13,0,none⟩) HN13.out.symm _⟩,⟨R_off (p:=⟨b13,0,none⟩) rfl HD18.out E12c.out d_c _⟩,⟨HQ18.out.setCell (p:=⟨b13,0,none⟩) (by rw [G13.out];exact HQz.out.size) _⟩,⟨⟨by rw [G13.out];exact HQz.out.size,HN13.out⟩⟩⟩
    case measure=>rw [cellN_of HME.out,cellN_of ((blk_cell ((blk_set E12c.out 0 _).trans rfl) 0).trans rfl)];omega
   | zero =>
    have HDG:=am (show A = goodL s (bt a0_1 0) a0_2 fa from HDW.out)
    rw [show (((0:Nat):Int) - 1) = -1 from rfl] at x12
    have HSM:=am (solL_most (n:=bt a0_1 0) (goal:=a0_2) (far:=fa) HO2.out HO3.out (i:=fa) HLE.out)
    have HDF:=am (dfsW_eq (kidsN s (goodB s (bt a0_1 0) a0_2 fa)) fa 0 [])
    go_wp2_with (first
     | (refine bx 13 #[.nilFunc] 84 ?_;intro b13 hg_ w20 hbox hb;have Z13:=am hbox;have G13:=am (show b13 = wr.heap.size from hg_);have HN13:=am (show b13 ≠ b11 by have:=blk_lt E11w.out;omega);have HM13:=am (show b13 ≠ b10 by have:=blk_lt (blk_below E10.out HQ.out);omega);have HQ20:=am (below_step HQ.out hb);have E1120:=am (blk_below E11w.out hb);have HD20:=am (Kd.R_below HD.out hb);have HNE:=am (show b10 ≠ b11 ∧ b10 ≠ b13 ∧ b10 ≠ g ∧ w7.heap.size ≤ b10 from ⟨fun e=>by have h1:=blk_below E10.out HQ.out;rw [e,E11w.out] at h1;injection h1 with h1;injection h1 with _ h1 _;exact absurd h1 d_c,HM13.out.symm,fun e=>Kd.R_ne HD.out (blk_below E10.out HQ.out) d_c (by rw [← e];rfl),by rw [G10.out];exact HQ8.out.size⟩);have y13:w20.cell? ⟨b13,0,none⟩ = some .nilFunc:=(blk_cell hbox 0).trans rfl;have f13:=blk_frozen hbox 0;clear x12 hg_ hbox hb)
     | ((with_reducible refine gate_dst (N:=81) rfl ?_);obtain ⟨w21,hw21⟩:∃ W,w20.setCell ⟨b13,0,none⟩ (.func (.func 61) #[] #[.pointer (some ⟨b6,0,none⟩),.pointer (some ⟨b7,0,none⟩),.pointer (some ⟨b10,0,none⟩),.pointer (some ⟨b11,0,none⟩),.pointer (some ⟨b13,0,none⟩)]) = W:=⟨_,rfl⟩;rw [hw21];have HI21:=am (show WalkI w7 w21 b10 b11 b13 g s.T.length cap (.func (.func 61) #[] #[.pointer (some ⟨b6,0,none⟩),.pointer (some ⟨b7,0,none⟩),.pointer (some ⟨b10,0,none⟩),.pointer (some ⟨b11,0,none⟩),.pointer (some ⟨b13,0,none⟩)]) (goodL s (bt a0_1 0) a0_2 fa) [] by
       rw [← hw21]
       have hR:=R_off (p:=⟨b13,0,none⟩) rfl HD20.out Z13.out d_c (.func (.func 61) #[] #[.pointer (some ⟨b6,0,none⟩),.pointer (some ⟨b7,0,none⟩),.pointer (some ⟨b10,0,none⟩),.pointer (some ⟨b11,0,none⟩),.pointer (some ⟨b13,0,none⟩)])
       obtain ⟨cg,hcg⟩:=Kd.R_typed hR g rfl
       refine ⟨(below_step HQ10.out HQ20.out).setCell (p:=⟨b13,0,none⟩) (by rw [G13.out];exact HQ7.out.size) _,blk_far E1120.out (p:=⟨b13,0,none⟩) HN13.out.symm _,(blk_set Z13.out 0 _).trans rfl,⟨cg,hcg,fun a ha=>?_⟩,_,blk_far (blk_below E10.out HQ20.out) (p:=⟨b13,0,none⟩) HM13.out.symm _,R_off (p:=⟨b13,0,none⟩) rfl (Kd.R_below HO10.out HQ20.out) Z13.out d_c _⟩
       obtain ⟨h1,_⟩:=Kd.R_celln false hR (a:Int) (Int.natCast_nonneg a) o_m
       rw [Int.toNat_natCast,rd_bool,HDG.out,blk_cell hcg a] at h1
       exact h1);have HW21:=am hw21;clear hw21 y13 f13;have y13:w21.cell? ⟨b13,0,none⟩ = some (.func (.func 61) #[] #[.pointer (some ⟨b6,0,none⟩),.pointer (some ⟨b7,0,none⟩),.pointer (some ⟨b10,0,none⟩),.pointer (some ⟨b11,0,none⟩),.pointer (some ⟨b13,0,none⟩)]):=(blk_cell HI21.out.e13 0).trans rfl)
     | (go_at_call 61;have hwk:=walk_calls HO2.out (goodB s (bt a0_1 0) a0_2 fa) (goodL s (bt a0_1 0) a0_2 fa) (fun a=>rfl) i0 fa HI0.out HFA.out HLE.out w7 b6 b7 b10 b11 b13 g cap A0 (some ⟨bF,oF,none⟩) A2 A3 s.T.length WW.length c0 c1 c2 c3 FF NN HFF.out HNN.out X67.out X77.out HC1.out HC2.out HNE.out _ rfl fa 0 [] [] w21 HPOS.out (Nat.zero_add _) HI21.out (by rw [HDF.out,List.length_map];show 0 + _ ≤ _;rw [Nat.zero_add];exact HSM.out);rw [show txtW [] = (⟨#[]⟩:ByteArray) from rfl] at hwk;refine hwk.mono ?_;rintro e w22 ⟨rfl,hi22⟩;have HI22:=am hi22;clear hi22 hwk y13;obtain ⟨v10,h10,hR10⟩:=HI22.out.e10;have y10:w22.cell? ⟨b10,0,none⟩ = some v10:=(blk_cell h10 0).trans rfl;have HR10:=am hR10;clear h10 hR10))
    go_ret2
    exact ⟨_,rfl,by
     have h1:=HR10.out
     rw [HDF.out,List.nil_append,List.map_map] at h1
     exact Kd.R_lower h1 HB7.out.size,below_step HB7.out HI22.out.b5⟩
end Go.Proofs.YtldhkbiomingbaaGreatDoor.F

namespace Go.Proofs.YtldhkbiomingbaaGreatDoor.F
open Go.Proofs.YtldhkbiomingbaaGreatDoor
open Go.RowKit Go.YW.PrintWords Go.YW.PrintLast Go.YW.PrintMore
attribute [local go_sem] max2_int min2_int max_two min_two max_three min_three max_four min_four
def laws_eqStringS.l0:Nat → List ByteArray → List ByteArray → Int → Option (Bool)
 | 0,_,_,_=>none
 | k + 1,x0,x1,x5=>if x5 < (x0.length:Int) then (if 0 ≤ x5 then (if x5 < (x1.length:Int) then (if (rdOf ByteArray.empty x0 x5).toList = (rdOf ByteArray.empty x1 x5).toList then (laws_eqStringS.l0 k x0 x1 (wrap64 (x5 + 1))) else (some false)) else (none)) else (none)) else (some true)
def laws_eqStringS.f (k:Nat) (l0:List ByteArray) (l1:List ByteArray):Option (Bool):=if (l0.length:Int) = (l1.length:Int) then (laws_eqStringS.l0 k l0 l1 0) else (some false)
theorem laws_eqStringS.mono_l:∀ k,(∀ y0 y1 y2,LeO (laws_eqStringS.l0 k y0 y1 y2) (laws_eqStringS.l0 (k + 1) y0 y1 y2))
 | 0=>fun _ _ _ r h=>by simp [laws_eqStringS.l0] at h
 | k + 1=>by
  have ih0:=laws_eqStringS.mono_l k
  ·intro y0 y1 y2
   unfold laws_eqStringS.l0
   exact mo
theorem laws_eqStringS.mono:∀ a0 a1 k,LeO (laws_eqStringS.f k a0 a1) (laws_eqStringS.f (k + 1) a0 a1):=by
 intro a0 a1 k
 have ih0:=laws_eqStringS.mono_l k
 unfold laws_eqStringS.f
 exact mo
theorem laws_eqStringS.calls (k:Nat) (A0:Option Addr) (c0:Nat) (l0:List ByteArray) (A1:Option Addr) (c1:Nat) (l1:List ByteArray) (r:Bool) (w:World) (hr0:Kd.C Kd.string w A0 l0.length l0) (hc0:l0.length ≤ c0) (hr1:Kd.C Kd.string w A1 l1.length l1) (hc1:l1.length ≤ c1) (h:laws_eqStringS.f k l0 l1 = some r) :
  Calls Tryz.prog 26 #[.slice A0 l0.length c0,.slice A1 l1.length c1] w fun e w'=>e = .returned (.bool r) ∧ Drawn0 w w':=by
 have HR0:=am hr0
 have HC0:=am hc0
 clear hr0 hc0
 have HR1:=am hr1
 have HC1:=am hc1
 clear hr1 hc1
 have H:(if (l0.length:Int) = (l1.length:Int) then (laws_eqStringS.l0 k l0 l1 0) else (some false)) = some r:=h
 clear h
 by_cases c3:(l0.length:Int) = (l1.length:Int)
 rotate_left
 ·rw [if_neg c3] at H
  have c3b0:=beq_eq_false_iff_ne.mpr c3
  have c3b1:=bne_iff_ne.mpr c3
  have c3b2:(l0.length == l1.length) = false:=by first | simpa using c3 | (simp at c3 ⊢;omega)
  obtain rfl:=Option.some.inj H
  go_enter Tryz.func26,Tryz.ntmps26
  go_wp2
  repeat (go_quiet (fail);try go_wp2)
  go_ret
  exact ⟨aq7,aq20⟩
 rw [if_pos c3] at H
 have c3b0:=beq_iff_eq.mpr c3
 have c3b1:=bne_eq_false_iff_eq.mpr c3
 have c3b2:(l0.length == l1.length) = true:=by first | simpa using c3 | (simp at c3 ⊢;omega)
 clear c3
 have H':=am H
 clear H
 go_enter Tryz.func26,Tryz.ntmps26
 go_wp2
 repeat (go_quiet (fail);try go_wp2)
 go_loopg [5] k (fun kq v5 w'=>∃ (x5_1:Int),v5 = .int .i64 x5_1 ∧ Aside0 (laws_eqStringS.l0 kq l0 l1 x5_1 = some r) ∧ Aside0 (kq ≤ k) ∧ Drawn0 w w')
 case atStart=>exact ⟨(0),aq7,H',⟨Nat.le_refl _⟩,aq20⟩
 case round =>
  clear H'
  try clear c1
  try clear c2
  try clear p2
  try clear c3
  try clear c3b0
  try clear c3b1
  try clear c3b2
  obtain ⟨x5_1,rfl,HA,HK1,⟨m1,rfl⟩⟩:=hrel
  cases gk with
  | zero=>exact absurd HA.out (by simp [laws_eqStringS.l0])
  | succ k1 =>
   have H:=HA.out
   clear HA
   simp only [laws_eqStringS.l0] at H
   by_cases c4:x5_1 < (l0.length:Int)
   rotate_left
   ·rw [if_neg c4] at H
    have c4b0:=decide_eq_false c4
    clear c4
    obtain rfl:=Option.some.inj H
    go_wp2
    repeat (go_quiet (fail);try go_wp2)
    go_ret
    exact ⟨aq7,aq20⟩
   rw [if_pos c4] at H
   have c4b0:=decide_eq_true c4
   clear c4
   replace H:=gd H
   obtain ⟨c5,H⟩:=H
   have c5b0:=decide_eq_true c5
   clear c5
   replace H:=gd H
   obtain ⟨c6,H⟩:=H
   have c6b0:=decide_eq_true c6
   clear c6
   by_cases c7:(rdOf ByteArray.empty l0 x5_1).toList = (rdOf ByteArray.empty l1 x5_1).toList
   rotate_left
   ·rw [if_neg c7] at H
    have c7b0:=beq_eq_false_iff_ne.mpr c7
    have c7b1:=bne_iff_ne.mpr c7
    obtain rfl:=Option.some.inj H
    have p101:0 ≤ (x5_1:Int):=of_decide_eq_true aq4
    have q101:x5_1 < (l0.length:Int):=of_decide_eq_true aq4
    obtain ⟨ad101,e101,hx101_0⟩:=Kd.at_string HR0.out x5_1 p101 q101
    cases e101
    replace p101:=eq_true p101
    replace q101:=eq_true q101
    have p102:0 ≤ (x5_1:Int):=of_decide_eq_true aq4
    have q102:x5_1 < (l1.length:Int):=of_decide_eq_true aq4
    obtain ⟨ad102,e102,hx102_0⟩:=Kd.at_string HR1.out x5_1 p102 q102
    cases e102
    replace p102:=eq_true p102
    replace q102:=eq_true q102
    go_wp2
    repeat (go_quiet (fail);try go_wp2)
    go_ret
    exact ⟨aq7,aq20⟩
   rw [if_pos c7] at H
   have c7b0:=beq_iff_eq.mpr c7
   have c7b1:=bne_eq_false_iff_eq.mpr c7
   clear c7
   have H':=am H
   clear H
   have p101:0 ≤ (x5_1:Int):=of_decide_eq_true aq4
   have q101:x5_1 < (l0.length:Int):=of_decide_eq_true aq4
   obtain ⟨ad101,e101,hx101_0⟩:=Kd.at_string HR0.out x5_1 p101 q101
   cases e101
   replace p101:=eq_true p101
   replace q101:=eq_true q101
   have p102:0 ≤ (x5_1:Int):=of_decide_eq_true aq4
   have q102:x5_1 < (l1.length:Int):=of_decide_eq_true aq4
   obtain ⟨ad102,e102,hx102_0⟩:=Kd.at_string HR1.out x5_1 p102 q102
   cases e102
   replace p102:=eq_true p102
   replace q102:=eq_true q102
   go_wp2
   repeat (go_quiet (fail);try go_wp2)
   go_roundg k1
   case measure=>have:=HK1.out;omega
   case rel=>exact ⟨(wrap64 (x5_1 + 1)),aq7,H',⟨aq70⟩,aq20⟩
def laws_markText.l0:Nat → Int → ByteArray → Option (ByteArray)
 | 0,_,_=>none
 | k + 1,x0,x3=>if x0 > 0 then ((some (([(wrap64 (48 + (Int.tmod x0 10))) % 256]:List Int):List Int)).bind fun y101=>(if (strOfNums y101).size + x3.size ≤ 9223372036854775807 then (laws_markText.l0 k (wrap64 (Int.tdiv x0 10)) ((strOfNums y101) ++ x3)) else (none))) else (if 1 + x3.size ≤ 9223372036854775807 then (some ((⟨#[109]⟩:ByteArray) ++ x3)) else (none))
def laws_markText.f (k:Nat) (a0:Int):Option (ByteArray):=if a0 ≤ 0 then (some (⟨#[109,48]⟩:ByteArray)) else (laws_markText.l0 k a0 (⟨#[]⟩:ByteArray))
theorem laws_markText.mono_l:∀ k,(∀ y0 y1,LeO (laws_markText.l0 k y0 y1) (laws_markText.l0 (k + 1) y0 y1))
 | 0=>fun _ _ r h=>by simp [laws_markText.l0] at h
 | k + 1=>by
  have ih0:=laws_markText.mono_l k
  ·intro y0 y1
   unfold laws_markText.l0
   exact mo
theorem laws_markText.mono:∀ a0 k,LeO (laws_markText.f k a0) (laws_markText.f (k + 1) a0):=by
 intro a0 k
 have ih0:=laws_markText.mono_l k
 unfold laws_markText.f
 exact mo
theorem laws_markText.calls (k:Nat) (a0:Int) (r:ByteArray) (w:World) (h:laws_markText.f k a0 = some r) :
  Calls Tryz.prog 62 #[.int .i64 a0] w fun e w'=>e = .returned (.string r) ∧ Below w.heap.size w w':=by
 have HB:=am (Below.refl w.heap.size w)
 have H:(if a0 ≤ 0 then (some (⟨#[109,48]⟩:ByteArray)) else (laws_markText.l0 k a0 (⟨#[]⟩:ByteArray))) = some r:=h
 clear h
 by_cases c2:a0 ≤ 0
 ·rw [if_pos c2] at H
  have c2b0:=decide_eq_true c2
  clear c2
  obtain rfl:=Option.some.inj H
  go_enter Tryz.func62,Tryz.ntmps62
  go_wp2
  go_ret
  exact ⟨aq8,aq2⟩
 rw [if_neg c2] at H
 have c2b0:=decide_eq_false c2
 clear c2
 have H':=am H
 clear H
 go_enter Tryz.func62,Tryz.ntmps62
 go_wp2
 go_loopg [0,3] k (fun kq v0 v3 w'=>∃ (x0_1:Int) (x3_1:ByteArray),v0 = .int .i64 x0_1 ∧ v3 = .string x3_1 ∧ Aside0 (laws_markText.l0 kq x0_1 x3_1 = some r) ∧ Aside0 (kq ≤ k) ∧ Aside0 (Below w.heap.size w w'))
 case atStart=>exact ⟨(a0),((⟨#[]⟩:ByteArray)),aq7,aq7,H',⟨Nat.le_refl _⟩,⟨aq2⟩⟩
 case round =>
  clear H'
  try clear c2
  try clear c2b0
  try clear p2
  obtain ⟨x0_1,x3_1,rfl,rfl,HA,HK1,HB⟩:=hrel
  cases gk with
  | zero=>exact absurd HA.out (by simp [laws_markText.l0])
  | succ k1 =>
   have H:=HA.out
   clear HA
   simp only [laws_markText.l0] at H
   by_cases c3:x0_1 > 0
   rotate_left
   ·rw [if_neg c3] at H
    have c3b0:=decide_eq_false c3
    clear c3
    replace H:=gd H
    obtain ⟨c8,H⟩:=H
    have c8b0:=eq_true c8
    have c8b1:=decide_eq_true c8
    try have c8b2:(9223372036854775807 < 1 + x3_1.size) = False:=eq_false (Nat.not_lt.2 c8)
    obtain rfl:=Option.some.inj H
    go_wp2
    go_ret
    exact ⟨aq8,aq2⟩
   rw [if_pos c3] at H
   have c3b0:=decide_eq_true c3
   clear c3
   obtain ⟨y101,hy_⟩:∃ y_:List Int,y_ = (([(wrap64 (48 + (Int.tmod x0_1 10))) % 256]:List Int)):=⟨_,rfl⟩
   replace H:(if (strOfNums y101).size + x3_1.size ≤ 9223372036854775807 then (laws_markText.l0 k1 (wrap64 (Int.tdiv x0_1 10)) ((strOfNums y101) ++ x3_1)) else (none)) = some r:=aq5
   have Ny101:=am hy_
   clear hy_
   replace H:=gd H
   obtain ⟨c4,H⟩:=H
   have c4b0:=eq_true c4
   have c4b1:=decide_eq_true c4
   try have c4b2:(9223372036854775807 < (strOfNums y101).size + x3_1.size) = False:=eq_false (Nat.not_lt.2 c4)
   have H':=am H
   clear H
   go_wp2_with (first | ((with_reducible refine gate_dst (N:=12) rfl ?_);refine Kd.R_lit (Kd.int .u8) _ 5 ?hg (N:=12) ?hd (xs:=([(wrap64 (48 + (Int.tmod x0_1 10))) % 256]:List Int)) (inner:=[.int .u8 ((wrap64 (48 + (Int.tmod x0_1 10))) % 256)]) (ok:=fun _=>True) (okp:=fun _=>True) ?hr ?hp (fun _ hk=>hk) trivial (Below.refl _ _) (Nat.le_refl _) (by simp) ?_;(case hd=>rfl);(case hg=>rfl);(case hr=>exact aq13);(case hp=>exact (Reps.one (show Kd.M (Kd.int .u8) _ _ _ ((wrap64 (48 + (Int.tmod x0_1 10))) % 256) [.int .u8 ((wrap64 (48 + (Int.tmod x0_1 10))) % 256)] from rfl) (Reps.none _ _)));intro v102 w5 ho6 hb hg_ hnew_;clear hg_ hnew_;(first | rw [← Ny101.out] at ho6 | (simp only [Int.reduceToNat] at ho6;rw [← Ny101.out] at ho6));have HO103:=am (Kd.R_lower ho6 (below_size aq2));replace HB:=am (below_step aq2 hb);clear hb ho6;(first | have hcv7:=own_string (P:=Tryz.prog) Tryz.underlying63 Tryz.underlying5 Tryz.underlying9 (Kd.own_of_R HO103.out) | have hcv7:=(show ∀ {A:Option Addr} {n c:Nat} {xs:List Int} {ok:Nat → Prop} {W:World} {b:Nat},Kd.V (Kd.int .u8) 5 W b ok (.slice A n c) xs → (convert 63 9 (.slice A n c)).run Tryz.prog W = .ok (.string (strOfNums xs)) W from fun h=>by obtain ⟨rfl,_,hC⟩:=Kd.V_reads' h;exact Kd.C_string Tryz.underlying63 Tryz.underlying5 Tryz.underlying9 hC) HO103.out)))
   go_roundg k1
   case measure=>have:=HK1.out;omega
   case rel=>exact ⟨(wrap64 (Int.tdiv x0_1 10)),((strOfNums y101) ++ x3_1),aq7,aq7,H',⟨aq70⟩,⟨aq2⟩⟩
def laws_markStringS.l0:Nat → List ByteArray → Int → Int → Option (Int × List ByteArray)
 | 0,_,_,_=>none
 | k + 1,x0,x1,x5=>if x5 < (x0.length:Int) then ((laws_markText.f k x1).bind fun t101=>(if 0 ≤ x5 then (laws_markStringS.l0 k (x0.set (x5:Int).toNat t101) (wrap64 (x1 + 1)) (wrap64 (x5 + 1))) else (none))) else (some (x1,x0))
def laws_markStringS.f (k:Nat) (l0:List ByteArray) (a1:Int):Option (Int × List ByteArray):=laws_markStringS.l0 k l0 a1 0
theorem laws_markStringS.mono_l:∀ k,(∀ y0 y1 y2,LeO (laws_markStringS.l0 k y0 y1 y2) (laws_markStringS.l0 (k + 1) y0 y1 y2))
 | 0=>fun _ _ _ r h=>by simp [laws_markStringS.l0] at h
 | k + 1=>by
  have ih0:=laws_markStringS.mono_l k
  ·intro y0 y1 y2
   unfold laws_markStringS.l0
   have im0:=@laws_markText.mono;exact mo
theorem laws_markStringS.mono:∀ a0 a1 k,LeO (laws_markStringS.f k a0 a1) (laws_markStringS.f (k + 1) a0 a1):=by
 intro a0 a1 k
 have ih0:=laws_markStringS.mono_l k
 unfold laws_markStringS.f
 have im0:=@laws_markText.mono;exact mo
theorem laws_markStringS.calls (k:Nat) (P0_:Nat → Prop) (u9000_:Value) (l0:List ByteArray) (a1:Int) (r1:Int) (r2:List ByteArray) (w0 w:World) (hB:Below w0.heap.size w0 w) (ho0:Kd.R Kd.string 9 w w0.heap.size P0_ u9000_ l0) (h:laws_markStringS.f k l0 a1 = some (r1,r2)) :
  Calls Tryz.prog 27 #[u9000_,.int .i64 a1] w fun e w'=>e = .returned (.int .i64 r1) ∧ Kd.R Kd.string 9 w' w0.heap.size (fun k_=>(P0_ k_ ∨ w.heap.size ≤ k_)) u9000_ r2 ∧ Below w0.heap.size w0 w' ∧ Kept w w' (fun k_=>P0_ k_):=by
 have HO0:=am (show Kd.R Kd.string 9 w w0.heap.size (fun k_=>(P0_ k_ ∨ w.heap.size ≤ k_)) u9000_ l0 from Kd.R_mono ho0 (fun k_ hk=>(.inl hk)))
 have HK:=am (Kept.refl w (fun k_=>P0_ k_))
 have HW0:=am hB.size
 have HB:=am hB
 clear hB
 have H:(laws_markStringS.l0 k l0 a1 0) = some (r1,r2):=h
 clear h
 have H':=am H
 clear H
 go_enter Tryz.func27,Tryz.ntmps27
 go_wp2
 go_loopg [1,5] k (fun kq v1 v5 w'=>∃ (x0_1:List ByteArray) (x1_1:Int) (x5_1:Int),v1 = .int .i64 x1_1 ∧ v5 = .int .i64 x5_1 ∧ Aside0 (laws_markStringS.l0 kq x0_1 x1_1 x5_1 = some (r1,r2)) ∧ Aside0 (kq ≤ k) ∧ Aside0 (Kd.R Kd.string 9 w' w0.heap.size (fun k_=>(P0_ k_ ∨ w.heap.size ≤ k_)) u9000_ x0_1) ∧ Aside0 (Kept w w' (fun k_=>P0_ k_)) ∧ Aside0 (Below w0.heap.size w0 w'))
 case atStart=>exact ⟨(l0),(a1),(0),aq7,aq7,H',⟨Nat.le_refl _⟩,⟨by (with_reducible repeat (first | apply Kd.R_alloc | apply Kd.R_drewN | apply Kd.R_drew));exact HO0.out⟩,⟨aq40⟩,⟨aq2⟩⟩
 case round =>
  clear H'
  try clear c2
  try clear p2
  obtain ⟨x0_1,x1_1,x5_1,rfl,rfl,HA,HK1,HO_0,HK,HB⟩:=hrel
  cases gk with
  | zero=>exact absurd HA.out (by simp [laws_markStringS.l0])
  | succ k1 =>
   have H:=HA.out
   clear HA
   simp only [laws_markStringS.l0] at H
   by_cases c3:x5_1 < (x0_1.length:Int)
   rotate_left
   ·rw [if_neg c3] at H
    have c3b0:=decide_eq_false c3
    clear c3
    simp only [Option.some.injEq,Prod.mk.injEq] at H
    obtain ⟨rfl,rfl⟩:=H
    obtain ⟨Ao11,co11,eo11⟩:=Kd.R_slice HO_0.out
    subst eo11
    go_wp2
    go_ret
    exact ⟨aq8,aq56,aq2,aq40⟩
   rw [if_pos c3] at H
   have c3b0:=decide_eq_true c3
   clear c3
   obtain ⟨t101,A4,H⟩:=bn H
   replace H:=gd H
   obtain ⟨c5,H⟩:=H
   have c5b0:=decide_eq_true c5
   clear c5
   obtain ⟨y102,hy_⟩:∃ y_:List ByteArray,y_ = (x0_1.set (x5_1:Int).toNat t101):=⟨_,rfl⟩
   replace H:(laws_markStringS.l0 k1 y102 (wrap64 (x1_1 + 1)) (wrap64 (x5_1 + 1))) = some (r1,r2):=aq5
   have Ny102:=am hy_
   clear hy_
   have H':=am H
   clear H
   obtain ⟨Ao7,co7,eo7⟩:=Kd.R_slice HO_0.out
   subst eo7
   go_wp2_with (first | ((with_reducible refine gate_callee (f:=62) rfl ?_);refine goesL_ (some 15) rfl rfl Tryz.func62 k_r rfl #[.int .i64 x1_1] rfl aq6 ?_;(with_reducible refine (laws_markText.calls k1 x1_1 t101 _ A4.out).mono ?_);rintro e w8 ⟨rfl,hb⟩;refine ⟨_,rfl,?_⟩;replace HO_0:=am (Kd.R_below aq56 hb);replace HK:=am (Kept.below (S:=(fun k_=>P0_ k_)) aq40 hb);replace HB:=am (below_step aq2 hb);(try clear hb);have p6:0 ≤ (x5_1:Int):=of_decide_eq_true aq4;have q6:(x5_1:Int) < ((x0_1.length:Int):Int):=of_decide_eq_true aq4;obtain ⟨go6,co6,eo6,gb6,gl6,cl6,HG6⟩:=Kd.R_form HO_0.out o_m;(first | cases eo6 | (injection eo6 with ea_ en_ ec_;(first | subst ea_ | (injection ea_ with ea_;subst ea_));subst ec_;clear en_));have GB6:=am gb6;have GG6:=am HG6;clear gb6 gl6 HG6;have HMgo6:=am (show (P0_ go6 ∨ w.heap.size ≤ go6) from (HO_0.out.1 _ rfl));obtain ⟨hx6_0,hf6_0⟩:=Kd.R_celln (⟨#[]⟩:ByteArray) HO_0.out (x5_1:Int) p6 q6;replace p6:=eq_true p6;replace q6:=eq_true q6;obtain ⟨hy9_,hz9_⟩:=Kd.R_celln (⟨#[]⟩:ByteArray) HO_0.out (x5_1:Int) (of_decide_eq_true aq4) (of_decide_eq_true aq4);have HP9:=Kd.R_putg HO_0.out (x5_1:Int) t101) | ((with_reducible refine gate_store (t:=9) (p:=16) rfl ?_);refine store_event (t:=9) (p:=16) (v:=?vo_w10) (w1:=(w8.setCell ⟨go6,(x5_1:Int).toNat,none⟩ (.string t101))) ?hg ?ho ?hn ?hr ?_;(case ho=>rfl);(case hg=>rfl);(case hn=>rfl);(case hr=>exact aq13);intro w10 hw;have hg:w8.grownBy w10 (some go6):=(by rw [hw];exact HP9.2);have hp_:Kd.R Kd.string 9 w10 w0.heap.size (fun k_=>(P0_ k_ ∨ w.heap.size ≤ k_)) (.slice (some ⟨go6,0,none⟩) x0_1.length co7) y102:=(by rw [hw,Ny102.out];exact HP9.1);clear HP9;replace HB:=am ((by rw [hw];exact below_set (HB.out) GB6.out:Below w0.heap.size w0 w10));replace HK:=am (Kept.of_grown (S:=(fun k_=>P0_ k_)) hg aq40 (fun k_ e_=>(HO_0.out.1 k_ e_)));replace HO_0:=am (hp_);clear hg hw hp_))
   go_roundg k1
   case measure=>have:=HK1.out;omega
   case rel=>exact ⟨(y102),(wrap64 (x1_1 + 1)),(wrap64 (x5_1 + 1)),aq7,aq7,H',⟨aq70⟩,⟨aq56⟩,⟨aq40⟩,⟨aq2⟩⟩
end Go.Proofs.YtldhkbiomingbaaGreatDoor.F
