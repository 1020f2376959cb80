/- The proof that the law's row holds, part 2: the kit's words, the printed walks and the plain law. No conditions beyond the card's own. -/
import Derived.RangeFuncBox
import Derived.RangeFuncLeaves
import Derived.RangeFuncNested
import Derived.RangeFuncBound
import Derived.RangeFuncCalls
import Derived.Shelf.Abstract
import Derived.Shelf.RegionOpen
import Derived.WalkKit
import Derived.OwnWalkIn
import Derived.TacticsInMore
import Derived.LoopNIn
import Derived.LoopIn
import Derived.Maps.AppendAt
import Derived.Laws.BitsLemmas
import Derived.Deep.LoopGhost
import Derived.Test.YtipjmlcbbimfpaaGreatDoorM0
import Derived.Test.YtipjmlcbbimfpaaGreatDoorM1
namespace Go.Proofs.YtipjmlcbbimfpaaGreatDoor.F
open Go.Proofs.YtipjmlcbbimfpaaGreatDoor
open Go.RowKit Go.Proofs.YtipjmlcbbimfpaaGreatDoorW.PrintWords Go.Proofs.YtipjmlcbbimfpaaGreatDoorW.PrintLast Go.Proofs.YtipjmlcbbimfpaaGreatDoorW.PrintMore
attribute [local go_sem] max2_int min2_int max_two min_two max_three min_three max_four min_four   -- for this text's walks alone
set_option linter.unusedVariables false
set_option linter.unusedSimpArgs false
mutual
def spec_tyMirror.l0 : Nat → Int → Int → Int → List Int → Int → Int → List Int → Option (Int × Int × List Int)
 | 0, _, _, _, _, _, _, _ => none
 | k + 1, x4, x102000, x102001, x102002, x104000, x104001, x104002 => if x4 < x102001 then (spec_tyMirror.l1 k x4 (wrap64 (x102000 - 1)) x102000 x102001 x102002 x104000 x104001 x104002) else (some (x104000, x104001, x104002))
def spec_tyMirror.l1 : Nat → Int → Int → Int → Int → List Int → Int → Int → List Int → Option (Int × Int × List Int)
 | 0, _, _, _, _, _, _, _, _ => none
 | k + 1, x4, x5, x102000, x102001, x102002, x104000, x104001, x104002 => if x5 ≥ 0 then (if 0 ≤ (wrap64 ((wrap64 (x4 * x102000)) + x5)) then (if (wrap64 ((wrap64 (x4 * x102000)) + x5)) < (x102002.length : Int) then (if x104002.length < 140737488355328 then (spec_tyMirror.l1 k x4 (wrap64 (x5 - 1)) x102000 x102001 x102002 x104000 x104001 (x104002 ++ [rd x102002 (wrap64 ((wrap64 (x4 * x102000)) + x5))])) else (none)) else (none)) else (none)) else (spec_tyMirror.l0 k (wrap64 (x4 + 1)) x102000 x102001 x102002 x104000 x104001 x104002)
end
def spec_tyMirror.f (k : Nat) (a0_0 : Int) (a0_1 : Int) (l0_2 : List Int) : Option (Int × Int × List Int) := spec_tyMirror.l0 k 0 a0_0 a0_1 l0_2 a0_0 a0_1 ([] : List Int)
def spec_tyMirror.T8 : Bool × List (List Nat × List Nat) := (true, [([], []), ([0], [0]), ([], []), ([2], [2]), ([], []), ([], []), ([5], [5]), ([4, 6], [4, 6]), ([], []), ([7, 8], [7, 8]), ([3, 9], [3, 9]), ([10], [10]), ([11], [11]), ([1, 12], [1, 12]), ([0, 1, 2, 3, 4, 5, 6, 7, 8, 9, 10, 11, 12, 13], []), ([14, 13, 13, 0, 1, 2, 3, 4, 5, 6, 7, 8, 9, 10, 11, 12, 13], [13, 14])])
def spec_tyMirror.B8 : List Nat := [0, 1, 0, 4, 0, 0, 32, 112, 0, 496, 1020, 2044, 4092, 8191, 16383, 32767]
theorem spec_tyMirror.tab8 : rtab .any (opsOf Tryz.f81 8) = spec_tyMirror.T8 := by kernel_rfl
theorem spec_tyMirror.bits8 : waitsOk spec_tyMirror.T8.2 spec_tyMirror.B8 = true := by kernel_rfl
set_option maxHeartbeats 8000000 in
set_option maxRecDepth 100000 in
theorem spec_tyMirror.calls (k : Nat) (a0_0 : Int) (a0_1 : Int) (A0_2 : Option Addr) (c0_2 : Nat) (l0_2 : List Int) (r1 : Int) (r2 : Int) (r3 : List Int) (w : World) (hr0_2 : Kd.C (Kd.int .u8) w A0_2 l0_2.length l0_2) (hc0_2 : l0_2.length ≤ c0_2) (h : spec_tyMirror.f k a0_0 a0_1 l0_2 = some (r1, r2, r3)) :
  Calls Tryz.prog 81 #[.agg #[.int .i64 a0_0, .int .i64 a0_1, .slice A0_2 l0_2.length c0_2]] w fun e w' => ∃ v2_ : Value, e = .returned (.agg #[.int .i64 r1, .int .i64 r2, v2_]) ∧ Kd.R (Kd.int .u8) 5 w' w.heap.size (fun _ => True) v2_ r3 ∧ Below w.heap.size w w' := by
 have hu66 := Tryz.underlying66
 have HR0_2 := Aside0.mk hr0_2
 have HC0_2 := Aside0.mk hc0_2
 clear hr0_2 hc0_2
 have HB := Aside0.mk (Below.refl w.heap.size w)
 have H : (spec_tyMirror.l0 k 0 a0_0 a0_1 l0_2 a0_0 a0_1 ([] : List Int)) = some (r1, r2, r3) := h
 clear h
 have H' := Aside0.mk H
 clear H
 go_enter Tryz.func81, Tryz.ntmps81
 go_wp2_with (first | ((with_reducible refine gate_dst (N := 1) rfl ?_); refine box_event ?hg (N := 1) ?hd (cs := #[.int .i64 a0_0, .int .i64 a0_1, .slice A0_2 l0_2.length c0_2]) (t := 66) ?hr ?_; (case hd => rfl); (case hg => rfl); (case hr => exact aq23); intro gb101 hg w2 hbox hb; have n0_ := Aside0.mk (below_step aq0 hb); have n1_ := Aside0.mk (hbox); have n2_ := Aside0.mk ((by rw [hg]; exact (below_size aq0) : w.heap.size ≤ gb101)); have n3_ := Aside0.mk ((by rw [hg]; exact (below_size aq0) : w.heap.size ≤ gb101)); clear HB; have HB := n0_; have BK101 := n1_; have GW101 := n2_; have GE101 := n3_; clear n0_ n1_ n2_ n3_; clear hb hbox hg) | ((with_reducible refine gate_dst (N := 2) rfl ?_); refine box_event ?hg (N := 2) ?hd (cs := #[.int .i64 0, .int .i64 0, .slice none 0 0]) (t := 66) ?hr ?_; (case hd => rfl); (case hg => rfl); (case hr => exact aq23); intro gb102 hg w3 hbox hb; have n0_ := Aside0.mk (blk_below (g := gb101) (o := .cells #[.int .i64 a0_0, .int .i64 a0_1, .slice A0_2 l0_2.length c0_2] 66 (0, 0)) aq5 hb); have n1_ := Aside0.mk (below_step aq6 hb); have n2_ := Aside0.mk (hbox); have n3_ := Aside0.mk ((by rw [hg]; exact (below_size aq6) : w.heap.size ≤ gb102)); have n4_ := Aside0.mk ((by rw [hg]; exact (below_size aq6) : w.heap.size ≤ gb102)); have n5_ := Aside0.mk ((by rw [hg]; exact Nat.ne_of_lt (blk_lt (g := gb101) (o := .cells #[.int .i64 a0_0, .int .i64 a0_1, .slice A0_2 l0_2.length c0_2] 66 (0, 0)) aq5) : gb101 ≠ gb102)); have n6_ := Aside0.mk ((by rw [hg]; exact Nat.ne_of_gt (blk_lt (g := gb101) (o := .cells #[.int .i64 a0_0, .int .i64 a0_1, .slice A0_2 l0_2.length c0_2] 66 (0, 0)) aq5) : gb102 ≠ gb101)); clear BK101; clear HB; have BK101 := n0_; have HB := n1_; have BK102 := n2_; have GW102 := n3_; have GE102 := n4_; have NB101_102 := n5_; have NB102_101 := n6_; clear n0_ n1_ n2_ n3_ n4_ n5_ n6_; clear hb hbox hg; have hnb4 := NB101_102.out; have hnc4 := NB102_101.out; have hcz5_0 : w3.cell? ⟨gb101, 0, none⟩ = some (.int .i64 a0_0) := (blk_cell BK101.out 0).trans rfl; have hcz5_1 : w3.cell? ⟨gb101, 1, none⟩ = some (.int .i64 a0_1) := (blk_cell BK101.out 1).trans rfl; have hcz5_2 : w3.cell? ⟨gb101, 2, none⟩ = some (.slice A0_2 l0_2.length c0_2) := (blk_cell BK101.out 2).trans rfl; have hfz5_0 := blk_frozen BK101.out 0; have hfz5_1 := blk_frozen BK101.out 1; have hfz5_2 := blk_frozen BK101.out 2) | ((with_reducible refine gate_dst (N := 3) rfl ?_); refine box_event ?hg (N := 3) ?hd (cs := #[.int .i64 0, .int .i64 0, .slice none 0 0]) (t := 66) ?hr ?_; (case hd => rfl); (case hg => rfl); (case hr => exact aq23); intro gb103 hg w6 hbox hb; have n0_ := Aside0.mk (blk_below (g := gb101) (o := .cells #[.int .i64 a0_0, .int .i64 a0_1, .slice A0_2 l0_2.length c0_2] 66 (0, 0)) aq5 hb); have n1_ := Aside0.mk (blk_below (g := gb102) (o := .cells #[.int .i64 0, .int .i64 0, .slice none 0 0] 66 (0, 0)) aq14 hb); have n2_ := Aside0.mk (below_step aq7 hb); have n3_ := Aside0.mk (hbox); have n4_ := Aside0.mk ((by rw [hg]; exact (below_size aq7) : w.heap.size ≤ gb103)); have n5_ := Aside0.mk ((by rw [hg]; exact (below_size aq7) : w.heap.size ≤ gb103)); have n6_ := Aside0.mk ((by rw [hg]; exact Nat.ne_of_lt (blk_lt (g := gb101) (o := .cells #[.int .i64 a0_0, .int .i64 a0_1, .slice A0_2 l0_2.length c0_2] 66 (0, 0)) aq5) : gb101 ≠ gb103)); have n7_ := Aside0.mk ((by rw [hg]; exact Nat.ne_of_gt (blk_lt (g := gb101) (o := .cells #[.int .i64 a0_0, .int .i64 a0_1, .slice A0_2 l0_2.length c0_2] 66 (0, 0)) aq5) : gb103 ≠ gb101)); have n8_ := Aside0.mk ((by rw [hg]; exact Nat.ne_of_lt (blk_lt (g := gb102) (o := .cells #[.int .i64 0, .int .i64 0, .slice none 0 0] 66 (0, 0)) aq14) : gb102 ≠ gb103)); have n9_ := Aside0.mk ((by rw [hg]; exact Nat.ne_of_gt (blk_lt (g := gb102) (o := .cells #[.int .i64 0, .int .i64 0, .slice none 0 0] 66 (0, 0)) aq14) : gb103 ≠ gb102)); clear BK101; clear BK102; clear HB; have BK101 := n0_; have BK102 := n1_; have HB := n2_; have BK103 := n3_; have GW103 := n4_; have GE103 := n5_; have NB101_103 := n6_; have NB103_101 := n7_; have NB102_103 := n8_; have NB103_102 := n9_; clear n0_ n1_ n2_ n3_ n4_ n5_ n6_ n7_ n8_ n9_; clear hb hbox hg; have hnb7 := NB103_101.out; have hnc7 := NB101_103.out; have hnb8 := NB103_102.out; have hnc8 := NB102_103.out; have hcz9_0 : w6.cell? ⟨gb103, 0, none⟩ = some (.int .i64 0) := (blk_cell BK103.out 0).trans rfl; have hcz9_1 : w6.cell? ⟨gb103, 1, none⟩ = some (.int .i64 0) := (blk_cell BK103.out 1).trans rfl; have hcz9_2 : w6.cell? ⟨gb103, 2, none⟩ = some (.slice none 0 0) := (blk_cell BK103.out 2).trans rfl; have hfz9_0 := blk_frozen BK103.out 0; have hfz9_1 := blk_frozen BK103.out 1; have hfz9_2 := blk_frozen BK103.out 2))
 go_loopg [4] k (fun kq v4 w' => ∃ (x4_1 : Int) (x104002_1 : List Int) (u104002 : Value), v4 = .int .i64 x4_1 ∧ Aside0 (spec_tyMirror.l0 kq x4_1 a0_0 a0_1 l0_2 a0_0 a0_1 x104002_1 = some (r1, r2, r3)) ∧ Aside0 (kq ≤ k) ∧ Aside0 (Kd.R (Kd.int .u8) 5 w' w.heap.size (fun _ => True) u104002 x104002_1) ∧ Aside0 (w'.heap[gb101]? = some (.cells #[.int .i64 a0_0, .int .i64 a0_1, (.slice A0_2 l0_2.length c0_2)] 66 (0, 0))) ∧ Aside0 (w'.heap[gb102]? = some (.cells #[.int .i64 0, .int .i64 0, (.slice none 0 0)] 66 (0, 0))) ∧ Aside0 (w'.heap[gb103]? = some (.cells #[.int .i64 a0_0, .int .i64 a0_1, u104002] 66 (0, 0))) ∧ Aside0 (Below w.heap.size w w'))
 case atStart => exact ⟨(0), (([] : List Int)), (.slice none 0 0), aq11, H', ⟨Nat.le_refl _⟩, ⟨aq30⟩, ⟨aq57⟩, ⟨aq56⟩, ⟨by (with_reducible repeat (first | refine blk_drewN ?_ _ | refine blk_drew ?_ | refine blk_alloc ?_ _)); refine blk_put (cs := #[.int .i64 a0_0, .int .i64 a0_1, .slice none 0 0]) ?_ 2 _ rfl; (with_reducible repeat (first | refine blk_drewN ?_ _ | refine blk_drew ?_ | refine blk_alloc ?_ _)); refine blk_put (cs := #[.int .i64 a0_0, .int .i64 0, .slice none 0 0]) ?_ 1 _ rfl; (with_reducible repeat (first | refine blk_drewN ?_ _ | refine blk_drew ?_ | refine blk_alloc ?_ _)); refine blk_put (cs := #[.int .i64 0, .int .i64 0, .slice none 0 0]) ?_ 0 _ rfl; (with_reducible repeat (first | refine blk_drewN ?_ _ | refine blk_drew ?_ | refine blk_alloc ?_ _)); exact BK103.out⟩, ⟨aq19⟩⟩
 case round =>
  clear H'
  try clear p2
  try clear c4
  try clear c7
  try clear c8
  try clear hcz5_0
  try clear hcz5_1
  try clear hcz5_2
  try clear hcz9_0
  try clear hcz9_1
  try clear hcz9_2
  try clear hfz5_0
  try clear hfz5_1
  try clear hfz5_2
  try clear hfz9_0
  try clear hfz9_1
  try clear hfz9_2
  obtain ⟨x4_1, x104002_1, u104002, rfl, HA, HK1, HO_104002, BK101, BK102, BK103, HB⟩ := hrel
  cases gk with
  | zero => exact absurd HA.out (by simp [spec_tyMirror.l0])
  | succ k1 =>
   have H := HA.out
   clear HA
   simp only [spec_tyMirror.l0] at H
   by_cases c10 : x4_1 < a0_1
   ·rw [if_pos c10] at H
    have c10b0 : decide (x4_1 < a0_1) = true := decide_eq_true c10
    clear c10
    have H' := Aside0.mk H
    clear H
    have hnb11 := NB101_102.out
    have hnc11 := NB102_101.out
    have hnb12 := NB101_103.out
    have hnc12 := NB103_101.out
    have hcz13_0 : wr.cell? ⟨gb101, 0, none⟩ = some (.int .i64 a0_0) := (blk_cell BK101.out 0).trans rfl
    have hcz13_1 : wr.cell? ⟨gb101, 1, none⟩ = some (.int .i64 a0_1) := (blk_cell BK101.out 1).trans rfl
    have hcz13_2 : wr.cell? ⟨gb101, 2, none⟩ = some (.slice A0_2 l0_2.length c0_2) := (blk_cell BK101.out 2).trans rfl
    have hfz13_0 := blk_frozen BK101.out 0
    have hfz13_1 := blk_frozen BK101.out 1
    have hfz13_2 := blk_frozen BK101.out 2
    go_wp2
    go_loopg [5] k1 (fun kq v5 w' => ∃ (x5_2 : Int) (x104002_2 : List Int) (u104002 : Value), v5 = .int .i64 x5_2 ∧ Aside0 (spec_tyMirror.l1 kq x4_1 x5_2 a0_0 a0_1 l0_2 a0_0 a0_1 x104002_2 = some (r1, r2, r3)) ∧ Aside0 (kq ≤ k1) ∧ Aside0 (Kd.R (Kd.int .u8) 5 w' w.heap.size (fun _ => True) u104002 x104002_2) ∧ Aside0 (w'.heap[gb101]? = some (.cells #[.int .i64 a0_0, .int .i64 a0_1, (.slice A0_2 l0_2.length c0_2)] 66 (0, 0))) ∧ Aside0 (w'.heap[gb102]? = some (.cells #[.int .i64 0, .int .i64 0, (.slice none 0 0)] 66 (0, 0))) ∧ Aside0 (w'.heap[gb103]? = some (.cells #[.int .i64 a0_0, .int .i64 a0_1, u104002] 66 (0, 0))) ∧ Aside0 (Below w.heap.size w w'))
    case atStart => exact ⟨(wrap64 (a0_0 - 1)), (x104002_1), (u104002), aq11, H', ⟨Nat.le_refl _⟩, ⟨aq54⟩, ⟨aq5⟩, ⟨aq14⟩, ⟨aq52⟩, ⟨aq19⟩⟩
    case round =>
     clear H'
     try clear c1
     try clear p2
     try clear c4
     try clear p6
     try clear c7
     try clear c8
     try clear c10
     try clear c10b0
     try clear c11
     try clear c12
     try clear hcz13_0
     try clear hcz13_1
     try clear hcz13_2
     try clear hcz5_0
     try clear hcz5_1
     try clear hcz5_2
     try clear hcz9_0
     try clear hcz9_1
     try clear hcz9_2
     try clear hfz13_0
     try clear hfz13_1
     try clear hfz13_2
     try clear hfz5_0
     try clear hfz5_1
     try clear hfz5_2
     try clear hfz9_0
     try clear hfz9_1
     try clear hfz9_2
     try clear p2
     obtain ⟨x5_2, x104002_2, u104002, rfl, HA, HK2, HO_104002, BK101, BK102, BK103, HB⟩ := hrel
     cases gk with
     | zero => exact absurd HA.out (by simp [spec_tyMirror.l1])
     | succ k2 =>
      have H := HA.out
      clear HA
      simp only [spec_tyMirror.l1] at H
      by_cases c14 : x5_2 ≥ 0
      ·rw [if_pos c14] at H
       have c14b0 : decide (0 ≤ x5_2) = true := decide_eq_true c14
       clear c14
       obtain ⟨ji15, hji15⟩ : ∃ j_ : Int, (wrap64 ((wrap64 (x4_1 * a0_0)) + x5_2)) = j_ := ⟨_, rfl⟩
       replace H : (if 0 ≤ (ji15) then (if (ji15) < (l0_2.length : Int) then (if x104002_2.length < 140737488355328 then (spec_tyMirror.l1 k2 x4_1 (wrap64 (x5_2 - 1)) a0_0 a0_1 l0_2 a0_0 a0_1 (x104002_2 ++ [rd l0_2 (ji15)])) else (none)) else (none)) else (none)) = some (r1, r2, r3) := by first | (rw [hji15] at H; exact H) | (simp only [hji15] at H ⊢; exact H)
       have hji15w : (IntKind.i64.wrap ((wrap64 (x4_1 * a0_0)) + x5_2)) = ji15 := (i64_w _).trans hji15
       by_cases c16 : 0 ≤ (ji15)
       ·rw [if_pos c16] at H
        have c16b0 : decide (0 ≤ (ji15)) = true := decide_eq_true c16
        clear c16
        by_cases c17 : (ji15) < (l0_2.length : Int)
        ·rw [if_pos c17] at H
         have c17b0 : decide ((ji15) < (l0_2.length : Int)) = true := decide_eq_true c17
         clear c17
         by_cases c18 : x104002_2.length < 140737488355328
         ·rw [if_pos c18] at H
          have LMc18 := Aside0.mk c18
          clear c18
          obtain ⟨y105, hy105⟩ : ∃ y_ : List Int, y_ = (x104002_2 ++ [rd l0_2 (ji15)]) := ⟨_, rfl⟩
          replace H : (spec_tyMirror.l1 k2 x4_1 (wrap64 (x5_2 - 1)) a0_0 a0_1 l0_2 a0_0 a0_1 y105) = some (r1, r2, r3) := by first | (rw [hy105]; with_reducible exact H) | (have H2_ := (Option.bind_some _ _).symm.trans H; rw [hy105]; with_reducible exact H2_) | (have H2_ := (Option.bind_some _ _).symm.trans H; with_reducible exact H2_) | with_reducible exact H | (rw [hy105]; exact H) | exact H
          have Ny105 := Aside0.mk hy105
          clear hy105
          have H' := Aside0.mk H
          clear H
          try go_wp2
          have n0_ := Aside0.mk (Kd.R_drew HO_104002.out)
          have n1_ := Aside0.mk (blk_drew BK101.out)
          have n2_ := Aside0.mk (blk_drew BK102.out)
          have n3_ := Aside0.mk (blk_drew BK103.out)
          have n4_ := Aside0.mk (below_drew1 HB.out)
          clear HO_104002
          clear BK101
          clear BK102
          clear BK103
          clear HB
          have HO_104002 := n0_
          have BK101 := n1_
          have BK102 := n2_
          have BK103 := n3_
          have HB := n4_
          clear n0_ n1_ n2_ n3_ n4_
          have p104 : 0 ≤ ((ji15) : Int) := of_decide_eq_true aq9
          have q104 : (ji15) < (l0_2.length : Int) := of_decide_eq_true aq9
          obtain ⟨ad104, e104, hx104_0⟩ := Kd.at_int HR0_2.out (ji15) p104 q104
          have hw104_0 := hx104_0
          cases e104
          try replace hx104_0 := (HB.out.cell (World.block_lt_of_cell? w _ hx104_0)).trans hx104_0
          replace p104 := eq_true p104
          replace q104 := eq_true q104
          refine start_ (n := 16) (S := fun w' => w'.cell? ⟨gb103, 0, none⟩ = some (.int .i64 a0_0) ∧ w'.cell? ⟨gb103, 1, none⟩ = some (.int .i64 a0_1) ∧ w'.cell? ⟨gb103, 2, none⟩ = some (u104002) ∧ w'.cell? ⟨gb101, 0, none⟩ = some (.int .i64 a0_0) ∧ w'.cell? ⟨gb101, 1, none⟩ = some (.int .i64 a0_1) ∧ w'.cell? ⟨gb101, 2, none⟩ = some (.slice (some ad104) l0_2.length c0_2) ∧ w'.cell? (ad104.add ((ji15)).toNat) = some (.int .u8 (rd l0_2 (ji15)))) (ds := [15]) #[false, false, false, false, false, false, false, false, false, false, false, false, false, false, false, false] (by kernel_rfl) rfl rfl ⟨(blk_cell BK103.out 0).trans rfl, (blk_cell BK103.out 1).trans rfl, (blk_cell BK103.out 2).trans rfl, (blk_cell BK101.out 0).trans rfl, (blk_cell BK101.out 1).trans rfl, (blk_cell BK101.out 2).trans rfl, ((HB.out.cell (World.block_lt_of_cell? w _ hw104_0)).trans hw104_0)⟩ (fun hHeld => ?_); refine with_tabW spec_tyMirror.tab8 spec_tyMirror.bits8 (fun HT_ HW_ => ?_)
          generalize wr.drew = w19 at HO_104002 BK101 BK102 BK103 HB hx104_0 hHeld ⊢
          refine pure_ (i := 0) (N := some 24) (v := ?_) (a' := ?_) #[true, false, false, false, false, false, false, false, false, false, false, false, false, false, false, false] rfl rfl (any_of HT_.out (by kernel_rfl)) (fun _ _ _ h => h) (Or.inl ⟨by rfl, ?_⟩) ?_ ?_
          rotate_left
          ·intro w'
           go_simp
           with_reducible rfl
          rotate_left
          ·simp only [Act.put, List.setIfInBounds_toArray, List.set_cons_zero, List.set_cons_succ, i64_w, i32_w]
           rfl
          refine pure_ (i := 2) (N := some 26) (v := ?_) (a' := ?_) #[true, false, true, false, false, false, false, false, false, false, false, false, false, false, false, false] rfl rfl (any_of HT_.out (by kernel_rfl)) (fun _ _ _ h => h) (Or.inl ⟨by rfl, ?_⟩) ?_ ?_
          rotate_left
          ·intro w'
           go_simp
           with_reducible rfl
          rotate_left
          ·simp only [Act.put, List.setIfInBounds_toArray, List.set_cons_zero, List.set_cons_succ, i64_w, i32_w]
           rfl
          refine pure_ (i := 4) (N := some 28) (v := ?_) (a' := ?_) #[true, false, true, false, true, false, false, false, false, false, false, false, false, false, false, false] rfl rfl (any_of HT_.out (by kernel_rfl)) (fun _ _ _ h => h) (Or.inl ⟨by rfl, ?_⟩) ?_ ?_
          rotate_left
          ·intro w'
           go_simp
           with_reducible rfl
          rotate_left
          ·simp only [Act.put, List.setIfInBounds_toArray, List.set_cons_zero, List.set_cons_succ, i64_w, i32_w]
           rfl
          refine pure_ (i := 5) (N := some 29) (v := ?_) (a' := ?_) #[true, false, true, false, true, true, false, false, false, false, false, false, false, false, false, false] rfl rfl (any_of HT_.out (by kernel_rfl)) (fun _ _ _ h => h) (Or.inl ⟨by rfl, ?_⟩) ?_ ?_
          rotate_left
          ·intro w'
           go_simp
           with_reducible rfl
          rotate_left
          ·simp only [Act.put, List.setIfInBounds_toArray, List.set_cons_zero, List.set_cons_succ, i64_w, i32_w]
           rfl
          refine pure_ (i := 8) (N := some 32) (v := ?_) (a' := ?_) #[true, false, true, false, true, true, false, false, true, false, false, false, false, false, false, false] rfl rfl (any_of HT_.out (by kernel_rfl)) (fun _ _ _ h => h) (Or.inl ⟨by rfl, ?_⟩) ?_ ?_
          rotate_left
          ·intro w'
           go_simp
           with_reducible rfl
          rotate_left
          ·simp only [Act.put, List.setIfInBounds_toArray, List.set_cons_zero, List.set_cons_succ, i64_w, i32_w]
           rfl
          refine take_ (i := 1) (N := some 25) (v := ?_) (a' := ?_) #[true, true, true, false, true, true, false, false, true, false, false, false, false, false, false, false] rfl rfl (take_ofW HT_.out HW_.out (by kernel_rfl)) (fun _ _ _ h => h) (Or.inl ⟨by rfl, ?_⟩) hHeld ?_ ?_
          rotate_left
          ·rintro w' ⟨s0, s1, s2, s3, s4, s5, s6⟩
           go_simp
           with_reducible rfl
          rotate_left
          ·simp only [Act.put, List.setIfInBounds_toArray, List.set_cons_zero, List.set_cons_succ, i64_w, i32_w]
           rfl
          refine take_ (i := 3) (N := some 27) (v := ?_) (a' := ?_) #[true, true, true, true, true, true, false, false, true, false, false, false, false, false, false, false] rfl rfl (take_ofW HT_.out HW_.out (by kernel_rfl)) (fun _ _ _ h => h) (Or.inl ⟨by rfl, ?_⟩) hHeld ?_ ?_
          rotate_left
          ·rintro w' ⟨s0, s1, s2, s3, s4, s5, s6⟩
           go_simp
           with_reducible rfl
          rotate_left
          ·simp only [Act.put, List.setIfInBounds_toArray, List.set_cons_zero, List.set_cons_succ, i64_w, i32_w]
           rfl
          refine take_ (i := 6) (N := some 30) (v := ?_) (a' := ?_) #[true, true, true, true, true, true, true, false, true, false, false, false, false, false, false, false] rfl rfl (take_ofW HT_.out HW_.out (by kernel_rfl)) (fun _ _ _ h => h) (Or.inl ⟨by rfl, ?_⟩) hHeld ?_ ?_
          rotate_left
          ·rintro w' ⟨s0, s1, s2, s3, s4, s5, s6⟩
           go_simp
           with_reducible rfl
          rotate_left
          ·simp only [Act.put, List.setIfInBounds_toArray, List.set_cons_zero, List.set_cons_succ, i64_w, i32_w]
           rfl
          refine pure_ (i := 7) (N := some 31) (v := ?_) (a' := ?_) #[true, true, true, true, true, true, true, true, true, false, false, false, false, false, false, false] rfl rfl (any_of HT_.out (by kernel_rfl)) (fun _ _ _ h => h) (Or.inl ⟨by rfl, ?_⟩) ?_ ?_
          rotate_left
          ·intro w'
           go_simp
           with_reducible rfl
          rotate_left
          ·simp only [Act.put, List.setIfInBounds_toArray, List.set_cons_zero, List.set_cons_succ, i64_w, i32_w]
           rfl
          refine pure_ (i := 9) (N := some 33) (v := ?_) (a' := ?_) #[true, true, true, true, true, true, true, true, true, true, false, false, false, false, false, false] rfl rfl (any_of HT_.out (by kernel_rfl)) (fun _ _ _ h => h) (Or.inl ⟨by rfl, ?_⟩) ?_ ?_
          rotate_left
          ·intro w'
           go_simp
           with_reducible rfl
          rotate_left
          ·simp only [Act.put, List.setIfInBounds_toArray, List.set_cons_zero, List.set_cons_succ, i64_w, i32_w]
           rfl
          refine pure_ (i := 10) (N := some 34) (v := ?_) (a' := ?_) #[true, true, true, true, true, true, true, true, true, true, true, false, false, false, false, false] rfl rfl (any_of HT_.out (by kernel_rfl)) (fun _ _ _ h => h) (Or.inl ⟨by rfl, ?_⟩) ?_ ?_
          rotate_left
          ·intro w'
           go_simp
           with_reducible rfl
          rotate_left
          ·simp only [Act.put, List.setIfInBounds_toArray, List.set_cons_zero, List.set_cons_succ, i64_w, i32_w]
           rfl
          refine take_ (i := 11) (N := some 35) (v := ?_) (a' := ?_) #[true, true, true, true, true, true, true, true, true, true, true, true, false, false, false, false] rfl rfl (take_ofW HT_.out HW_.out (by kernel_rfl)) (fun _ _ _ h => h) (Or.inl ⟨by rfl, ?_⟩) hHeld ?_ ?_
          rotate_left
          ·rintro w' ⟨s0, s1, s2, s3, s4, s5, s6⟩
           go_simp
           with_reducible rfl
          rotate_left
          ·simp only [Act.put, List.setIfInBounds_toArray, List.set_cons_zero, List.set_cons_succ, i64_w, i32_w]
           rfl
          refine one_ (i := 12) (N := some 36) #[true, true, true, true, true, true, true, true, true, true, true, true, true, false, false, false] rfl rfl (one_of HT_.out (by kernel_rfl)) (by decide) (fun K hK => ?_)
          refine value_ (w1 := ?_) (v := ?_) (by rfl) rfl ?_ ?_
          rotate_left 2
          ·go_simp
           constructor
           ·rfl
           ·rfl
          refine hK.out _ _ ⟨(blk_cell (blk_alloc BK103.out _) 0).trans rfl, (blk_cell (blk_alloc BK103.out _) 1).trans rfl, (blk_cell (blk_alloc BK103.out _) 2).trans rfl, (blk_cell (blk_alloc BK101.out _) 0).trans rfl, (blk_cell (blk_alloc BK101.out _) 1).trans rfl, (blk_cell (blk_alloc BK101.out _) 2).trans rfl, (World.cell?_alloc_lt _ _ _ (World.block_lt_of_cell? _ _ (((HB.out.cell (World.block_lt_of_cell? w _ hw104_0)).trans hw104_0)))).trans (((HB.out.cell (World.block_lt_of_cell? w _ hw104_0)).trans hw104_0))⟩ (fun hHeld => ?_)
          clear hK K
          refine norm_ (a' := ?_) ?_ ?_
          rotate_left
          ·show Act.put _ (some 36) _ = _
           simp only [Act.put, List.setIfInBounds_toArray, List.set_cons_zero, List.set_cons_succ, i64_w, i32_w]
           rfl
          refine one_ (i := 13) (N := some 37) #[true, true, true, true, true, true, true, true, true, true, true, true, true, true, false, false] rfl rfl (one_of HT_.out (by kernel_rfl)) (by decide) (fun K hK => ?_)
          refine Kd.R_append_step (Kd.int .u8) (w0 := w) w.heap.size (by rfl) (.tmp 25) (.tmp 36) 22 5 (.int .u8 0) 1 rfl Tryz.underlying22 info5 rfl (by decide) (by omega) u104002 x104002_2 (rd l0_2 (ji15)) [.int .u8 (rd l0_2 (ji15))] (fun _ => True) (fun _ => False) rfl rfl ?aP (fun _ hk => hk.elim) ?aF ?aO ?aB ?aS ?aL ?_
          (case aP => exact rfl)
          (case aB => exact aq19)
          (case aF => exact (fun _ _ => trivial))
          (case aO => exact aq54)
          (case aS => exact (below_size aq19))
          (case aL => have := LMc18.out; omega)
          intro v106 w20 ho hb hg hat
          rw [← Ny105.out] at ho
          have n0_ := Aside0.mk (blk_grown (g := gb101) (o := .cells #[.int .i64 a0_0, .int .i64 a0_1, .slice (some ad104) l0_2.length c0_2] 66 (0, 0)) aq5 hg (Kd.R_ne HO_104002.out BK101.out (by decide)))
          have n1_ := Aside0.mk (blk_grown (g := gb102) (o := .cells #[.int .i64 0, .int .i64 0, .slice none 0 0] 66 (0, 0)) aq14 hg (Kd.R_ne HO_104002.out BK102.out (by decide)))
          have n2_ := Aside0.mk (blk_grown (g := gb103) (o := .cells #[.int .i64 a0_0, .int .i64 a0_1, u104002] 66 (0, 0)) aq52 hg (Kd.R_ne HO_104002.out BK103.out (by decide)))
          have n3_ := Aside0.mk (hb)
          have n4_ := Aside0.mk (ho)
          clear BK101
          clear BK102
          clear BK103
          clear HB
          clear HO_104002
          have BK101 := n0_
          have BK102 := n1_
          have BK103 := n2_
          have HB := n3_
          have HO107 := n4_
          clear n0_ n1_ n2_ n3_ n4_
          clear ho hb hg hat
          obtain ⟨Ao21, co21, eo21⟩ := Kd.R_slice HO107.out
          (first | subst eo21 | (injection eo21 with f1_ f2_ f3_; have f4_ := f1_.symm; have f5_ := f3_.symm; clear f1_ f2_ f3_; subst f4_; subst f5_))
          refine hK.out _ _ ⟨(blk_cell BK103.out 0).trans rfl, (blk_cell BK103.out 1).trans rfl, (blk_cell BK103.out 2).trans rfl, (blk_cell BK101.out 0).trans rfl, (blk_cell BK101.out 1).trans rfl, (blk_cell BK101.out 2).trans rfl, ((HB.out.cell (World.block_lt_of_cell? w _ hw104_0)).trans hw104_0)⟩ (fun hHeld => ?_)
          clear hK K
          refine norm_ (a' := ?_) ?_ ?_
          rotate_left
          ·show Act.put _ (some 37) _ = _
           simp only [Act.put, List.setIfInBounds_toArray, List.set_cons_zero, List.set_cons_succ, i64_w, i32_w]
           rfl
          refine pure_ (i := 14) (N := some 38) (v := ?_) (a' := ?_) #[true, true, true, true, true, true, true, true, true, true, true, true, true, true, true, false] rfl rfl (any_of HT_.out (by kernel_rfl)) (fun _ _ _ h => h) (Or.inl ⟨by rfl, ?_⟩) ?_ ?_
          rotate_left
          ·intro w'
           go_simp
           with_reducible rfl
          rotate_left
          ·simp only [Act.put, List.setIfInBounds_toArray, List.set_cons_zero, List.set_cons_succ, i64_w, i32_w]
           rfl
          refine last_ (i := 15) (N := none) #[true, true, true, true, true, true, true, true, true, true, true, true, true, true, true, true] rfl rfl (one_of HT_.out (by kernel_rfl)) (by decide) (fun K hK => ?_)
          have hs22 : w20.cell? ⟨gb103, 2, none⟩ = some (u104002) := (blk_cell BK103.out 2).trans rfl
          have hfs22 := blk_frozen BK103.out 2
          have hns22_0 := NB101_103.out
          have hns22_1 := NB102_103.out
          have hms22_0 := NB103_101.out
          have hms22_1 := NB103_102.out
          refine skip_ (w1 := ?_) (by rfl) rfl ?_ ?_
          rotate_left
          ·go_simp
           rfl
          refine hK.out _ _ ?_
          clear hK K
          refine done_ (done_of HT_.out (by kernel_rfl)) ?_
          try go_wp2
          go_roundg k2
          case measure => have := HK1.out; have := HK2.out; omega
          case rel => exact ⟨(wrap64 (x5_2 - 1)), (y105), (.slice Ao21 y105.length co21), aq11, H', ⟨aq82⟩, ⟨aq86⟩, ⟨aq85⟩, ⟨aq84⟩, ⟨by (with_reducible repeat (first | refine blk_drewN ?_ _ | refine blk_drew ?_ | refine blk_alloc ?_ _)); refine blk_put (cs := #[.int .i64 a0_0, .int .i64 a0_1, u104002]) ?_ 2 _ rfl; (with_reducible repeat (first | refine blk_drewN ?_ _ | refine blk_drew ?_ | refine blk_alloc ?_ _)); exact BK103.out⟩, ⟨aq19⟩⟩
         ·rw [if_neg c18] at H
          exact absurd H (by simp)
        ·rw [if_neg c17] at H
         exact absurd H (by simp)
       ·rw [if_neg c16] at H
        exact absurd H (by simp)
      ·rw [if_neg c14] at H
       have c14b0 : decide (0 ≤ x5_2) = false := decide_eq_false c14
       clear c14
       have H' := Aside0.mk H
       clear H
       go_wp2
       go_roundg k2
       case measure => have := HK1.out; have := HK2.out; omega
       case rel => exact ⟨(wrap64 (x4_1 + 1)), (x104002_2), (u104002), aq11, H', ⟨aq82⟩, ⟨aq54⟩, ⟨aq5⟩, ⟨aq14⟩, ⟨aq52⟩, ⟨aq19⟩⟩
   ·rw [if_neg c10] at H
    have c10b0 : decide (x4_1 < a0_1) = false := decide_eq_false c10
    clear c10
    simp only [Option.some.injEq, Prod.mk.injEq] at H
    obtain ⟨rfl, rfl, rfl⟩ := H
    have hnb23 := NB101_102.out
    have hnc23 := NB102_101.out
    have hnb24 := NB101_103.out
    have hnc24 := NB103_101.out
    have hcz25_0 : wr.cell? ⟨gb101, 0, none⟩ = some (.int .i64 a0_0) := (blk_cell BK101.out 0).trans rfl
    have hcz25_1 : wr.cell? ⟨gb101, 1, none⟩ = some (.int .i64 a0_1) := (blk_cell BK101.out 1).trans rfl
    have hcz25_2 : wr.cell? ⟨gb101, 2, none⟩ = some (.slice A0_2 l0_2.length c0_2) := (blk_cell BK101.out 2).trans rfl
    have hfz25_0 := blk_frozen BK101.out 0
    have hfz25_1 := blk_frozen BK101.out 1
    have hfz25_2 := blk_frozen BK101.out 2
    have hnb26 := NB103_102.out
    have hnc26 := NB102_103.out
    have hcz27_0 : wr.cell? ⟨gb103, 0, none⟩ = some (.int .i64 a0_0) := (blk_cell BK103.out 0).trans rfl
    have hcz27_1 : wr.cell? ⟨gb103, 1, none⟩ = some (.int .i64 a0_1) := (blk_cell BK103.out 1).trans rfl
    have hcz27_2 : wr.cell? ⟨gb103, 2, none⟩ = some (u104002) := (blk_cell BK103.out 2).trans rfl
    have hfz27_0 := blk_frozen BK103.out 0
    have hfz27_1 := blk_frozen BK103.out 1
    have hfz27_2 := blk_frozen BK103.out 2
    have hcz28_0 : wr.cell? ⟨gb102, 0, none⟩ = some (.int .i64 0) := (blk_cell BK102.out 0).trans rfl
    have hcz28_1 : wr.cell? ⟨gb102, 1, none⟩ = some (.int .i64 0) := (blk_cell BK102.out 1).trans rfl
    have hcz28_2 : wr.cell? ⟨gb102, 2, none⟩ = some (.slice none 0 0) := (blk_cell BK102.out 2).trans rfl
    have hfz28_0 := blk_frozen BK102.out 0
    have hfz28_1 := blk_frozen BK102.out 1
    have hfz28_2 := blk_frozen BK102.out 2
    obtain ⟨Ao29, co29, eo29⟩ := Kd.R_slice HO_104002.out
    subst eo29
    go_wp2
    refine bodyPost_ret (results_cell_row rfl _ _ gb102 66 #[.int .i64 a0_0, .int .i64 a0_1, .slice Ao29 x104002_1.length co29] (0, 0) _ rfl aq45 Tryz.underlying66 rfl (by kernel_rfl)) rfl ?_
    exact ⟨_, aq8, by (with_reducible repeat (first | apply Kd.R_alloc | apply Kd.R_drewN | apply Kd.R_drew)); exact Kd.R_mono (Kd.R_far (p := ⟨gb102, 2, none⟩) (Kd.R_far (p := ⟨gb102, 1, none⟩) (Kd.R_far (p := ⟨gb102, 0, none⟩) (Kd.R_types HO_104002.out BK102.out (by decide)) (fun _ hk => hk.2) (.int .i64 a0_0)) (fun _ hk => hk.2) (.int .i64 a0_1)) (fun _ hk => hk.2) (.slice Ao29 x104002_1.length co29)) (fun _ hk => trivial), aq19⟩
end Go.Proofs.YtipjmlcbbimfpaaGreatDoor.F

namespace Go.Proofs.YtipjmlcbbimfpaaGreatDoor.F
open Go.Proofs.YtipjmlcbbimfpaaGreatDoor
open Go.RowKit Go.Proofs.YtipjmlcbbimfpaaGreatDoorW.PrintWords Go.Proofs.YtipjmlcbbimfpaaGreatDoorW.PrintLast Go.Proofs.YtipjmlcbbimfpaaGreatDoorW.PrintMore
attribute [local go_sem] max2_int min2_int max_two min_two max_three min_three max_four min_four   -- for this text's walks alone
set_option linter.unusedVariables false
set_option linter.unusedSimpArgs false
def spec_tyEight.l0 : Nat → List (S66) → Int → Int → Int → List Int → Option ((List (S66)))
 | 0, _, _, _, _, _ => none
 | k + 1, x3, x4, x102000, x102001, x102002 => if x4 < 8 then (if x3.length < 3518437208883 then ((some (x3 ++ [(⟨x102000, x102001, x102002⟩ : S66)] : List (S66))).bind fun y102 => ((spec_tyTurn.f k x102000 x102001 x102002).bind fun bt105 => (if x4 = 3 then ((spec_tyMirror.f k bt105.1 bt105.2.1 bt105.2.2).bind fun bt110 => (spec_tyEight.l0 k y102 (wrap64 (x4 + 1)) bt110.1 bt110.2.1 bt110.2.2)) else (spec_tyEight.l0 k y102 (wrap64 (x4 + 1)) bt105.1 bt105.2.1 bt105.2.2)))) else (none)) else (some x3)
def spec_tyEight.f (k : Nat) (a0_0 : Int) (a0_1 : Int) (l0_2 : List Int) : Option ((List (S66))) := spec_tyEight.l0 k ([] : List (S66)) 0 a0_0 a0_1 l0_2
set_option maxHeartbeats 8000000 in
set_option maxRecDepth 100000 in
theorem spec_tyEight.calls (k : Nat) (a0_0 : Int) (a0_1 : Int) (P0_2_ : Nat → Prop) (A0_2 : Option Addr) (c0_2 : Nat) (l0_2 : List Int) (r : List (S66)) (w : World) (hs0_2 : Kd.V (Kd.int .u8) 5 w w.heap.size (fun k_ => P0_2_ k_) (.slice A0_2 l0_2.length c0_2) l0_2) (h : spec_tyEight.f k a0_0 a0_1 l0_2 = some r) :
  Calls Tryz.prog 75 #[.agg #[.int .i64 a0_0, .int .i64 a0_1, .slice A0_2 l0_2.length c0_2]] w fun e w' => ∃ v0_ : Value, e = .returned (v0_) ∧ Kd.N k66 66 w' w.heap.size (fun k_ => (P0_2_ k_ ∨ w.heap.size ≤ k_)) v0_ r ∧ Below w.heap.size w w' := by
 have hu66 := Tryz.underlying66
 have HO0_2 := Aside0.mk (show Kd.V (Kd.int .u8) 5 w w.heap.size (fun k_ => (P0_2_ k_ ∨ w.heap.size ≤ k_)) (.slice A0_2 l0_2.length c0_2) l0_2 from Kd.V_mono hs0_2 (fun k_ hk => .inl hk))
 have HB := Aside0.mk (Below.refl w.heap.size w)
 have H : (spec_tyEight.l0 k ([] : List (S66)) 0 a0_0 a0_1 l0_2) = some r := h
 clear h
 have H' := Aside0.mk H
 clear H
 go_enter Tryz.func75, Tryz.ntmps75
 go_wp2_with (first | ((with_reducible refine gate_dst (N := 1) rfl ?_); refine box_event ?hg (N := 1) ?hd (cs := #[.int .i64 a0_0, .int .i64 a0_1, .slice A0_2 l0_2.length c0_2]) (t := 66) ?hr ?_; (case hd => rfl); (case hg => rfl); (case hr => exact aq23); intro gb101 hg w2 hbox hb; have n0_ := Aside0.mk (Kd.V_below (Kd.V_elderB (by (with_reducible repeat (first | apply Kd.V_alloc | apply Kd.V_drewN | apply Kd.V_drew)); exact HO0_2.out) gb101 (Nat.le_of_eq hg.symm)) hb); have n1_ := Aside0.mk (below_step aq0 hb); have n2_ := Aside0.mk (hbox); have n3_ := Aside0.mk ((by rw [hg]; exact (below_size aq0) : w.heap.size ≤ gb101)); have n4_ := Aside0.mk ((by rw [hg]; exact (below_size aq0) : w.heap.size ≤ gb101)); clear HO0_2; clear HB; have HO0_2 := n0_; have HB := n1_; have BK101 := n2_; have GW101 := n3_; have GE101 := n4_; clear n0_ n1_ n2_ n3_ n4_; clear hb hbox hg))
 go_loopg [3, 4] k (fun kq v3 v4 w' => ∃ (x3_1 : List (S66)) (x4_1 : Int) (x102000_1 : Int) (x102001_1 : Int) (x102002_1 : List Int) (u102002 : Value), v4 = .int .i64 x4_1 ∧ Aside0 (spec_tyEight.l0 kq x3_1 x4_1 x102000_1 x102001_1 x102002_1 = some r) ∧ Aside0 (kq ≤ k) ∧ Aside0 (Kd.N k66 66 w' w.heap.size (fun k_ => (P0_2_ k_ ∨ w.heap.size ≤ k_) ∧ k_ ≠ gb101) v3 x3_1) ∧ Aside0 (Kd.V (Kd.int .u8) 5 w' w.heap.size (fun k_ => (P0_2_ k_ ∨ w.heap.size ≤ k_) ∧ some k_ ≠ (v3 : Value).ownBlock ∧ k_ ≠ gb101) u102002 x102002_1) ∧ Aside0 (w'.heap[gb101]? = some (.cells #[.int .i64 x102000_1, .int .i64 x102001_1, u102002] 66 (0, 0))) ∧ Aside0 (Below w.heap.size w w'))
 case atStart => exact ⟨(([] : List (S66))), (0), (a0_0), (a0_1), (l0_2), (.slice A0_2 l0_2.length c0_2), aq11, H', ⟨Nat.le_refl _⟩, ⟨by first | exact Kd.S_nil _ _ _ _ _ | exact Kd.N_nil _ _ _ _ _ | exact Kd.V_nil _ _ _ _ _ | exact Kd.Q_nil _ _ _ _ _ | exact Kd.R_nil _ _ _ _ _⟩, ⟨by (with_reducible repeat (first | apply Kd.V_alloc | apply Kd.V_drewN | apply Kd.V_drew)); exact Kd.V_mono HO0_2.out (fun _ hk => ⟨hk.1, ⟨(by simp [Value.ownBlock]), hk.2⟩⟩)⟩, ⟨aq5⟩, ⟨aq6⟩⟩
 case round =>
  clear H'
  try clear p2
  obtain ⟨x3_1, x4_1, x102000_1, x102001_1, x102002_1, u102002, rfl, HA, HK1, HO_3, HO_102002, BK101, HB⟩ := hrel
  cases gk with
  | zero => exact absurd HA.out (by simp [spec_tyEight.l0])
  | succ k1 =>
   have H := HA.out
   clear HA
   simp only [spec_tyEight.l0] at H
   by_cases c3 : x4_1 < 8
   ·rw [if_pos c3] at H
    have c3b0 : decide (x4_1 < 8) = true := decide_eq_true c3
    clear c3
    by_cases c4 : x3_1.length < 3518437208883
    ·rw [if_pos c4] at H
     have LMc4 := Aside0.mk c4
     clear c4
     obtain ⟨y102, hy102⟩ : ∃ y_ : List (S66), y_ = (x3_1 ++ [(⟨x102000_1, x102001_1, x102002_1⟩ : S66)]) := ⟨_, rfl⟩
     replace H : ((spec_tyTurn.f k1 x102000_1 x102001_1 x102002_1).bind fun bt105 => (if x4_1 = 3 then ((spec_tyMirror.f k1 bt105.1 bt105.2.1 bt105.2.2).bind fun bt110 => (spec_tyEight.l0 k1 y102 (wrap64 (x4_1 + 1)) bt110.1 bt110.2.1 bt110.2.2)) else (spec_tyEight.l0 k1 y102 (wrap64 (x4_1 + 1)) bt105.1 bt105.2.1 bt105.2.2))) = some r := by first | (rw [hy102]; with_reducible exact H) | (have H2_ := (Option.bind_some _ _).symm.trans H; rw [hy102]; with_reducible exact H2_) | (have H2_ := (Option.bind_some _ _).symm.trans H; with_reducible exact H2_) | with_reducible exact H | (rw [hy102]; exact H) | exact H
     have Ny102 := Aside0.mk hy102
     clear hy102
     replace H := Option.bind_eq_some_iff.mp H
     obtain ⟨⟨t105, t106, t107⟩, A50, H⟩ := H
     replace H : (if x4_1 = 3 then ((spec_tyMirror.f k1 t105 t106 t107).bind fun bt110 => (spec_tyEight.l0 k1 y102 (wrap64 (x4_1 + 1)) bt110.1 bt110.2.1 bt110.2.2)) else (spec_tyEight.l0 k1 y102 (wrap64 (x4_1 + 1)) t105 t106 t107)) = some r := H
     have A5 := Aside0.mk A50
     clear A50
     by_cases c6 : x4_1 = 3
     ·rw [if_pos c6] at H
      have c6b0 : (x4_1 == 3) = true := beq_iff_eq.mpr c6
      have c6b1 : (x4_1 != 3) = false := bne_eq_false_iff_eq.mpr c6
      clear c6
      replace H := Option.bind_eq_some_iff.mp H
      obtain ⟨⟨t110, t111, t112⟩, A70, H⟩ := H
      replace H : (spec_tyEight.l0 k1 y102 (wrap64 (x4_1 + 1)) t110 t111 t112) = some r := H
      have A7 := Aside0.mk A70
      clear A70
      have H' := Aside0.mk H
      clear H
      have hcz8_0 : wr.cell? ⟨gb101, 0, none⟩ = some (.int .i64 x102000_1) := (blk_cell BK101.out 0).trans rfl
      have hcz8_1 : wr.cell? ⟨gb101, 1, none⟩ = some (.int .i64 x102001_1) := (blk_cell BK101.out 1).trans rfl
      have hcz8_2 : wr.cell? ⟨gb101, 2, none⟩ = some (u102002) := (blk_cell BK101.out 2).trans rfl
      have hfz8_0 := blk_frozen BK101.out 0
      have hfz8_1 := blk_frozen BK101.out 1
      have hfz8_2 := blk_frozen BK101.out 2
      obtain ⟨Ao10, co10, eo10⟩ := Kd.V_slice HO_102002.out
      subst eo10
      go_wp2_with (first | ((with_reducible refine gate_builtin (b := .append) (xs := #[.tmp 9, .tmp 11]) rfl ?_); at_builtin; refine Kd.N_append k66 (w0 := w) w.heap.size rfl (.tmp 9) (.tmp 11) 71 66 (.agg #[(.int .i64 0), (.int .i64 0), (.slice none 0 0)]) 40 rfl Tryz.underlying71 info66 rfl (by decide) (by omega) u3 x3_1 (⟨x102000_1, x102001_1, x102002_1⟩ : S66) [.int .i64 x102000_1, .int .i64 x102001_1, .slice Ao10 x102002_1.length co10] (fun k_ => (P0_2_ k_ ∨ w.heap.size ≤ k_) ∧ k_ ≠ gb101) (fun k_ => ((fun k_ => (P0_2_ k_ ∨ w.heap.size ≤ k_) ∧ k_ ≠ gb101)) k_ ∧ some k_ ≠ (u3 : Value).ownBlock) rfl rfl ?aP (fun _ hk => hk) ?aF ?aO ?aB ?aS ?aL ?_; (case aP => exact aq66); (case aB => exact aq6); (case aF => exact (fun k_ hk => ⟨(.inr (Nat.le_trans (below_size aq6) hk)), Kd.freshB (g := gb101) (o := .cells #[.int .i64 x102000_1, .int .i64 x102001_1, .slice Ao10 x102002_1.length co10] 66 (0, 0)) aq5 k_ hk⟩)); (case aO => exact (by (with_reducible repeat (first | apply Kd.N_alloc | apply Kd.N_drewN | apply Kd.N_drew)); exact HO_3.out)); (case aS => exact (below_size aq6)); (case aL => have := LMc4.out; omega); intro v103 w9 ho hb hg hat; rw [← Ny102.out] at ho; have n0_ := Aside0.mk (Kd.V_afterv (ok := (fun k_ => (P0_2_ k_ ∨ w.heap.size ≤ k_) ∧ k_ ≠ gb101)) aq99 hg hat); have n1_ := Aside0.mk (blk_grown (g := gb101) (o := .cells #[.int .i64 x102000_1, .int .i64 x102001_1, .slice Ao10 x102002_1.length co10] 66 (0, 0)) aq5 hg (Kd.N_away HO_3.out (fun _ hk => hk.2))); have n2_ := Aside0.mk (hb); have n3_ := Aside0.mk (ho); clear HO_102002; clear BK101; clear HB; clear HO_3; have HO_102002 := n0_; have BK101 := n1_; have HB := n2_; have HO104 := n3_; clear n0_ n1_ n2_ n3_; clear ho hb hg hat; have hcz11_0 : w9.cell? ⟨gb101, 0, none⟩ = some (.int .i64 x102000_1) := (blk_cell BK101.out 0).trans rfl; have hcz11_1 : w9.cell? ⟨gb101, 1, none⟩ = some (.int .i64 x102001_1) := (blk_cell BK101.out 1).trans rfl; have hcz11_2 : w9.cell? ⟨gb101, 2, none⟩ = some (.slice Ao10 x102002_1.length co10) := (blk_cell BK101.out 2).trans rfl; have hfz11_0 := blk_frozen BK101.out 0; have hfz11_1 := blk_frozen BK101.out 1; have hfz11_2 := blk_frozen BK101.out 2) | ((with_reducible refine gate_callee (f := 79) rfl ?_); refine goesL_ (some 14) rfl rfl Tryz.func79 (by kernel_rfl) rfl #[.agg #[.int .i64 x102000_1, .int .i64 x102001_1, .slice Ao10 x102002_1.length co10]] rfl aq1 ?_; (with_reducible refine (spec_tyTurn.calls k1 x102000_1 x102001_1 _ _ x102002_1 t105 t106 t107 _ ?side1 ?side2 A5.out).mono ?_); (case side1 => exact aq96); (case side2 => exact (Kd.V_reads' HO_102002.out).2.1); rintro e w12 ⟨v108, rfl, ho0, hb⟩; refine ⟨_, rfl, ?_⟩; have n0_ := Aside0.mk (Kd.V_elder' (by (with_reducible repeat (first | apply Kd.V_alloc | apply Kd.V_drewN | apply Kd.V_drew)); exact HO_102002.out) (Kd.R_base ho0) hb); have n1_ := Aside0.mk (Kd.N_elder' (by (with_reducible repeat (first | apply Kd.N_alloc | apply Kd.N_drewN | apply Kd.N_drew)); exact HO104.out) (Kd.R_base ho0) hb); have n2_ := Aside0.mk (Kd.R_lower (Kd.R_newM (M := fun k_ => (w.heap.size ≤ k_)) ho0 (below_size aq6) (fun k_ h_ => h_)) (below_size aq6)); have n3_ := Aside0.mk (blk_below (g := gb101) (o := .cells #[.int .i64 x102000_1, .int .i64 x102001_1, .slice Ao10 x102002_1.length co10] 66 (0, 0)) aq5 hb); have n4_ := Aside0.mk (below_step aq6 hb); clear HO_102002; clear HO104; clear BK101; clear HB; have HO_102002 := n0_; have HO104 := n1_; have HO109 := n2_; have BK101 := n3_; have HB := n4_; clear n0_ n1_ n2_ n3_ n4_; (try clear hb); (try clear hb2); (try clear hk); (try clear hi); (try clear ho0); have hcz13_0 : w12.cell? ⟨gb101, 0, none⟩ = some (.int .i64 x102000_1) := (blk_cell BK101.out 0).trans rfl; have hcz13_1 : w12.cell? ⟨gb101, 1, none⟩ = some (.int .i64 x102001_1) := (blk_cell BK101.out 1).trans rfl; have hcz13_2 : w12.cell? ⟨gb101, 2, none⟩ = some (.slice Ao10 x102002_1.length co10) := (blk_cell BK101.out 2).trans rfl; have hfz13_0 := blk_frozen BK101.out 0; have hfz13_1 := blk_frozen BK101.out 1; have hfz13_2 := blk_frozen BK101.out 2; obtain ⟨Ao14, co14, eo14⟩ := Kd.R_slice HO109.out; subst eo14) | ((with_reducible refine gate_callee (f := 81) rfl ?_); refine goesL_ (some 18) rfl rfl Tryz.func81 (by kernel_rfl) rfl #[.agg #[.int .i64 t105, .int .i64 t106, .slice Ao14 t107.length co14]] rfl aq1 ?_; (with_reducible refine (spec_tyMirror.calls k1 t105 t106 _ _ t107 t110 t111 t112 _ ?side1 ?side2 A7.out).mono ?_); (case side1 => refine (Kd.R_reads' (e := 5) (base := w.heap.size) (ok := fun k_ => ((w.heap.size ≤ k_) ∧ True)) (n := t107.length) (c := co14) ?_).2.2; exact aq41); (case side2 => exact (Kd.R_reads' HO109.out).2.1); rintro e w15 ⟨v113, rfl, ho0, hb⟩; refine ⟨_, rfl, ?_⟩; have n0_ := Aside0.mk (Kd.V_elder' (by (with_reducible repeat (first | apply Kd.V_alloc | apply Kd.V_drewN | apply Kd.V_drew)); exact (Kd.V_mono (Kd.V_far (p := ⟨gb101, 2, none⟩) (Kd.V_far (p := ⟨gb101, 1, none⟩) (Kd.V_far (p := ⟨gb101, 0, none⟩) (Kd.V_mono HO_102002.out (fun k_ hk => (⟨hk, hk.1.1.2⟩ : _ ∧ k_ ≠ gb101))) (fun _ hk => hk.2) (.int .i64 t105)) (fun _ hk => hk.2) (.int .i64 t106)) (fun _ hk => hk.2) (.slice Ao14 t107.length co14)) (fun _ h_ => h_.1))) (Kd.R_base ho0) hb); have n1_ := Aside0.mk (Kd.N_elder' (by (with_reducible repeat (first | apply Kd.N_alloc | apply Kd.N_drewN | apply Kd.N_drew)); exact (Kd.N_mono (Kd.N_far (p := ⟨gb101, 2, none⟩) (Kd.N_far (p := ⟨gb101, 1, none⟩) (Kd.N_far (p := ⟨gb101, 0, none⟩) (Kd.N_mono HO104.out (fun k_ hk => (⟨hk, hk.1.2⟩ : _ ∧ k_ ≠ gb101))) (fun _ hk => hk.2) (.int .i64 t105)) (fun _ hk => hk.2) (.int .i64 t106)) (fun _ hk => hk.2) (.slice Ao14 t107.length co14)) (fun _ h_ => h_.1))) (Kd.R_base ho0) hb); have n2_ := Aside0.mk (Kd.R_elder' aq41 (Kd.R_base ho0) hb); have n3_ := Aside0.mk (Kd.R_lower (Kd.R_new' (Kd.R_newM (M := fun k_ => (w.heap.size ≤ k_)) ho0 (below_size aq6) (fun k_ h_ => h_)) (Kd.R_lt aq41)) (below_size aq6)); have n4_ := Aside0.mk (blk_below (g := gb101) (o := .cells #[.int .i64 t105, .int .i64 t106, .slice Ao14 t107.length co14] 66 (0, 0)) (by (with_reducible repeat (first | refine blk_drewN ?_ _ | refine blk_drew ?_ | refine blk_alloc ?_ _)); refine blk_put (cs := #[.int .i64 t105, .int .i64 t106, .slice Ao10 x102002_1.length co10]) ?_ 2 _ rfl; (with_reducible repeat (first | refine blk_drewN ?_ _ | refine blk_drew ?_ | refine blk_alloc ?_ _)); refine blk_put (cs := #[.int .i64 t105, .int .i64 x102001_1, .slice Ao10 x102002_1.length co10]) ?_ 1 _ rfl; (with_reducible repeat (first | refine blk_drewN ?_ _ | refine blk_drew ?_ | refine blk_alloc ?_ _)); refine blk_put (cs := #[.int .i64 x102000_1, .int .i64 x102001_1, .slice Ao10 x102002_1.length co10]) ?_ 0 _ rfl; (with_reducible repeat (first | refine blk_drewN ?_ _ | refine blk_drew ?_ | refine blk_alloc ?_ _)); exact BK101.out) hb); have n5_ := Aside0.mk (below_step aq6 hb); clear HO_102002; clear HO104; clear HO109; clear BK101; clear HB; have HO_102002 := n0_; have HO104 := n1_; have HO109 := n2_; have HO114 := n3_; have BK101 := n4_; have HB := n5_; clear n0_ n1_ n2_ n3_ n4_ n5_; (try clear hb); (try clear hb2); (try clear hk); (try clear hi); (try clear ho0); have hcz16_0 : w15.cell? ⟨gb101, 0, none⟩ = some (.int .i64 t105) := (blk_cell BK101.out 0).trans rfl; have hcz16_1 : w15.cell? ⟨gb101, 1, none⟩ = some (.int .i64 t106) := (blk_cell BK101.out 1).trans rfl; have hcz16_2 : w15.cell? ⟨gb101, 2, none⟩ = some (.slice Ao14 t107.length co14) := (blk_cell BK101.out 2).trans rfl; have hfz16_0 := blk_frozen BK101.out 0; have hfz16_1 := blk_frozen BK101.out 1; have hfz16_2 := blk_frozen BK101.out 2; obtain ⟨Ao17, co17, eo17⟩ := Kd.R_slice HO114.out; subst eo17))
      go_roundg k1
      case measure => have := HK1.out; omega
      case rel => exact ⟨(y102), (wrap64 (x4_1 + 1)), (t110), (t111), (t112), (.slice Ao17 t112.length co17), aq11, H', ⟨aq83⟩, ⟨by (with_reducible repeat (first | apply Kd.N_alloc | apply Kd.N_drewN | apply Kd.N_drew)); exact Kd.N_mono (Kd.N_far (p := ⟨gb101, 2, none⟩) (Kd.N_far (p := ⟨gb101, 1, none⟩) (Kd.N_far (p := ⟨gb101, 0, none⟩) (Kd.N_mono HO104.out (fun k_ hk => (⟨hk, hk.1.1.2⟩ : _ ∧ k_ ≠ gb101))) (fun _ hk => hk.2) (.int .i64 t110)) (fun _ hk => hk.2) (.int .i64 t111)) (fun _ hk => hk.2) (.slice Ao17 t112.length co17)) (fun _ hk => ⟨hk.1.1.1.1, hk.1.1.1.2⟩)⟩, ⟨Kd.V_mono (Kd.R_V (Kd.R_far (p := ⟨gb101, 2, none⟩) (Kd.R_far (p := ⟨gb101, 1, none⟩) (Kd.R_far (p := ⟨gb101, 0, none⟩) (Kd.R_types (Kd.R_types (Kd.R_apart' HO114.out (Kd.N_typed HO104.out) (by decide)) BK101.out (by decide)) BK101.out (by decide)) (fun _ hk => hk.2) (.int .i64 t110)) (fun _ hk => hk.2) (.int .i64 t111)) (fun _ hk => hk.2) (.slice Ao17 t112.length co17))) (fun k_ hk => by first | exact ⟨.inr hk.1.1.1.1.1.1, hk.1.1.2, hk.2⟩ | exact ⟨.inr hk.1.1.1.1.1, hk.1.1.2, hk.2⟩ | exact ⟨.inr hk.1.1.1.1, hk.1.1.2, hk.2⟩)⟩, ⟨by (with_reducible repeat (first | refine blk_drewN ?_ _ | refine blk_drew ?_ | refine blk_alloc ?_ _)); refine blk_put (cs := #[.int .i64 t110, .int .i64 t111, .slice Ao14 t107.length co14]) ?_ 2 _ rfl; (with_reducible repeat (first | refine blk_drewN ?_ _ | refine blk_drew ?_ | refine blk_alloc ?_ _)); refine blk_put (cs := #[.int .i64 t110, .int .i64 t106, .slice Ao14 t107.length co14]) ?_ 1 _ rfl; (with_reducible repeat (first | refine blk_drewN ?_ _ | refine blk_drew ?_ | refine blk_alloc ?_ _)); refine blk_put (cs := #[.int .i64 t105, .int .i64 t106, .slice Ao14 t107.length co14]) ?_ 0 _ rfl; (with_reducible repeat (first | refine blk_drewN ?_ _ | refine blk_drew ?_ | refine blk_alloc ?_ _)); exact BK101.out⟩, ⟨aq6⟩⟩
     ·rw [if_neg c6] at H
      have c6b0 : (x4_1 == 3) = false := beq_eq_false_iff_ne.mpr c6
      have c6b1 : (x4_1 != 3) = true := bne_iff_ne.mpr c6
      have H' := Aside0.mk H
      clear H
      have hcz18_0 : wr.cell? ⟨gb101, 0, none⟩ = some (.int .i64 x102000_1) := (blk_cell BK101.out 0).trans rfl
      have hcz18_1 : wr.cell? ⟨gb101, 1, none⟩ = some (.int .i64 x102001_1) := (blk_cell BK101.out 1).trans rfl
      have hcz18_2 : wr.cell? ⟨gb101, 2, none⟩ = some (u102002) := (blk_cell BK101.out 2).trans rfl
      have hfz18_0 := blk_frozen BK101.out 0
      have hfz18_1 := blk_frozen BK101.out 1
      have hfz18_2 := blk_frozen BK101.out 2
      obtain ⟨Ao20, co20, eo20⟩ := Kd.V_slice HO_102002.out
      subst eo20
      go_wp2_with (first | ((with_reducible refine gate_builtin (b := .append) (xs := #[.tmp 9, .tmp 11]) rfl ?_); at_builtin; refine Kd.N_append k66 (w0 := w) w.heap.size rfl (.tmp 9) (.tmp 11) 71 66 (.agg #[(.int .i64 0), (.int .i64 0), (.slice none 0 0)]) 40 rfl Tryz.underlying71 info66 rfl (by decide) (by omega) u3 x3_1 (⟨x102000_1, x102001_1, x102002_1⟩ : S66) [.int .i64 x102000_1, .int .i64 x102001_1, .slice Ao20 x102002_1.length co20] (fun k_ => (P0_2_ k_ ∨ w.heap.size ≤ k_) ∧ k_ ≠ gb101) (fun k_ => ((fun k_ => (P0_2_ k_ ∨ w.heap.size ≤ k_) ∧ k_ ≠ gb101)) k_ ∧ some k_ ≠ (u3 : Value).ownBlock) rfl rfl ?aP (fun _ hk => hk) ?aF ?aO ?aB ?aS ?aL ?_; (case aP => exact aq66); (case aB => exact aq6); (case aF => exact (fun k_ hk => ⟨(.inr (Nat.le_trans (below_size aq6) hk)), Kd.freshB (g := gb101) (o := .cells #[.int .i64 x102000_1, .int .i64 x102001_1, .slice Ao20 x102002_1.length co20] 66 (0, 0)) aq5 k_ hk⟩)); (case aO => exact (by (with_reducible repeat (first | apply Kd.N_alloc | apply Kd.N_drewN | apply Kd.N_drew)); exact HO_3.out)); (case aS => exact (below_size aq6)); (case aL => have := LMc4.out; omega); intro v103 w19 ho hb hg hat; rw [← Ny102.out] at ho; have n0_ := Aside0.mk (Kd.V_afterv (ok := (fun k_ => (P0_2_ k_ ∨ w.heap.size ≤ k_) ∧ k_ ≠ gb101)) aq99 hg hat); have n1_ := Aside0.mk (blk_grown (g := gb101) (o := .cells #[.int .i64 x102000_1, .int .i64 x102001_1, .slice Ao20 x102002_1.length co20] 66 (0, 0)) aq5 hg (Kd.N_away HO_3.out (fun _ hk => hk.2))); have n2_ := Aside0.mk (hb); have n3_ := Aside0.mk (ho); clear HO_102002; clear BK101; clear HB; clear HO_3; have HO_102002 := n0_; have BK101 := n1_; have HB := n2_; have HO104 := n3_; clear n0_ n1_ n2_ n3_; clear ho hb hg hat; have hcz21_0 : w19.cell? ⟨gb101, 0, none⟩ = some (.int .i64 x102000_1) := (blk_cell BK101.out 0).trans rfl; have hcz21_1 : w19.cell? ⟨gb101, 1, none⟩ = some (.int .i64 x102001_1) := (blk_cell BK101.out 1).trans rfl; have hcz21_2 : w19.cell? ⟨gb101, 2, none⟩ = some (.slice Ao20 x102002_1.length co20) := (blk_cell BK101.out 2).trans rfl; have hfz21_0 := blk_frozen BK101.out 0; have hfz21_1 := blk_frozen BK101.out 1; have hfz21_2 := blk_frozen BK101.out 2) | ((with_reducible refine gate_callee (f := 79) rfl ?_); refine goesL_ (some 14) rfl rfl Tryz.func79 (by kernel_rfl) rfl #[.agg #[.int .i64 x102000_1, .int .i64 x102001_1, .slice Ao20 x102002_1.length co20]] rfl aq1 ?_; (with_reducible refine (spec_tyTurn.calls k1 x102000_1 x102001_1 _ _ x102002_1 t105 t106 t107 _ ?side1 ?side2 A5.out).mono ?_); (case side1 => exact aq96); (case side2 => exact (Kd.V_reads' HO_102002.out).2.1); rintro e w22 ⟨v108, rfl, ho0, hb⟩; refine ⟨_, rfl, ?_⟩; have n0_ := Aside0.mk (Kd.V_elder' (by (with_reducible repeat (first | apply Kd.V_alloc | apply Kd.V_drewN | apply Kd.V_drew)); exact HO_102002.out) (Kd.R_base ho0) hb); have n1_ := Aside0.mk (Kd.N_elder' (by (with_reducible repeat (first | apply Kd.N_alloc | apply Kd.N_drewN | apply Kd.N_drew)); exact HO104.out) (Kd.R_base ho0) hb); have n2_ := Aside0.mk (Kd.R_lower (Kd.R_newM (M := fun k_ => (w.heap.size ≤ k_)) ho0 (below_size aq6) (fun k_ h_ => h_)) (below_size aq6)); have n3_ := Aside0.mk (blk_below (g := gb101) (o := .cells #[.int .i64 x102000_1, .int .i64 x102001_1, .slice Ao20 x102002_1.length co20] 66 (0, 0)) aq5 hb); have n4_ := Aside0.mk (below_step aq6 hb); clear HO_102002; clear HO104; clear BK101; clear HB; have HO_102002 := n0_; have HO104 := n1_; have HO109 := n2_; have BK101 := n3_; have HB := n4_; clear n0_ n1_ n2_ n3_ n4_; (try clear hb); (try clear hb2); (try clear hk); (try clear hi); (try clear ho0); have hcz23_0 : w22.cell? ⟨gb101, 0, none⟩ = some (.int .i64 x102000_1) := (blk_cell BK101.out 0).trans rfl; have hcz23_1 : w22.cell? ⟨gb101, 1, none⟩ = some (.int .i64 x102001_1) := (blk_cell BK101.out 1).trans rfl; have hcz23_2 : w22.cell? ⟨gb101, 2, none⟩ = some (.slice Ao20 x102002_1.length co20) := (blk_cell BK101.out 2).trans rfl; have hfz23_0 := blk_frozen BK101.out 0; have hfz23_1 := blk_frozen BK101.out 1; have hfz23_2 := blk_frozen BK101.out 2; obtain ⟨Ao24, co24, eo24⟩ := Kd.R_slice HO109.out; subst eo24))
      go_roundg k1
      case measure => have := HK1.out; omega
      case rel => exact ⟨(y102), (wrap64 (x4_1 + 1)), (t105), (t106), (t107), (.slice Ao24 t107.length co24), aq11, H', ⟨aq83⟩, ⟨by (with_reducible repeat (first | apply Kd.N_alloc | apply Kd.N_drewN | apply Kd.N_drew)); exact Kd.N_mono (Kd.N_far (p := ⟨gb101, 2, none⟩) (Kd.N_far (p := ⟨gb101, 1, none⟩) (Kd.N_far (p := ⟨gb101, 0, none⟩) (Kd.N_mono HO104.out (fun k_ hk => (⟨hk, hk.1.2⟩ : _ ∧ k_ ≠ gb101))) (fun _ hk => hk.2) (.int .i64 t105)) (fun _ hk => hk.2) (.int .i64 t106)) (fun _ hk => hk.2) (.slice Ao24 t107.length co24)) (fun _ hk => ⟨hk.1.1.1, hk.1.1.2⟩)⟩, ⟨Kd.V_mono (Kd.R_V (Kd.R_far (p := ⟨gb101, 2, none⟩) (Kd.R_far (p := ⟨gb101, 1, none⟩) (Kd.R_far (p := ⟨gb101, 0, none⟩) (Kd.R_types (Kd.R_types (Kd.R_apart' HO109.out (Kd.N_typed HO104.out) (by decide)) BK101.out (by decide)) BK101.out (by decide)) (fun _ hk => hk.2) (.int .i64 t105)) (fun _ hk => hk.2) (.int .i64 t106)) (fun _ hk => hk.2) (.slice Ao24 t107.length co24))) (fun k_ hk => by first | exact ⟨.inr hk.1.1.1.1.1.1, hk.1.1.2, hk.2⟩ | exact ⟨.inr hk.1.1.1.1.1, hk.1.1.2, hk.2⟩ | exact ⟨.inr hk.1.1.1.1, hk.1.1.2, hk.2⟩)⟩, ⟨by (with_reducible repeat (first | refine blk_drewN ?_ _ | refine blk_drew ?_ | refine blk_alloc ?_ _)); refine blk_put (cs := #[.int .i64 t105, .int .i64 t106, .slice Ao20 x102002_1.length co20]) ?_ 2 _ rfl; (with_reducible repeat (first | refine blk_drewN ?_ _ | refine blk_drew ?_ | refine blk_alloc ?_ _)); refine blk_put (cs := #[.int .i64 t105, .int .i64 x102001_1, .slice Ao20 x102002_1.length co20]) ?_ 1 _ rfl; (with_reducible repeat (first | refine blk_drewN ?_ _ | refine blk_drew ?_ | refine blk_alloc ?_ _)); refine blk_put (cs := #[.int .i64 x102000_1, .int .i64 x102001_1, .slice Ao20 x102002_1.length co20]) ?_ 0 _ rfl; (with_reducible repeat (first | refine blk_drewN ?_ _ | refine blk_drew ?_ | refine blk_alloc ?_ _)); exact BK101.out⟩, ⟨aq6⟩⟩
    ·rw [if_neg c4] at H
     exact absurd H (by simp)
   ·rw [if_neg c3] at H
    have c3b0 : decide (x4_1 < 8) = false := decide_eq_false c3
    clear c3
    obtain rfl := Option.some.inj H
    go_wp2
    go_ret
    exact ⟨_, aq8, by (with_reducible repeat (first | apply Kd.N_alloc | apply Kd.N_drewN | apply Kd.N_drew)); exact Kd.N_mono HO_3.out (fun _ hk => hk.1), aq6⟩
end Go.Proofs.YtipjmlcbbimfpaaGreatDoor.F

namespace Go.Proofs.YtipjmlcbbimfpaaGreatDoor.F
open Go.Proofs.YtipjmlcbbimfpaaGreatDoor
open Go.RowKit Go.Proofs.YtipjmlcbbimfpaaGreatDoorW.PrintWords Go.Proofs.YtipjmlcbbimfpaaGreatDoorW.PrintLast Go.Proofs.YtipjmlcbbimfpaaGreatDoorW.PrintMore
attribute [local go_sem] max2_int min2_int max_two min_two max_three min_three max_four min_four   -- for this text's walks alone
set_option linter.unusedVariables false
set_option linter.unusedSimpArgs false
def spec_tyText.l0 : Nat → ByteArray → Int → Int → Int → List Int → Option (ByteArray)
 | 0, _, _, _, _, _ => none
 | k + 1, x3, x4, x102000, x102001, x102002 => if x4 < x102001 then (if x4 > 0 then (if x3.size + 1 ≤ 9223372036854775807 then (if 0 ≤ (wrap64 (x4 * x102000)) then (if (wrap64 (x4 * x102000)) ≤ (wrap64 ((wrap64 (x4 + 1)) * x102000)) then (if (wrap64 ((wrap64 (x4 + 1)) * x102000)) ≤ (x102002.length : Int) then (if (x3 ++ (⟨#[47]⟩ : ByteArray)).size + (strOfNums ((x102002.take ((wrap64 ((wrap64 (x4 + 1)) * x102000)) : Int).toNat).drop ((wrap64 (x4 * x102000)) : Int).toNat)).size ≤ 9223372036854775807 then (spec_tyText.l0 k ((x3 ++ (⟨#[47]⟩ : ByteArray)) ++ (strOfNums ((x102002.take ((wrap64 ((wrap64 (x4 + 1)) * x102000)) : Int).toNat).drop ((wrap64 (x4 * x102000)) : Int).toNat))) (wrap64 (x4 + 1)) x102000 x102001 x102002) else (none)) else (none)) else (none)) else (none)) else (none)) else (if 0 ≤ (wrap64 (x4 * x102000)) then (if (wrap64 (x4 * x102000)) ≤ (wrap64 ((wrap64 (x4 + 1)) * x102000)) then (if (wrap64 ((wrap64 (x4 + 1)) * x102000)) ≤ (x102002.length : Int) then (if x3.size + (strOfNums ((x102002.take ((wrap64 ((wrap64 (x4 + 1)) * x102000)) : Int).toNat).drop ((wrap64 (x4 * x102000)) : Int).toNat)).size ≤ 9223372036854775807 then (spec_tyText.l0 k (x3 ++ (strOfNums ((x102002.take ((wrap64 ((wrap64 (x4 + 1)) * x102000)) : Int).toNat).drop ((wrap64 (x4 * x102000)) : Int).toNat))) (wrap64 (x4 + 1)) x102000 x102001 x102002) else (none)) else (none)) else (none)) else (none))) else (some x3)
def spec_tyText.f (k : Nat) (a0_0 : Int) (a0_1 : Int) (l0_2 : List Int) : Option (ByteArray) := spec_tyText.l0 k (⟨#[]⟩ : ByteArray) 0 a0_0 a0_1 l0_2
set_option maxHeartbeats 8000000 in
set_option maxRecDepth 100000 in
theorem spec_tyText.calls (k : Nat) (a0_0 : Int) (a0_1 : Int) (A0_2 : Option Addr) (c0_2 : Nat) (l0_2 : List Int) (r : ByteArray) (w : World) (hr0_2 : Kd.C (Kd.int .u8) w A0_2 l0_2.length l0_2) (hc0_2 : l0_2.length ≤ c0_2) (h : spec_tyText.f k a0_0 a0_1 l0_2 = some r) :
  Calls Tryz.prog 76 #[.agg #[.int .i64 a0_0, .int .i64 a0_1, .slice A0_2 l0_2.length c0_2]] w fun e w' => e = .returned (.string r) ∧ Below w.heap.size w w' := by
 have hu66 := Tryz.underlying66
 have HR0_2 := Aside0.mk hr0_2
 have HC0_2 := Aside0.mk hc0_2
 clear hr0_2 hc0_2
 have HB := Aside0.mk (Below.refl w.heap.size w)
 have H : (spec_tyText.l0 k (⟨#[]⟩ : ByteArray) 0 a0_0 a0_1 l0_2) = some r := h
 clear h
 have H' := Aside0.mk H
 clear H
 go_enter Tryz.func76, Tryz.ntmps76
 go_wp2_with (first | ((with_reducible refine gate_dst (N := 1) rfl ?_); refine box_event ?hg (N := 1) ?hd (cs := #[.int .i64 a0_0, .int .i64 a0_1, .slice A0_2 l0_2.length c0_2]) (t := 66) ?hr ?_; (case hd => rfl); (case hg => rfl); (case hr => exact aq23); intro gb101 hg w2 hbox hb; have n0_ := Aside0.mk (below_step aq0 hb); have n1_ := Aside0.mk (hbox); have n2_ := Aside0.mk ((by rw [hg]; exact (below_size aq0) : w.heap.size ≤ gb101)); have n3_ := Aside0.mk ((by rw [hg]; exact (below_size aq0) : w.heap.size ≤ gb101)); clear HB; have HB := n0_; have BK101 := n1_; have GW101 := n2_; have GE101 := n3_; clear n0_ n1_ n2_ n3_; clear hb hbox hg))
 go_loopg [3, 4] k (fun kq v3 v4 w' => ∃ (x3_1 : ByteArray) (x4_1 : Int), v3 = .string x3_1 ∧ v4 = .int .i64 x4_1 ∧ Aside0 (spec_tyText.l0 kq x3_1 x4_1 a0_0 a0_1 l0_2 = some r) ∧ Aside0 (kq ≤ k) ∧ Aside0 (w'.heap[gb101]? = some (.cells #[.int .i64 a0_0, .int .i64 a0_1, (.slice A0_2 l0_2.length c0_2)] 66 (0, 0))) ∧ Aside0 (Below w.heap.size w w'))
 case atStart => exact ⟨((⟨#[]⟩ : ByteArray)), (0), aq11, aq11, H', ⟨Nat.le_refl _⟩, ⟨aq5⟩, ⟨aq6⟩⟩
 case round =>
  clear H'
  try clear p2
  obtain ⟨x3_1, x4_1, rfl, rfl, HA, HK1, BK101, HB⟩ := hrel
  cases gk with
  | zero => exact absurd HA.out (by simp [spec_tyText.l0])
  | succ k1 =>
   have H := HA.out
   clear HA
   simp only [spec_tyText.l0] at H
   by_cases c3 : x4_1 < a0_1
   ·rw [if_pos c3] at H
    have c3b0 : decide (x4_1 < a0_1) = true := decide_eq_true c3
    clear c3
    by_cases c4 : x4_1 > 0
    ·rw [if_pos c4] at H
     have c4b0 : decide (0 < x4_1) = true := decide_eq_true c4
     clear c4
     by_cases c5 : x3_1.size + 1 ≤ 9223372036854775807
     ·rw [if_pos c5] at H
      have c5b0 := eq_true c5
      have c5b1 : decide (x3_1.size + 1 ≤ 9223372036854775807) = true := decide_eq_true c5
      try have c5b2 : (9223372036854775807 < x3_1.size + 1) = False := eq_false (Nat.not_lt.2 c5)
      obtain ⟨ji6, hji6⟩ : ∃ j_ : Int, (wrap64 (x4_1 * a0_0)) = j_ := ⟨_, rfl⟩
      replace H : (if 0 ≤ (ji6) then (if (ji6) ≤ (wrap64 ((wrap64 (x4_1 + 1)) * a0_0)) then (if (wrap64 ((wrap64 (x4_1 + 1)) * a0_0)) ≤ (l0_2.length : Int) then (if (x3_1 ++ (⟨#[47]⟩ : ByteArray)).size + (strOfNums ((l0_2.take ((wrap64 ((wrap64 (x4_1 + 1)) * a0_0)) : Int).toNat).drop ((ji6) : Int).toNat)).size ≤ 9223372036854775807 then (spec_tyText.l0 k1 ((x3_1 ++ (⟨#[47]⟩ : ByteArray)) ++ (strOfNums ((l0_2.take ((wrap64 ((wrap64 (x4_1 + 1)) * a0_0)) : Int).toNat).drop ((ji6) : Int).toNat))) (wrap64 (x4_1 + 1)) a0_0 a0_1 l0_2) else (none)) else (none)) else (none)) else (none)) = some r := by first | (rw [hji6] at H; exact H) | (simp only [hji6] at H ⊢; exact H)
      have hji6w : (IntKind.i64.wrap (x4_1 * a0_0)) = ji6 := (i64_w _).trans hji6
      by_cases c7 : 0 ≤ (ji6)
      ·rw [if_pos c7] at H
       have c7b0 := eq_true c7
       have c7b1 : decide (0 ≤ (ji6)) = true := decide_eq_true c7
       clear c7
       by_cases c8 : (ji6) ≤ (wrap64 ((wrap64 (x4_1 + 1)) * a0_0))
       ·rw [if_pos c8] at H
        have c8b0 := eq_true c8
        have c8b1 : decide ((ji6) ≤ (wrap64 ((wrap64 (x4_1 + 1)) * a0_0))) = true := decide_eq_true c8
        by_cases c9 : (wrap64 ((wrap64 (x4_1 + 1)) * a0_0)) ≤ (l0_2.length : Int)
        ·rw [if_pos c9] at H
         have c9b0 := eq_true c9
         have c9b1 : decide ((wrap64 ((wrap64 (x4_1 + 1)) * a0_0)) ≤ (l0_2.length : Int)) = true := decide_eq_true c9
         by_cases c10 : (x3_1 ++ (⟨#[47]⟩ : ByteArray)).size + (strOfNums ((l0_2.take ((wrap64 ((wrap64 (x4_1 + 1)) * a0_0)) : Int).toNat).drop ((ji6) : Int).toNat)).size ≤ 9223372036854775807
         ·rw [if_pos c10] at H
          have c10b0 := eq_true c10
          have c10b1 : decide ((x3_1 ++ (⟨#[47]⟩ : ByteArray)).size + (strOfNums ((l0_2.take ((wrap64 ((wrap64 (x4_1 + 1)) * a0_0)) : Int).toNat).drop ((ji6) : Int).toNat)).size ≤ 9223372036854775807) = true := decide_eq_true c10
          try have c10b2 : (9223372036854775807 < (x3_1 ++ (⟨#[47]⟩ : ByteArray)).size + (strOfNums ((l0_2.take ((wrap64 ((wrap64 (x4_1 + 1)) * a0_0)) : Int).toNat).drop ((ji6) : Int).toNat)).size) = False := eq_false (Nat.not_lt.2 c10)
          have H' := Aside0.mk H
          clear H
          have hcz11_0 : wr.cell? ⟨gb101, 0, none⟩ = some (.int .i64 a0_0) := (blk_cell BK101.out 0).trans rfl
          have hcz11_1 : wr.cell? ⟨gb101, 1, none⟩ = some (.int .i64 a0_1) := (blk_cell BK101.out 1).trans rfl
          have hcz11_2 : wr.cell? ⟨gb101, 2, none⟩ = some (.slice A0_2 l0_2.length c0_2) := (blk_cell BK101.out 2).trans rfl
          have hfz11_0 := blk_frozen BK101.out 0
          have hfz11_1 := blk_frozen BK101.out 1
          have hfz11_2 := blk_frozen BK101.out 2
          obtain ⟨i012, hi012, _, hsz12, _⟩ := info_parts info5
          obtain ⟨A12, hcut12, hA12, hC12⟩ := print_mid_of (P := Tryz.prog) (Value.int .u8) 0 22 5 .i64 .i64 Tryz.underlying22 hi012 hsz12 A0_2 c0_2 l0_2 (ji6) (wrap64 ((wrap64 (x4_1 + 1)) * a0_0)) (of_decide_eq_true aq9) (by first | omega | exact of_decide_eq_true aq9) (of_decide_eq_true aq9) HC0_2.out
          have HR102 := Aside0.mk (Kd.C_of_reads (h1 := fun _ => rfl) (hA12 _ (Kd.reads_of_C HR0_2.out)))
          have HC102 := Aside0.mk hC12
          clear hA12 hC12 hi012 hsz12
          have hcv13 := Kd.C_string (P := Tryz.prog) (A := A12) (c := (c0_2 - (ji6).toNat)) Tryz.underlying22 Tryz.underlying5 Tryz.underlying9 (Kd.C_below HR102.out HB.out)
          (try rw [List.length_drop, List.length_take, Nat.min_eq_left (Int.toNat_le.2 (of_decide_eq_true aq9))] at hcv13)
          go_wp2
          go_roundg k1
          case measure => have := HK1.out; omega
          case rel => exact ⟨((x3_1 ++ (⟨#[47]⟩ : ByteArray)) ++ (strOfNums ((l0_2.take ((wrap64 ((wrap64 (x4_1 + 1)) * a0_0)) : Int).toNat).drop ((ji6) : Int).toNat))), (wrap64 (x4_1 + 1)), (by first | rfl | (simp; done) | (simp only [← hji6] <;> (first | rfl | simp)) | (simp [*]; done)), aq11, H', ⟨aq83⟩, ⟨aq5⟩, ⟨aq6⟩⟩
         ·rw [if_neg c10] at H
          exact absurd H (by simp)
        ·rw [if_neg c9] at H
         exact absurd H (by simp)
       ·rw [if_neg c8] at H
        exact absurd H (by simp)
      ·rw [if_neg c7] at H
       exact absurd H (by simp)
     ·rw [if_neg c5] at H
      exact absurd H (by simp)
    ·rw [if_neg c4] at H
     have c4b0 : decide (0 < x4_1) = false := decide_eq_false c4
     clear c4
     obtain ⟨ji14, hji14⟩ : ∃ j_ : Int, (wrap64 (x4_1 * a0_0)) = j_ := ⟨_, rfl⟩
     replace H : (if 0 ≤ (ji14) then (if (ji14) ≤ (wrap64 ((wrap64 (x4_1 + 1)) * a0_0)) then (if (wrap64 ((wrap64 (x4_1 + 1)) * a0_0)) ≤ (l0_2.length : Int) then (if x3_1.size + (strOfNums ((l0_2.take ((wrap64 ((wrap64 (x4_1 + 1)) * a0_0)) : Int).toNat).drop ((ji14) : Int).toNat)).size ≤ 9223372036854775807 then (spec_tyText.l0 k1 (x3_1 ++ (strOfNums ((l0_2.take ((wrap64 ((wrap64 (x4_1 + 1)) * a0_0)) : Int).toNat).drop ((ji14) : Int).toNat))) (wrap64 (x4_1 + 1)) a0_0 a0_1 l0_2) else (none)) else (none)) else (none)) else (none)) = some r := by first | (rw [hji14] at H; exact H) | (simp only [hji14] at H ⊢; exact H)
     have hji14w : (IntKind.i64.wrap (x4_1 * a0_0)) = ji14 := (i64_w _).trans hji14
     by_cases c15 : 0 ≤ (ji14)
     ·rw [if_pos c15] at H
      have c15b0 := eq_true c15
      have c15b1 : decide (0 ≤ (ji14)) = true := decide_eq_true c15
      clear c15
      by_cases c16 : (ji14) ≤ (wrap64 ((wrap64 (x4_1 + 1)) * a0_0))
      ·rw [if_pos c16] at H
       have c16b0 := eq_true c16
       have c16b1 : decide ((ji14) ≤ (wrap64 ((wrap64 (x4_1 + 1)) * a0_0))) = true := decide_eq_true c16
       by_cases c17 : (wrap64 ((wrap64 (x4_1 + 1)) * a0_0)) ≤ (l0_2.length : Int)
       ·rw [if_pos c17] at H
        have c17b0 := eq_true c17
        have c17b1 : decide ((wrap64 ((wrap64 (x4_1 + 1)) * a0_0)) ≤ (l0_2.length : Int)) = true := decide_eq_true c17
        by_cases c18 : x3_1.size + (strOfNums ((l0_2.take ((wrap64 ((wrap64 (x4_1 + 1)) * a0_0)) : Int).toNat).drop ((ji14) : Int).toNat)).size ≤ 9223372036854775807
        ·rw [if_pos c18] at H
         have c18b0 := eq_true c18
         have c18b1 : decide (x3_1.size + (strOfNums ((l0_2.take ((wrap64 ((wrap64 (x4_1 + 1)) * a0_0)) : Int).toNat).drop ((ji14) : Int).toNat)).size ≤ 9223372036854775807) = true := decide_eq_true c18
         try have c18b2 : (9223372036854775807 < x3_1.size + (strOfNums ((l0_2.take ((wrap64 ((wrap64 (x4_1 + 1)) * a0_0)) : Int).toNat).drop ((ji14) : Int).toNat)).size) = False := eq_false (Nat.not_lt.2 c18)
         have H' := Aside0.mk H
         clear H
         have hcz19_0 : wr.cell? ⟨gb101, 0, none⟩ = some (.int .i64 a0_0) := (blk_cell BK101.out 0).trans rfl
         have hcz19_1 : wr.cell? ⟨gb101, 1, none⟩ = some (.int .i64 a0_1) := (blk_cell BK101.out 1).trans rfl
         have hcz19_2 : wr.cell? ⟨gb101, 2, none⟩ = some (.slice A0_2 l0_2.length c0_2) := (blk_cell BK101.out 2).trans rfl
         have hfz19_0 := blk_frozen BK101.out 0
         have hfz19_1 := blk_frozen BK101.out 1
         have hfz19_2 := blk_frozen BK101.out 2
         obtain ⟨i020, hi020, _, hsz20, _⟩ := info_parts info5
         obtain ⟨A20, hcut20, hA20, hC20⟩ := print_mid_of (P := Tryz.prog) (Value.int .u8) 0 22 5 .i64 .i64 Tryz.underlying22 hi020 hsz20 A0_2 c0_2 l0_2 (ji14) (wrap64 ((wrap64 (x4_1 + 1)) * a0_0)) (of_decide_eq_true aq9) (by first | omega | exact of_decide_eq_true aq9) (of_decide_eq_true aq9) HC0_2.out
         have HR103 := Aside0.mk (Kd.C_of_reads (h1 := fun _ => rfl) (hA20 _ (Kd.reads_of_C HR0_2.out)))
         have HC103 := Aside0.mk hC20
         clear hA20 hC20 hi020 hsz20
         have hcv21 := Kd.C_string (P := Tryz.prog) (A := A20) (c := (c0_2 - (ji14).toNat)) Tryz.underlying22 Tryz.underlying5 Tryz.underlying9 (Kd.C_below HR103.out HB.out)
         (try rw [List.length_drop, List.length_take, Nat.min_eq_left (Int.toNat_le.2 (of_decide_eq_true aq9))] at hcv21)
         go_wp2
         go_roundg k1
         case measure => have := HK1.out; omega
         case rel => exact ⟨(x3_1 ++ (strOfNums ((l0_2.take ((wrap64 ((wrap64 (x4_1 + 1)) * a0_0)) : Int).toNat).drop ((ji14) : Int).toNat))), (wrap64 (x4_1 + 1)), (by first | rfl | (simp; done) | (simp only [← hji14] <;> (first | rfl | simp)) | (simp [*]; done)), aq11, H', ⟨aq83⟩, ⟨aq5⟩, ⟨aq6⟩⟩
        ·rw [if_neg c18] at H
         exact absurd H (by simp)
       ·rw [if_neg c17] at H
        exact absurd H (by simp)
      ·rw [if_neg c16] at H
       exact absurd H (by simp)
     ·rw [if_neg c15] at H
      exact absurd H (by simp)
   ·rw [if_neg c3] at H
    have c3b0 : decide (x4_1 < a0_1) = false := decide_eq_false c3
    clear c3
    obtain rfl := Option.some.inj H
    have hcz22_0 : wr.cell? ⟨gb101, 0, none⟩ = some (.int .i64 a0_0) := (blk_cell BK101.out 0).trans rfl
    have hcz22_1 : wr.cell? ⟨gb101, 1, none⟩ = some (.int .i64 a0_1) := (blk_cell BK101.out 1).trans rfl
    have hcz22_2 : wr.cell? ⟨gb101, 2, none⟩ = some (.slice A0_2 l0_2.length c0_2) := (blk_cell BK101.out 2).trans rfl
    have hfz22_0 := blk_frozen BK101.out 0
    have hfz22_1 := blk_frozen BK101.out 1
    have hfz22_2 := blk_frozen BK101.out 2
    go_wp2
    go_ret
    exact ⟨aq8, aq6⟩
end Go.Proofs.YtipjmlcbbimfpaaGreatDoor.F

namespace Go.Proofs.YtipjmlcbbimfpaaGreatDoor.F
open Go.Proofs.YtipjmlcbbimfpaaGreatDoor
open Go.RowKit Go.Proofs.YtipjmlcbbimfpaaGreatDoorW.PrintWords Go.Proofs.YtipjmlcbbimfpaaGreatDoorW.PrintLast Go.Proofs.YtipjmlcbbimfpaaGreatDoorW.PrintMore
attribute [local go_sem] max2_int min2_int max_two min_two max_three min_three max_four min_four   -- for this text's walks alone
set_option linter.unusedVariables false
set_option linter.unusedSimpArgs false
def impl_tray_number.f (a0_0 : Int) (a0_1 : Int) (l0_2 : List Int) (a1 : Int) (a2 : Int) : Option (Int) := some (wrap64 ((wrap64 (a2 * a0_0)) + a1))
set_option maxHeartbeats 8000000 in
set_option maxRecDepth 100000 in
theorem impl_tray_number.calls (a0_0 : Int) (a0_1 : Int) (A0_2 : Option Addr) (c0_2 : Nat) (l0_2 : List Int) (a1 : Int) (a2 : Int) (r : Int) (w : World) (hr0_2 : Kd.C (Kd.int .u8) w A0_2 l0_2.length l0_2) (hc0_2 : l0_2.length ≤ c0_2) (h : impl_tray_number.f a0_0 a0_1 l0_2 a1 a2 = some r) :
  Calls Tryz.prog 130 #[.agg #[.int .i64 a0_0, .int .i64 a0_1, .slice A0_2 l0_2.length c0_2], .int .i64 a1, .int .i64 a2] w fun e w' => e = .returned (.int .i64 r) ∧ Below w.heap.size w w' := by
 have hu62 := Tryz.underlying62
 have HR0_2 := Aside0.mk hr0_2
 have HC0_2 := Aside0.mk hc0_2
 clear hr0_2 hc0_2
 have HB := Aside0.mk (Below.refl w.heap.size w)
 have H : (some (wrap64 ((wrap64 (a2 * a0_0)) + a1))) = some r := h
 clear h
 obtain rfl := Option.some.inj H
 go_enter Tryz.func130, Tryz.ntmps130
 go_wp2_with (first | ((with_reducible refine gate_dst (N := 3) rfl ?_); refine box_event ?hg (N := 3) ?hd (cs := #[.int .i64 a0_0, .int .i64 a0_1, .slice A0_2 l0_2.length c0_2]) (t := 62) ?hr ?_; (case hd => rfl); (case hg => rfl); (case hr => exact aq23); intro gb101 hg w4 hbox hb; have n0_ := Aside0.mk (below_step aq0 hb); have n1_ := Aside0.mk (hbox); have n2_ := Aside0.mk ((by rw [hg]; exact (below_size aq0) : w.heap.size ≤ gb101)); have n3_ := Aside0.mk ((by rw [hg]; exact (below_size aq0) : w.heap.size ≤ gb101)); clear HB; have HB := n0_; have BK101 := n1_; have GW101 := n2_; have GE101 := n3_; clear n0_ n1_ n2_ n3_; clear hb hbox hg; have hcz5_0 : w4.cell? ⟨gb101, 0, none⟩ = some (.int .i64 a0_0) := (blk_cell BK101.out 0).trans rfl; have hcz5_1 : w4.cell? ⟨gb101, 1, none⟩ = some (.int .i64 a0_1) := (blk_cell BK101.out 1).trans rfl; have hcz5_2 : w4.cell? ⟨gb101, 2, none⟩ = some (.slice A0_2 l0_2.length c0_2) := (blk_cell BK101.out 2).trans rfl; have hfz5_0 := blk_frozen BK101.out 0; have hfz5_1 := blk_frozen BK101.out 1; have hfz5_2 := blk_frozen BK101.out 2))
 go_ret
 exact ⟨aq8, aq6⟩
end Go.Proofs.YtipjmlcbbimfpaaGreatDoor.F

namespace Go.Proofs.YtipjmlcbbimfpaaGreatDoor.F
open Go.Proofs.YtipjmlcbbimfpaaGreatDoor
open Go.RowKit Go.Proofs.YtipjmlcbbimfpaaGreatDoorW.PrintWords Go.Proofs.YtipjmlcbbimfpaaGreatDoorW.PrintLast Go.Proofs.YtipjmlcbbimfpaaGreatDoorW.PrintMore
attribute [local go_sem] max2_int min2_int max_two min_two max_three min_three max_four min_four   -- for this text's walks alone
set_option linter.unusedVariables false
set_option linter.unusedSimpArgs false
def impl_tray_turned.l0 : Nat → List Int → Int → Int → Int → Int → List Int → Int → Int → List Int → Option (Int × Int × List Int)
 | 0, _, _, _, _, _, _, _, _, _ => none
 | k + 1, x16, x17, x18, x102000, x102001, x102002, x107000, x107001, x107002 => if x18 < x17 then (if 0 ≤ x18 then (if x18 < (x16.length : Int) then (if x102000 = 0 then (none) else ((impl_tray_number.f x107000 x107001 x107002 (wrap64 ((wrap64 (x102001 - 1)) - (wrap64 (Int.tdiv x18 x102000)))) (Int.tmod x18 x102000)).bind fun t108 => (if 0 ≤ t108 then (if t108 < (x107002.length : Int) then (impl_tray_turned.l0 k x16 x17 (wrap64 (x18 + 1)) x102000 x102001 x102002 x107000 x107001 (x107002.set (t108 : Int).toNat (rd x16 x18))) else (none)) else (none)))) else (none)) else (none)) else (some (x107000, x107001, x107002))
def impl_tray_turned.f (k : Nat) (a0_0 : Int) (a0_1 : Int) (l0_2 : List Int) : Option (Int × Int × List Int) := if 0 ≤ (l0_2.length : Int) then (if ((l0_2.length : Int) : Int).toNat ≤ 281474976710656 then (impl_tray_turned.l0 k l0_2 (l0_2.length : Int) 0 a0_0 a0_1 l0_2 a0_1 a0_0 (List.replicate ((l0_2.length : Int) : Int).toNat 0)) else (none)) else (none)
def impl_tray_turned.T1 : Bool × List (List Nat × List Nat) := (true, [([], []), ([0], [0]), ([], []), ([2], [2]), ([], []), ([4], [4]), ([5], [5]), ([6, 6], [6]), ([1, 3, 7], [1, 3, 7]), ([], []), ([9, 8, 0, 1, 2, 3, 4, 5, 6, 7, 8, 9], [8, 9])])
def impl_tray_turned.B1 : List Nat := [0, 1, 0, 4, 0, 16, 48, 112, 255, 0, 1023]
theorem impl_tray_turned.tab1 : rtab .any (opsOf Tryz.f78 1) = impl_tray_turned.T1 := by kernel_rfl
theorem impl_tray_turned.bits1 : waitsOk impl_tray_turned.T1.2 impl_tray_turned.B1 = true := by kernel_rfl
def impl_tray_turned.T5 : Bool × List (List Nat × List Nat) := (true, [([], []), ([0], [0]), ([], []), ([], []), ([3], [3]), ([4], [4]), ([], []), ([], []), ([7], [7]), ([6, 8], [6, 8]), ([5, 9], [5, 9]), ([], []), ([], []), ([12], [12]), ([11, 13], [11, 13]), ([2, 10, 14], [2, 10, 14]), ([], []), ([1, 15, 0, 1, 2, 3, 4, 5, 6, 7, 8, 9, 10, 11, 12, 13, 14, 15, 16], [1, 15]), ([17, 16, 15, 0, 1, 2, 3, 4, 5, 6, 7, 8, 9, 10, 11, 12, 13, 14, 15, 16], [16, 17])])
def impl_tray_turned.B5 : List Nat := [0, 1, 0, 0, 8, 24, 0, 0, 128, 448, 1016, 0, 0, 4096, 14336, 32764, 0, 131071, 262143]
theorem impl_tray_turned.tab5 : rtab .any (opsOf Tryz.f78 5) = impl_tray_turned.T5 := by kernel_rfl
theorem impl_tray_turned.bits5 : waitsOk impl_tray_turned.T5.2 impl_tray_turned.B5 = true := by kernel_rfl
set_option maxHeartbeats 8000000 in
set_option maxRecDepth 100000 in
theorem impl_tray_turned.calls (k : Nat) (a0_0 : Int) (a0_1 : Int) (A0_2 : Option Addr) (c0_2 : Nat) (l0_2 : List Int) (r1 : Int) (r2 : Int) (r3 : List Int) (w : World) (hr0_2 : Kd.C (Kd.int .u8) w A0_2 l0_2.length l0_2) (hc0_2 : l0_2.length ≤ c0_2) (h : impl_tray_turned.f k a0_0 a0_1 l0_2 = some (r1, r2, r3)) :
  Calls Tryz.prog 78 #[.agg #[.int .i64 a0_0, .int .i64 a0_1, .slice A0_2 l0_2.length c0_2]] w fun e w' => ∃ v2_ : Value, e = .returned (.agg #[.int .i64 r1, .int .i64 r2, v2_]) ∧ Kd.R (Kd.int .u8) 5 w' w.heap.size (fun _ => True) v2_ r3 ∧ Below w.heap.size w w' := by
 have hu62 := Tryz.underlying62
 have HR0_2 := Aside0.mk hr0_2
 have HC0_2 := Aside0.mk hc0_2
 clear hr0_2 hc0_2
 have HB := Aside0.mk (Below.refl w.heap.size w)
 have H : (if 0 ≤ (l0_2.length : Int) then (if ((l0_2.length : Int) : Int).toNat ≤ 281474976710656 then (impl_tray_turned.l0 k l0_2 (l0_2.length : Int) 0 a0_0 a0_1 l0_2 a0_1 a0_0 (List.replicate ((l0_2.length : Int) : Int).toNat 0)) else (none)) else (none)) = some (r1, r2, r3) := h
 clear h
 by_cases c2 : 0 ≤ (l0_2.length : Int)
 ·rw [if_pos c2] at H
  have c2b0 := eq_true c2
  have c2b1 : decide (0 ≤ (l0_2.length : Int)) = true := decide_eq_true c2
  clear c2
  by_cases c3 : ((l0_2.length : Int) : Int).toNat ≤ 281474976710656
  ·rw [if_pos c3] at H
   have c3b0 := eq_true c3
   have c3b1 : decide (((l0_2.length : Int) : Int).toNat ≤ 281474976710656) = true := decide_eq_true c3
   clear c3
   obtain ⟨y103, hy103⟩ : ∃ y_ : List Int, y_ = (List.replicate ((l0_2.length : Int) : Int).toNat 0) := ⟨_, rfl⟩
   replace H : (impl_tray_turned.l0 k l0_2 (l0_2.length : Int) 0 a0_0 a0_1 l0_2 a0_1 a0_0 y103) = some (r1, r2, r3) := by first | (rw [hy103]; with_reducible exact H) | (have H2_ := (Option.bind_some _ _).symm.trans H; rw [hy103]; with_reducible exact H2_) | (have H2_ := (Option.bind_some _ _).symm.trans H; with_reducible exact H2_) | with_reducible exact H | (rw [hy103]; exact H) | exact H
   have Ny103 := Aside0.mk hy103
   clear hy103
   have H' := Aside0.mk H
   clear H
   go_enter Tryz.func78, Tryz.ntmps78
   try go_wp2_with (first | ((with_reducible refine gate_dst (N := 1) rfl ?_); refine box_event ?hg (N := 1) ?hd (cs := #[.int .i64 a0_0, .int .i64 a0_1, .slice A0_2 l0_2.length c0_2]) (t := 62) ?hr ?_; (case hd => rfl); (case hg => rfl); (case hr => exact aq23); intro gb101 hg w4 hbox hb; have n0_ := Aside0.mk (below_step aq0 hb); have n1_ := Aside0.mk (hbox); have n2_ := Aside0.mk ((by rw [hg]; exact (below_size aq0) : w.heap.size ≤ gb101)); have n3_ := Aside0.mk ((by rw [hg]; exact (below_size aq0) : w.heap.size ≤ gb101)); clear HB; have HB := n0_; have BK101 := n1_; have GW101 := n2_; have GE101 := n3_; clear n0_ n1_ n2_ n3_; clear hb hbox hg) | ((with_reducible refine gate_dst (N := 2) rfl ?_); refine box_event ?hg (N := 2) ?hd (cs := #[.int .i64 0, .int .i64 0, .slice none 0 0]) (t := 62) ?hr ?_; (case hd => rfl); (case hg => rfl); (case hr => exact aq23); intro gb102 hg w5 hbox hb; have n0_ := Aside0.mk (blk_below (g := gb101) (o := .cells #[.int .i64 a0_0, .int .i64 a0_1, .slice A0_2 l0_2.length c0_2] 62 (0, 0)) aq5 hb); have n1_ := Aside0.mk (below_step aq6 hb); have n2_ := Aside0.mk (hbox); have n3_ := Aside0.mk ((by rw [hg]; exact (below_size aq6) : w.heap.size ≤ gb102)); have n4_ := Aside0.mk ((by rw [hg]; exact (below_size aq6) : w.heap.size ≤ gb102)); have n5_ := Aside0.mk ((by rw [hg]; exact Nat.ne_of_lt (blk_lt (g := gb101) (o := .cells #[.int .i64 a0_0, .int .i64 a0_1, .slice A0_2 l0_2.length c0_2] 62 (0, 0)) aq5) : gb101 ≠ gb102)); have n6_ := Aside0.mk ((by rw [hg]; exact Nat.ne_of_gt (blk_lt (g := gb101) (o := .cells #[.int .i64 a0_0, .int .i64 a0_1, .slice A0_2 l0_2.length c0_2] 62 (0, 0)) aq5) : gb102 ≠ gb101)); clear BK101; clear HB; have BK101 := n0_; have HB := n1_; have BK102 := n2_; have GW102 := n3_; have GE102 := n4_; have NB101_102 := n5_; have NB102_101 := n6_; clear n0_ n1_ n2_ n3_ n4_ n5_ n6_; clear hb hbox hg))
   have n0_ := Aside0.mk (blk_drew BK101.out)
   have n1_ := Aside0.mk (blk_drew BK102.out)
   have n2_ := Aside0.mk (below_drew1 HB.out)
   clear BK101
   clear BK102
   clear HB
   have BK101 := n0_
   have BK102 := n1_
   have HB := n2_
   clear n0_ n1_ n2_
   refine start_ (n := 11) (S := fun w' => w'.cell? ⟨gb101, 0, none⟩ = some (.int .i64 a0_0) ∧ w'.cell? ⟨gb101, 1, none⟩ = some (.int .i64 a0_1) ∧ w'.cell? ⟨gb101, 2, none⟩ = some (.slice A0_2 l0_2.length c0_2)) (ds := []) #[false, false, false, false, false, false, false, false, false, false, false] (by kernel_rfl) rfl rfl ⟨(blk_cell BK101.out 0).trans rfl, (blk_cell BK101.out 1).trans rfl, (blk_cell BK101.out 2).trans rfl⟩ (fun hHeld => ?_); refine with_tabW impl_tray_turned.tab1 impl_tray_turned.bits1 (fun HT_ HW_ => ?_)
   generalize w5.drew = w6 at BK101 BK102 HB hHeld ⊢
   refine pure_ (i := 0) (N := some 6) (v := ?_) (a' := ?_) #[true, false, false, false, false, false, false, false, false, false, false] rfl rfl (any_of HT_.out (by kernel_rfl)) (fun _ _ _ h => h) (Or.inl ⟨by rfl, ?_⟩) ?_ ?_
   rotate_left
   ·intro w'
    go_simp
    with_reducible rfl
   rotate_left
   ·simp only [Act.put, List.setIfInBounds_toArray, List.set_cons_zero, List.set_cons_succ, i64_w, i32_w]
    rfl
   refine pure_ (i := 2) (N := some 8) (v := ?_) (a' := ?_) #[true, false, true, false, false, false, false, false, false, false, false] rfl rfl (any_of HT_.out (by kernel_rfl)) (fun _ _ _ h => h) (Or.inl ⟨by rfl, ?_⟩) ?_ ?_
   rotate_left
   ·intro w'
    go_simp
    with_reducible rfl
   rotate_left
   ·simp only [Act.put, List.setIfInBounds_toArray, List.set_cons_zero, List.set_cons_succ, i64_w, i32_w]
    rfl
   refine pure_ (i := 4) (N := some 10) (v := ?_) (a' := ?_) #[true, false, true, false, true, false, false, false, false, false, false] rfl rfl (any_of HT_.out (by kernel_rfl)) (fun _ _ _ h => h) (Or.inl ⟨by rfl, ?_⟩) ?_ ?_
   rotate_left
   ·intro w'
    go_simp
    with_reducible rfl
   rotate_left
   ·simp only [Act.put, List.setIfInBounds_toArray, List.set_cons_zero, List.set_cons_succ, i64_w, i32_w]
    rfl
   refine take_ (i := 1) (N := some 7) (v := ?_) (a' := ?_) #[true, true, true, false, true, false, false, false, false, false, false] rfl rfl (take_ofW HT_.out HW_.out (by kernel_rfl)) (fun _ _ _ h => h) (Or.inl ⟨by rfl, ?_⟩) hHeld ?_ ?_
   rotate_left
   ·rintro w' ⟨s0, s1, s2⟩
    go_simp
    with_reducible rfl
   rotate_left
   ·simp only [Act.put, List.setIfInBounds_toArray, List.set_cons_zero, List.set_cons_succ, i64_w, i32_w]
    rfl
   refine take_ (i := 3) (N := some 9) (v := ?_) (a' := ?_) #[true, true, true, true, true, false, false, false, false, false, false] rfl rfl (take_ofW HT_.out HW_.out (by kernel_rfl)) (fun _ _ _ h => h) (Or.inl ⟨by rfl, ?_⟩) hHeld ?_ ?_
   rotate_left
   ·rintro w' ⟨s0, s1, s2⟩
    go_simp
    with_reducible rfl
   rotate_left
   ·simp only [Act.put, List.setIfInBounds_toArray, List.set_cons_zero, List.set_cons_succ, i64_w, i32_w]
    rfl
   refine take_ (i := 5) (N := some 11) (v := ?_) (a' := ?_) #[true, true, true, true, true, true, false, false, false, false, false] rfl rfl (take_ofW HT_.out HW_.out (by kernel_rfl)) (fun _ _ _ h => h) (Or.inl ⟨by rfl, ?_⟩) hHeld ?_ ?_
   rotate_left
   ·rintro w' ⟨s0, s1, s2⟩
    go_simp
    with_reducible rfl
   rotate_left
   ·simp only [Act.put, List.setIfInBounds_toArray, List.set_cons_zero, List.set_cons_succ, i64_w, i32_w]
    rfl
   refine pure_ (i := 6) (N := some 12) (v := ?_) (a' := ?_) #[true, true, true, true, true, true, true, false, false, false, false] rfl rfl (any_of HT_.out (by kernel_rfl)) (fun _ _ _ h => h) (Or.inl ⟨by rfl, ?_⟩) ?_ ?_
   rotate_left
   ·intro w'
    go_simp
    with_reducible rfl
   rotate_left
   ·simp only [Act.put, List.setIfInBounds_toArray, List.set_cons_zero, List.set_cons_succ, i64_w, i32_w]
    rfl
   refine join_ (σ := Value × Nat) 1 #[true, true, true, true, true, true, true, true, true, true, false] (fun s_ => [(13, s_.1), (3, .pointer (some ⟨s_.2, 0, none⟩)), (14, .agg #[.int .i64 a0_1, .int .i64 a0_0, s_.1])]) (fun s_ w' => (w'.cell? ⟨gb101, 0, none⟩ = some (.int .i64 a0_0) ∧ w'.cell? ⟨gb101, 1, none⟩ = some (.int .i64 a0_1) ∧ w'.cell? ⟨gb101, 2, none⟩ = some (.slice A0_2 l0_2.length c0_2)) ∧ (Kd.R (Kd.int .u8) 5 w' w.heap.size (fun _ => True) s_.1 y103) ∧ (w'.heap[gb101]? = some (.cells #[.int .i64 a0_0, .int .i64 a0_1, .slice A0_2 l0_2.length c0_2] 62 (0, 0))) ∧ (w'.heap[gb102]? = some (.cells #[.int .i64 0, .int .i64 0, .slice none 0 0] 62 (0, 0))) ∧ (w'.heap[s_.2]? = some (.cells #[.int .i64 0, .int .i64 0, .slice none 0 0] 62 (0, 0))) ∧ (w.heap.size ≤ s_.2) ∧ (w.heap.size ≤ s_.2) ∧ (gb101 ≠ s_.2) ∧ (s_.2 ≠ gb101) ∧ (gb102 ≠ s_.2) ∧ (s_.2 ≠ gb102) ∧ (Below w.heap.size w w')) ?_ ?_
   rotate_left
   ·intro hCont
    refine two_ (i := 7) (j := 9) (Ni := some 13) (Nj := some 3) #[true, true, true, true, true, true, true, true, false, false, false] #[true, true, true, true, true, true, true, false, false, true, false] rfl rfl rfl rfl (two_of HT_.out (by kernel_rfl)) (by decide) (by decide) (fun K hK => ?_) (fun K hK => ?_)
    ·skip
     refine Kd.R_make_step (Kd.int .u8) _ 5 (by rfl) (N := 13) rfl 22 _ _ rfl (l0_2.length : Int) rfl rfl Tryz.underlying22 (.int .u8 0) 1 info5 rfl (by decide) (by omega) 0 (ok := fun _ => True) (okp := fun _ => True) rfl (fun _ hk => hk) trivial (of_decide_eq_true aq9) (Nat.le_trans (Nat.mul_le_mul_right _ (of_decide_eq_true aq9 : (l0_2.length : Int).toNat ≤ 281474976710656)) (by omega)) (Below.refl _ _) (Nat.le_refl _) ?_
     intro v104 w7 ho8 hb hg_ hnew_
     clear hg_ hnew_
     (first | rw [← Ny103.out] at ho8 | (simp only [Int.reduceToNat] at ho8; rw [← Ny103.out] at ho8))
     have n0_ := Aside0.mk (Kd.R_lower ho8 (below_size aq7))
     have n1_ := Aside0.mk (blk_below (g := gb101) (o := .cells #[.int .i64 a0_0, .int .i64 a0_1, .slice A0_2 l0_2.length c0_2] 62 (0, 0)) aq5 hb)
     have n2_ := Aside0.mk (blk_below (g := gb102) (o := .cells #[.int .i64 0, .int .i64 0, .slice none 0 0] 62 (0, 0)) aq14 hb)
     have n3_ := Aside0.mk (below_step aq7 hb)
     clear BK101
     clear BK102
     clear HB
     have HO105 := n0_
     have BK101 := n1_
     have BK102 := n2_
     have HB := n3_
     clear n0_ n1_ n2_ n3_
     clear hb ho8
     obtain ⟨Ao9, co9, eo9⟩ := Kd.R_slice HO105.out
     (first | subst eo9 | (injection eo9 with f1_ f2_ f3_; have f4_ := f1_.symm; have f5_ := f3_.symm; clear f1_ f2_ f3_; subst f4_; subst f5_))
     refine hK.out _ _ ⟨(blk_cell BK101.out 0).trans rfl, (blk_cell BK101.out 1).trans rfl, (blk_cell BK101.out 2).trans rfl⟩ (fun hHeld => ?_)
     clear hK K
     refine norm_ (a' := ?_) ?_ ?_
     rotate_left
     ·show Act.put _ (some 13) _ = _
      simp only [Act.put, List.setIfInBounds_toArray, List.set_cons_zero, List.set_cons_succ, i64_w, i32_w]
      rfl
     refine pure_ (i := 8) (N := some 14) (v := ?_) (a' := ?_) #[true, true, true, true, true, true, true, true, true, false, false] rfl rfl (any_of HT_.out (by kernel_rfl)) (fun _ _ _ h => h) (Or.inl ⟨by rfl, ?_⟩) ?_ ?_
     rotate_left
     ·intro w'
      go_simp
      with_reducible rfl
     rotate_left
     ·simp only [Act.put, List.setIfInBounds_toArray, List.set_cons_zero, List.set_cons_succ, i64_w, i32_w]
      rfl
     refine one_ (i := 9) (N := some 3) #[true, true, true, true, true, true, true, true, true, true, false] rfl rfl (one_of HT_.out (by kernel_rfl)) (by decide) (fun K hK => ?_)
     refine box_step ?hg (N := 3) ?hd (cs := #[.int .i64 0, .int .i64 0, .slice none 0 0]) (t := 62) ?hr ?_; (case hd => rfl); (case hg => rfl); (case hr => exact aq23)
     intro gb106 hg w10 hbox hb
     have n0_ := Aside0.mk (Kd.R_below aq15 hb)
     have n1_ := Aside0.mk (blk_below (g := gb101) (o := .cells #[.int .i64 a0_0, .int .i64 a0_1, .slice A0_2 l0_2.length c0_2] 62 (0, 0)) aq5 hb)
     have n2_ := Aside0.mk (blk_below (g := gb102) (o := .cells #[.int .i64 0, .int .i64 0, .slice none 0 0] 62 (0, 0)) aq14 hb)
     have n3_ := Aside0.mk (below_step aq7 hb)
     have n4_ := Aside0.mk (hbox)
     have n5_ := Aside0.mk ((by rw [hg]; exact (below_size aq7) : w.heap.size ≤ gb106))
     have n6_ := Aside0.mk ((by rw [hg]; exact (below_size aq7) : w.heap.size ≤ gb106))
     have n7_ := Aside0.mk ((by rw [hg]; exact Nat.ne_of_lt (blk_lt (g := gb101) (o := .cells #[.int .i64 a0_0, .int .i64 a0_1, .slice A0_2 l0_2.length c0_2] 62 (0, 0)) aq5) : gb101 ≠ gb106))
     have n8_ := Aside0.mk ((by rw [hg]; exact Nat.ne_of_gt (blk_lt (g := gb101) (o := .cells #[.int .i64 a0_0, .int .i64 a0_1, .slice A0_2 l0_2.length c0_2] 62 (0, 0)) aq5) : gb106 ≠ gb101))
     have n9_ := Aside0.mk ((by rw [hg]; exact Nat.ne_of_lt (blk_lt (g := gb102) (o := .cells #[.int .i64 0, .int .i64 0, .slice none 0 0] 62 (0, 0)) aq14) : gb102 ≠ gb106))
     have n10_ := Aside0.mk ((by rw [hg]; exact Nat.ne_of_gt (blk_lt (g := gb102) (o := .cells #[.int .i64 0, .int .i64 0, .slice none 0 0] 62 (0, 0)) aq14) : gb106 ≠ gb102))
     clear HO105
     clear BK101
     clear BK102
     clear HB
     have HO105 := n0_
     have BK101 := n1_
     have BK102 := n2_
     have HB := n3_
     have BK106 := n4_
     have GW106 := n5_
     have GE106 := n6_
     have NB101_106 := n7_
     have NB106_101 := n8_
     have NB102_106 := n9_
     have NB106_102 := n10_
     clear n0_ n1_ n2_ n3_ n4_ n5_ n6_ n7_ n8_ n9_ n10_
     clear hb hbox hg
     refine hK.out _ _ ⟨(blk_cell BK101.out 0).trans rfl, (blk_cell BK101.out 1).trans rfl, (blk_cell BK101.out 2).trans rfl⟩ (fun hHeld => ?_)
     clear hK K
     refine norm_ (a' := ?_) ?_ ?_
     rotate_left
     ·show Act.put _ (some 3) _ = _
      simp only [Act.put, List.setIfInBounds_toArray, List.set_cons_zero, List.set_cons_succ, i64_w, i32_w]
      rfl
     exact norm_ (by simp only [putAll, Act.put, List.setIfInBounds_toArray, List.set_cons_zero, List.set_cons_succ]) (hCont (.slice Ao9 y103.length co9, gb106) _ ⟨hHeld, aq15, aq5, aq14, aq69, GW106.out, GE106.out, NB101_106.out, NB106_101.out, NB102_106.out, NB106_102.out, aq31⟩)
    ·skip
     refine box_step ?hg (N := 3) ?hd (cs := #[.int .i64 0, .int .i64 0, .slice none 0 0]) (t := 62) ?hr ?_; (case hd => rfl); (case hg => rfl); (case hr => exact aq23)
     intro gb106 hg w7 hbox hb
     have n0_ := Aside0.mk (blk_below (g := gb101) (o := .cells #[.int .i64 a0_0, .int .i64 a0_1, .slice A0_2 l0_2.length c0_2] 62 (0, 0)) aq5 hb)
     have n1_ := Aside0.mk (blk_below (g := gb102) (o := .cells #[.int .i64 0, .int .i64 0, .slice none 0 0] 62 (0, 0)) aq14 hb)
     have n2_ := Aside0.mk (below_step aq7 hb)
     have n3_ := Aside0.mk (hbox)
     have n4_ := Aside0.mk ((by rw [hg]; exact (below_size aq7) : w.heap.size ≤ gb106))
     have n5_ := Aside0.mk ((by rw [hg]; exact (below_size aq7) : w.heap.size ≤ gb106))
     have n6_ := Aside0.mk ((by rw [hg]; exact Nat.ne_of_lt (blk_lt (g := gb101) (o := .cells #[.int .i64 a0_0, .int .i64 a0_1, .slice A0_2 l0_2.length c0_2] 62 (0, 0)) aq5) : gb101 ≠ gb106))
     have n7_ := Aside0.mk ((by rw [hg]; exact Nat.ne_of_gt (blk_lt (g := gb101) (o := .cells #[.int .i64 a0_0, .int .i64 a0_1, .slice A0_2 l0_2.length c0_2] 62 (0, 0)) aq5) : gb106 ≠ gb101))
     have n8_ := Aside0.mk ((by rw [hg]; exact Nat.ne_of_lt (blk_lt (g := gb102) (o := .cells #[.int .i64 0, .int .i64 0, .slice none 0 0] 62 (0, 0)) aq14) : gb102 ≠ gb106))
     have n9_ := Aside0.mk ((by rw [hg]; exact Nat.ne_of_gt (blk_lt (g := gb102) (o := .cells #[.int .i64 0, .int .i64 0, .slice none 0 0] 62 (0, 0)) aq14) : gb106 ≠ gb102))
     clear BK101
     clear BK102
     clear HB
     have BK101 := n0_
     have BK102 := n1_
     have HB := n2_
     have BK106 := n3_
     have GW106 := n4_
     have GE106 := n5_
     have NB101_106 := n6_
     have NB106_101 := n7_
     have NB102_106 := n8_
     have NB106_102 := n9_
     clear n0_ n1_ n2_ n3_ n4_ n5_ n6_ n7_ n8_ n9_
     clear hb hbox hg
     refine hK.out _ _ ⟨(blk_cell BK101.out 0).trans rfl, (blk_cell BK101.out 1).trans rfl, (blk_cell BK101.out 2).trans rfl⟩ (fun hHeld => ?_)
     clear hK K
     refine norm_ (a' := ?_) ?_ ?_
     rotate_left
     ·show Act.put _ (some 3) _ = _
      simp only [Act.put, List.setIfInBounds_toArray, List.set_cons_zero, List.set_cons_succ, i64_w, i32_w]
      rfl
     refine one_ (i := 7) (N := some 13) #[true, true, true, true, true, true, true, true, false, true, false] rfl rfl (one_of HT_.out (by kernel_rfl)) (by decide) (fun K hK => ?_)
     refine Kd.R_make_step (Kd.int .u8) _ 5 (by rfl) (N := 13) rfl 22 _ _ rfl (l0_2.length : Int) rfl rfl Tryz.underlying22 (.int .u8 0) 1 info5 rfl (by decide) (by omega) 0 (ok := fun _ => True) (okp := fun _ => True) rfl (fun _ hk => hk) trivial (of_decide_eq_true aq9) (Nat.le_trans (Nat.mul_le_mul_right _ (of_decide_eq_true aq9 : (l0_2.length : Int).toNat ≤ 281474976710656)) (by omega)) (Below.refl _ _) (Nat.le_refl _) ?_
     intro v104 w8 ho9 hb hg_ hnew_
     clear hg_ hnew_
     (first | rw [← Ny103.out] at ho9 | (simp only [Int.reduceToNat] at ho9; rw [← Ny103.out] at ho9))
     have n0_ := Aside0.mk (Kd.R_lower ho9 (below_size aq31))
     have n1_ := Aside0.mk (blk_below (g := gb101) (o := .cells #[.int .i64 a0_0, .int .i64 a0_1, .slice A0_2 l0_2.length c0_2] 62 (0, 0)) aq5 hb)
     have n2_ := Aside0.mk (blk_below (g := gb102) (o := .cells #[.int .i64 0, .int .i64 0, .slice none 0 0] 62 (0, 0)) aq14 hb)
     have n3_ := Aside0.mk (blk_below (g := gb106) (o := .cells #[.int .i64 0, .int .i64 0, .slice none 0 0] 62 (0, 0)) aq69 hb)
     have n4_ := Aside0.mk (below_step aq31 hb)
     clear BK101
     clear BK102
     clear BK106
     clear HB
     have HO105 := n0_
     have BK101 := n1_
     have BK102 := n2_
     have BK106 := n3_
     have HB := n4_
     clear n0_ n1_ n2_ n3_ n4_
     clear hb ho9
     obtain ⟨Ao10, co10, eo10⟩ := Kd.R_slice HO105.out
     (first | subst eo10 | (injection eo10 with f1_ f2_ f3_; have f4_ := f1_.symm; have f5_ := f3_.symm; clear f1_ f2_ f3_; subst f4_; subst f5_))
     refine hK.out _ _ ⟨(blk_cell BK101.out 0).trans rfl, (blk_cell BK101.out 1).trans rfl, (blk_cell BK101.out 2).trans rfl⟩ (fun hHeld => ?_)
     clear hK K
     refine norm_ (a' := ?_) ?_ ?_
     rotate_left
     ·show Act.put _ (some 13) _ = _
      simp only [Act.put, List.setIfInBounds_toArray, List.set_cons_zero, List.set_cons_succ, i64_w, i32_w]
      rfl
     refine pure_ (i := 8) (N := some 14) (v := ?_) (a' := ?_) #[true, true, true, true, true, true, true, true, true, true, false] rfl rfl (any_of HT_.out (by kernel_rfl)) (fun _ _ _ h => h) (Or.inl ⟨by rfl, ?_⟩) ?_ ?_
     rotate_left
     ·intro w'
      go_simp
      with_reducible rfl
     rotate_left
     ·simp only [Act.put, List.setIfInBounds_toArray, List.set_cons_zero, List.set_cons_succ, i64_w, i32_w]
      rfl
     exact norm_ (by simp only [putAll, Act.put, List.setIfInBounds_toArray, List.set_cons_zero, List.set_cons_succ]) (hCont (.slice Ao10 y103.length co10, gb106) _ ⟨hHeld, aq15, aq5, aq14, aq69, GW106.out, GE106.out, NB101_106.out, NB106_101.out, NB102_106.out, NB106_102.out, aq31⟩)
   rintro ⟨v104, gb106⟩ w11 ⟨hS_, h0_, h1_, h2_, h3_, h4_, h5_, h6_, h7_, h8_, h9_, h10_⟩
   have n0_ : Aside0 (Kd.R (Kd.int .u8) 5 w11 w.heap.size (fun _ => True) v104 y103) := ⟨h0_⟩
   have n1_ : Aside0 (w11.heap[gb101]? = some (.cells #[.int .i64 a0_0, .int .i64 a0_1, .slice A0_2 l0_2.length c0_2] 62 (0, 0))) := ⟨h1_⟩
   have n2_ : Aside0 (w11.heap[gb102]? = some (.cells #[.int .i64 0, .int .i64 0, .slice none 0 0] 62 (0, 0))) := ⟨h2_⟩
   have n3_ : Aside0 (w11.heap[gb106]? = some (.cells #[.int .i64 0, .int .i64 0, .slice none 0 0] 62 (0, 0))) := ⟨h3_⟩
   have n4_ : Aside0 (w.heap.size ≤ gb106) := ⟨h4_⟩
   have n5_ : Aside0 (w.heap.size ≤ gb106) := ⟨h5_⟩
   have n6_ : Aside0 (gb101 ≠ gb106) := ⟨h6_⟩
   have n7_ : Aside0 (gb106 ≠ gb101) := ⟨h7_⟩
   have n8_ : Aside0 (gb102 ≠ gb106) := ⟨h8_⟩
   have n9_ : Aside0 (gb106 ≠ gb102) := ⟨h9_⟩
   have n10_ : Aside0 (Below w.heap.size w w11) := ⟨h10_⟩
   clear BK101
   clear BK102
   clear HB
   clear h0_ h1_ h2_ h3_ h4_ h5_ h6_ h7_ h8_ h9_ h10_
   have HO105 := n0_
   have BK101 := n1_
   have BK102 := n2_
   have BK106 := n3_
   have GW106 := n4_
   have GE106 := n5_
   have NB101_106 := n6_
   have NB106_101 := n7_
   have NB102_106 := n8_
   have NB106_102 := n9_
   have HB := n10_
   clear n0_ n1_ n2_ n3_ n4_ n5_ n6_ n7_ n8_ n9_ n10_
   have hHeld : w11.cell? ⟨gb101, 0, none⟩ = some (.int .i64 a0_0) ∧ w11.cell? ⟨gb101, 1, none⟩ = some (.int .i64 a0_1) ∧ w11.cell? ⟨gb101, 2, none⟩ = some (.slice A0_2 l0_2.length c0_2) := hS_
   obtain ⟨Ao12, co12, eo12⟩ := Kd.R_slice HO105.out
   (first | subst eo12 | (injection eo12 with f1_ f2_ f3_; have f4_ := f1_.symm; have f5_ := f3_.symm; clear f1_ f2_ f3_; subst f4_; subst f5_))
   refine norm_ (a' := ?_) ?_ ?_
   rotate_left
   ·simp only [putAll, Act.put, List.setIfInBounds_toArray, List.set_cons_zero, List.set_cons_succ]
    rfl
   refine one_ (i := 10) (N := none) #[true, true, true, true, true, true, true, true, true, true, true] rfl rfl (one_of HT_.out (by kernel_rfl)) (by decide) (fun K hK => ?_)
   have hs13 : w11.cell? ⟨gb106, 0, none⟩ = some (.int .i64 0) := (blk_cell BK106.out 0).trans rfl
   have hfs13 := blk_frozen BK106.out 0
   have hns13_0 := NB101_106.out
   have hns13_1 := NB102_106.out
   have hms13_0 := NB106_101.out
   have hms13_1 := NB106_102.out
   have hs14 : w11.cell? ⟨gb106, 1, none⟩ = some (.int .i64 0) := (blk_cell BK106.out 1).trans rfl
   have hfs14 := blk_frozen BK106.out 1
   have hns14_0 := NB101_106.out
   have hns14_1 := NB102_106.out
   have hms14_0 := NB106_101.out
   have hms14_1 := NB106_102.out
   have hs15 : w11.cell? ⟨gb106, 2, none⟩ = some (.slice none 0 0) := (blk_cell BK106.out 2).trans rfl
   have hfs15 := blk_frozen BK106.out 2
   have hns15_0 := NB101_106.out
   have hns15_1 := NB102_106.out
   have hms15_0 := NB106_101.out
   have hms15_1 := NB106_102.out
   refine skip_ (w1 := ?_) (by rfl) rfl ?_ ?_
   rotate_left
   ·go_simp
    rfl
   refine hK.out _ _ ⟨((cell_far (p := ⟨gb106, _, none⟩) NB101_106.out _).trans (((cell_far (p := ⟨gb106, _, none⟩) NB101_106.out _).trans (((cell_far (p := ⟨gb106, _, none⟩) NB101_106.out _).trans (hHeld.1)))))), ((cell_far (p := ⟨gb106, _, none⟩) NB101_106.out _).trans (((cell_far (p := ⟨gb106, _, none⟩) NB101_106.out _).trans (((cell_far (p := ⟨gb106, _, none⟩) NB101_106.out _).trans (hHeld.2.1)))))), ((cell_far (p := ⟨gb106, _, none⟩) NB101_106.out _).trans (((cell_far (p := ⟨gb106, _, none⟩) NB101_106.out _).trans (((cell_far (p := ⟨gb106, _, none⟩) NB101_106.out _).trans (hHeld.2.2))))))⟩ (fun hHeld => ?_)
   clear hK K
   refine done_ (done_of HT_.out (by kernel_rfl)) ?_
   have hnb16 := NB101_102.out
   have hnc16 := NB102_101.out
   have hnb17 := NB101_106.out
   have hnc17 := NB106_101.out
   have hcz18_0 : w11.cell? ⟨gb101, 0, none⟩ = some (.int .i64 a0_0) := (blk_cell BK101.out 0).trans rfl
   have hcz18_1 : w11.cell? ⟨gb101, 1, none⟩ = some (.int .i64 a0_1) := (blk_cell BK101.out 1).trans rfl
   have hcz18_2 : w11.cell? ⟨gb101, 2, none⟩ = some (.slice A0_2 l0_2.length c0_2) := (blk_cell BK101.out 2).trans rfl
   have hfz18_0 := blk_frozen BK101.out 0
   have hfz18_1 := blk_frozen BK101.out 1
   have hfz18_2 := blk_frozen BK101.out 2
   try go_wp2
   go_loopg [18] k (fun kq v18 w' => ∃ (x18_1 : Int) (x107002_1 : List Int) (u107002 : Value), v18 = .int .i64 x18_1 ∧ Aside0 (impl_tray_turned.l0 kq l0_2 (l0_2.length : Int) x18_1 a0_0 a0_1 l0_2 a0_1 a0_0 x107002_1 = some (r1, r2, r3)) ∧ Aside0 (kq ≤ k) ∧ Aside0 (Kd.R (Kd.int .u8) 5 w' w.heap.size (fun _ => True) u107002 x107002_1) ∧ Aside0 (w'.heap[gb101]? = some (.cells #[.int .i64 a0_0, .int .i64 a0_1, (.slice A0_2 l0_2.length c0_2)] 62 (0, 0))) ∧ Aside0 (w'.heap[gb102]? = some (.cells #[.int .i64 0, .int .i64 0, (.slice none 0 0)] 62 (0, 0))) ∧ Aside0 (w'.heap[gb106]? = some (.cells #[.int .i64 a0_1, .int .i64 a0_0, u107002] 62 (0, 0))) ∧ Aside0 (Below w.heap.size w w'))
   case atStart => exact ⟨(0), (y103), (.slice Ao12 y103.length co12), aq11, H', ⟨Nat.le_refl _⟩, ⟨by (with_reducible repeat (first | apply Kd.R_alloc | apply Kd.R_drewN | apply Kd.R_drew)); exact Kd.R_mono (Kd.R_far (p := ⟨gb106, 2, none⟩) (Kd.R_far (p := ⟨gb106, 1, none⟩) (Kd.R_far (p := ⟨gb106, 0, none⟩) (Kd.R_types HO105.out BK106.out (by decide)) (fun _ hk => hk.2) (.int .i64 a0_1)) (fun _ hk => hk.2) (.int .i64 a0_0)) (fun _ hk => hk.2) (.slice Ao12 y103.length co12)) (fun _ hk => trivial)⟩, ⟨by (with_reducible repeat (first | refine blk_drewN ?_ _ | refine blk_drew ?_ | refine blk_alloc ?_ _)); refine blk_far ?_ NB101_106.out _; (with_reducible repeat (first | refine blk_drewN ?_ _ | refine blk_drew ?_ | refine blk_alloc ?_ _)); refine blk_far ?_ NB101_106.out _; (with_reducible repeat (first | refine blk_drewN ?_ _ | refine blk_drew ?_ | refine blk_alloc ?_ _)); refine blk_far ?_ NB101_106.out _; (with_reducible repeat (first | refine blk_drewN ?_ _ | refine blk_drew ?_ | refine blk_alloc ?_ _)); exact BK101.out⟩, ⟨by (with_reducible repeat (first | refine blk_drewN ?_ _ | refine blk_drew ?_ | refine blk_alloc ?_ _)); refine blk_far ?_ NB102_106.out _; (with_reducible repeat (first | refine blk_drewN ?_ _ | refine blk_drew ?_ | refine blk_alloc ?_ _)); refine blk_far ?_ NB102_106.out _; (with_reducible repeat (first | refine blk_drewN ?_ _ | refine blk_drew ?_ | refine blk_alloc ?_ _)); refine blk_far ?_ NB102_106.out _; (with_reducible repeat (first | refine blk_drewN ?_ _ | refine blk_drew ?_ | refine blk_alloc ?_ _)); exact BK102.out⟩, ⟨by (with_reducible repeat (first | refine blk_drewN ?_ _ | refine blk_drew ?_ | refine blk_alloc ?_ _)); refine blk_put (cs := #[.int .i64 a0_1, .int .i64 a0_0, .slice none 0 0]) ?_ 2 _ rfl; (with_reducible repeat (first | refine blk_drewN ?_ _ | refine blk_drew ?_ | refine blk_alloc ?_ _)); refine blk_put (cs := #[.int .i64 a0_1, .int .i64 0, .slice none 0 0]) ?_ 1 _ rfl; (with_reducible repeat (first | refine blk_drewN ?_ _ | refine blk_drew ?_ | refine blk_alloc ?_ _)); refine blk_put (cs := #[.int .i64 0, .int .i64 0, .slice none 0 0]) ?_ 0 _ rfl; (with_reducible repeat (first | refine blk_drewN ?_ _ | refine blk_drew ?_ | refine blk_alloc ?_ _)); exact BK106.out⟩, ⟨aq31⟩⟩
   case round =>
    clear H'
    try clear c1
    try clear c2
    try clear c2b0
    try clear c2b1
    try clear p2
    try clear c3
    try clear c3b0
    try clear c3b1
    try clear c7
    try clear c16
    try clear c17
    try clear hcz18_0
    try clear hcz18_1
    try clear hcz18_2
    try clear hfz18_0
    try clear hfz18_1
    try clear hfz18_2
    obtain ⟨x18_1, x107002_1, u107002, rfl, HA, HK1, HO_107002, BK101, BK102, BK106, HB⟩ := hrel
    cases gk with
    | zero => exact absurd HA.out (by simp [impl_tray_turned.l0])
    | succ k1 =>
     have H := HA.out
     clear HA
     simp only [impl_tray_turned.l0] at H
     by_cases c19 : x18_1 < (l0_2.length : Int)
     ·rw [if_pos c19] at H
      have c19b0 : decide (x18_1 < (l0_2.length : Int)) = true := decide_eq_true c19
      clear c19
      by_cases c20 : 0 ≤ x18_1
      ·rw [if_pos c20] at H
       have c20b0 : decide (0 ≤ x18_1) = true := decide_eq_true c20
       clear c20
       by_cases c21 : x18_1 < (l0_2.length : Int)
       ·rw [if_pos c21] at H
        have c21b0 : decide (x18_1 < (l0_2.length : Int)) = true := decide_eq_true c21
        clear c21
        by_cases c22 : a0_0 = 0
        ·rw [if_pos c22] at H
         exact absurd H (by simp)
        ·rw [if_neg c22] at H
         have c22b0 : (a0_0 == 0) = false := beq_eq_false_iff_ne.mpr c22
         have c22b1 : (a0_0 != 0) = true := bne_iff_ne.mpr c22
         replace H := Option.bind_eq_some_iff.mp H
         obtain ⟨t108, A230, H⟩ := H
         replace H : (if 0 ≤ t108 then (if t108 < (x107002_1.length : Int) then (impl_tray_turned.l0 k1 l0_2 (l0_2.length : Int) (wrap64 (x18_1 + 1)) a0_0 a0_1 l0_2 a0_1 a0_0 (x107002_1.set (t108 : Int).toNat (rd l0_2 x18_1))) else (none)) else (none)) = some (r1, r2, r3) := H
         have A23 := Aside0.mk A230
         clear A230
         by_cases c24 : 0 ≤ t108
         ·rw [if_pos c24] at H
          have c24b0 : decide (0 ≤ t108) = true := decide_eq_true c24
          clear c24
          by_cases c25 : t108 < (x107002_1.length : Int)
          ·rw [if_pos c25] at H
           have c25b0 : decide (t108 < (x107002_1.length : Int)) = true := decide_eq_true c25
           clear c25
           obtain ⟨y109, hy109⟩ : ∃ y_ : List Int, y_ = (x107002_1.set (t108 : Int).toNat (rd l0_2 x18_1)) := ⟨_, rfl⟩
           replace H : (impl_tray_turned.l0 k1 l0_2 (l0_2.length : Int) (wrap64 (x18_1 + 1)) a0_0 a0_1 l0_2 a0_1 a0_0 y109) = some (r1, r2, r3) := by first | (rw [hy109]; with_reducible exact H) | (have H2_ := (Option.bind_some _ _).symm.trans H; rw [hy109]; with_reducible exact H2_) | (have H2_ := (Option.bind_some _ _).symm.trans H; with_reducible exact H2_) | with_reducible exact H | (rw [hy109]; exact H) | exact H
           have Ny109 := Aside0.mk hy109
           clear hy109
           have H' := Aside0.mk H
           clear H
           have p107 : 0 ≤ (x18_1 : Int) := of_decide_eq_true aq9
           have q107 : x18_1 < (l0_2.length : Int) := of_decide_eq_true aq9
           obtain ⟨ad107, e107, hx107_0⟩ := Kd.at_int HR0_2.out x18_1 p107 q107
           cases e107
           try replace hx107_0 := (HB.out.cell (World.block_lt_of_cell? w _ hx107_0)).trans hx107_0
           replace p107 := eq_true p107
           replace q107 := eq_true q107
           try go_wp2
           have n0_ := Aside0.mk (Kd.R_drew HO_107002.out)
           have n1_ := Aside0.mk (blk_drew BK101.out)
           have n2_ := Aside0.mk (blk_drew BK102.out)
           have n3_ := Aside0.mk (blk_drew BK106.out)
           have n4_ := Aside0.mk (below_drew1 HB.out)
           clear HO_107002
           clear BK101
           clear BK102
           clear BK106
           clear HB
           have HO_107002 := n0_
           have BK101 := n1_
           have BK102 := n2_
           have BK106 := n3_
           have HB := n4_
           clear n0_ n1_ n2_ n3_ n4_
           obtain ⟨Ao28, co28, eo28⟩ := Kd.R_slice HO_107002.out
           (first | subst eo28 | (injection eo28 with f1_ f2_ f3_; have f4_ := f1_.symm; have f5_ := f3_.symm; clear f1_ f2_ f3_; subst f4_; subst f5_))
           refine start_ (n := 19) (S := fun w' => w'.cell? ⟨gb106, 0, none⟩ = some (.int .i64 a0_1) ∧ w'.cell? ⟨gb106, 1, none⟩ = some (.int .i64 a0_0) ∧ w'.cell? ⟨gb106, 2, none⟩ = some (.slice Ao28 x107002_1.length co28) ∧ w'.cell? ⟨gb101, 0, none⟩ = some (.int .i64 a0_0) ∧ w'.cell? ⟨gb101, 1, none⟩ = some (.int .i64 a0_1) ∧ w'.cell? ⟨gb101, 2, none⟩ = some (.slice (some ad107) l0_2.length c0_2)) (ds := [18]) #[false, false, false, false, false, false, false, false, false, false, false, false, false, false, false, false, false, false, false] (by kernel_rfl) rfl rfl ⟨(blk_cell BK106.out 0).trans rfl, (blk_cell BK106.out 1).trans rfl, (blk_cell BK106.out 2).trans rfl, (blk_cell BK101.out 0).trans rfl, (blk_cell BK101.out 1).trans rfl, (blk_cell BK101.out 2).trans rfl⟩ (fun hHeld => ?_); refine with_tabW impl_tray_turned.tab5 impl_tray_turned.bits5 (fun HT_ HW_ => ?_)
           generalize wr.drew = w27 at HO_107002 BK101 BK102 BK106 HB hHeld ⊢
           refine pure_ (i := 0) (N := some 23) (v := ?_) (a' := ?_) #[true, false, false, false, false, false, false, false, false, false, false, false, false, false, false, false, false, false, false] rfl rfl (any_of HT_.out (by kernel_rfl)) (fun _ _ _ h => h) (Or.inl ⟨by rfl, ?_⟩) ?_ ?_
           rotate_left
           ·intro w'
            go_simp
            with_reducible rfl
           rotate_left
           ·simp only [Act.put, List.setIfInBounds_toArray, List.set_cons_zero, List.set_cons_succ, i64_w, i32_w]
            rfl
           refine pure_ (i := 3) (N := some 26) (v := ?_) (a' := ?_) #[true, false, false, true, false, false, false, false, false, false, false, false, false, false, false, false, false, false, false] rfl rfl (any_of HT_.out (by kernel_rfl)) (fun _ _ _ h => h) (Or.inl ⟨by rfl, ?_⟩) ?_ ?_
           rotate_left
           ·intro w'
            go_simp
            with_reducible rfl
           rotate_left
           ·simp only [Act.put, List.setIfInBounds_toArray, List.set_cons_zero, List.set_cons_succ, i64_w, i32_w]
            rfl
           refine pure_ (i := 6) (N := some 29) (v := ?_) (a' := ?_) #[true, false, false, true, false, false, true, false, false, false, false, false, false, false, false, false, false, false, false] rfl rfl (any_of HT_.out (by kernel_rfl)) (fun _ _ _ h => h) (Or.inl ⟨by rfl, ?_⟩) ?_ ?_
           rotate_left
           ·intro w'
            go_simp
            with_reducible rfl
           rotate_left
           ·simp only [Act.put, List.setIfInBounds_toArray, List.set_cons_zero, List.set_cons_succ, i64_w, i32_w]
            rfl
           refine pure_ (i := 7) (N := some 30) (v := ?_) (a' := ?_) #[true, false, false, true, false, false, true, true, false, false, false, false, false, false, false, false, false, false, false] rfl rfl (any_of HT_.out (by kernel_rfl)) (fun _ _ _ h => h) (Or.inl ⟨by rfl, ?_⟩) ?_ ?_
           rotate_left
           ·intro w'
            go_simp
            with_reducible rfl
           rotate_left
           ·simp only [Act.put, List.setIfInBounds_toArray, List.set_cons_zero, List.set_cons_succ, i64_w, i32_w]
            rfl
           refine pure_ (i := 11) (N := some 34) (v := ?_) (a' := ?_) #[true, false, false, true, false, false, true, true, false, false, false, true, false, false, false, false, false, false, false] rfl rfl (any_of HT_.out (by kernel_rfl)) (fun _ _ _ h => h) (Or.inl ⟨by rfl, ?_⟩) ?_ ?_
           rotate_left
           ·intro w'
            go_simp
            with_reducible rfl
           rotate_left
           ·simp only [Act.put, List.setIfInBounds_toArray, List.set_cons_zero, List.set_cons_succ, i64_w, i32_w]
            rfl
           refine pure_ (i := 12) (N := some 35) (v := ?_) (a' := ?_) #[true, false, false, true, false, false, true, true, false, false, false, true, true, false, false, false, false, false, false] rfl rfl (any_of HT_.out (by kernel_rfl)) (fun _ _ _ h => h) (Or.inl ⟨by rfl, ?_⟩) ?_ ?_
           rotate_left
           ·intro w'
            go_simp
            with_reducible rfl
           rotate_left
           ·simp only [Act.put, List.setIfInBounds_toArray, List.set_cons_zero, List.set_cons_succ, i64_w, i32_w]
            rfl
           refine pure_ (i := 16) (N := some 39) (v := ?_) (a' := ?_) #[true, false, false, true, false, false, true, true, false, false, false, true, true, false, false, false, true, false, false] rfl rfl (any_of HT_.out (by kernel_rfl)) (fun _ _ _ h => h) (Or.inl ⟨by rfl, ?_⟩) ?_ ?_
           rotate_left
           ·intro w'
            go_simp
            with_reducible rfl
           rotate_left
           ·simp only [Act.put, List.setIfInBounds_toArray, List.set_cons_zero, List.set_cons_succ, i64_w, i32_w]
            rfl
           refine take_ (i := 1) (N := some 24) (v := ?_) (a' := ?_) #[true, true, false, true, false, false, true, true, false, false, false, true, true, false, false, false, true, false, false] rfl rfl (take_ofW HT_.out HW_.out (by kernel_rfl)) (fun _ _ _ h => h) (Or.inl ⟨by rfl, ?_⟩) hHeld ?_ ?_
           rotate_left
           ·rintro w' ⟨s0, s1, s2, s3, s4, s5⟩
            go_simp
            with_reducible rfl
           rotate_left
           ·simp only [Act.put, List.setIfInBounds_toArray, List.set_cons_zero, List.set_cons_succ, i64_w, i32_w]
            rfl
           refine take_ (i := 2) (N := some 25) (v := ?_) (a' := ?_) #[true, true, true, true, false, false, true, true, false, false, false, true, true, false, false, false, true, false, false] rfl rfl (take_ofW HT_.out HW_.out (by kernel_rfl)) (fun _ _ _ h => h) (Or.inl ⟨by rfl, ?_⟩) hHeld ?_ ?_
           rotate_left
           ·rintro w' ⟨s0, s1, s2, s3, s4, s5⟩
            go_simp
            with_reducible rfl
           rotate_left
           ·simp only [Act.put, List.setIfInBounds_toArray, List.set_cons_zero, List.set_cons_succ, i64_w, i32_w]
            rfl
           refine take_ (i := 4) (N := some 27) (v := ?_) (a' := ?_) #[true, true, true, true, true, false, true, true, false, false, false, true, true, false, false, false, true, false, false] rfl rfl (take_ofW HT_.out HW_.out (by kernel_rfl)) (fun _ _ _ h => h) (Or.inl ⟨by rfl, ?_⟩) hHeld ?_ ?_
           rotate_left
           ·rintro w' ⟨s0, s1, s2, s3, s4, s5⟩
            go_simp
            with_reducible rfl
           rotate_left
           ·simp only [Act.put, List.setIfInBounds_toArray, List.set_cons_zero, List.set_cons_succ, i64_w, i32_w]
            rfl
           refine pure_ (i := 5) (N := some 28) (v := ?_) (a' := ?_) #[true, true, true, true, true, true, true, true, false, false, false, true, true, false, false, false, true, false, false] rfl rfl (any_of HT_.out (by kernel_rfl)) (fun _ _ _ h => h) (Or.inl ⟨by rfl, ?_⟩) ?_ ?_
           rotate_left
           ·intro w'
            go_simp
            with_reducible rfl
           rotate_left
           ·simp only [Act.put, List.setIfInBounds_toArray, List.set_cons_zero, List.set_cons_succ, i64_w, i32_w]
            rfl
           refine take_ (i := 8) (N := some 31) (v := ?_) (a' := ?_) #[true, true, true, true, true, true, true, true, true, false, false, true, true, false, false, false, true, false, false] rfl rfl (take_ofW HT_.out HW_.out (by kernel_rfl)) (fun _ _ _ h => h) (Or.inl ⟨by rfl, ?_⟩) hHeld ?_ ?_
           rotate_left
           ·rintro w' ⟨s0, s1, s2, s3, s4, s5⟩
            go_simp
            with_reducible rfl
           rotate_left
           ·simp only [Act.put, List.setIfInBounds_toArray, List.set_cons_zero, List.set_cons_succ, i64_w, i32_w]
            rfl
           refine pure_ (i := 9) (N := some 32) (v := ?_) (a' := ?_) #[true, true, true, true, true, true, true, true, true, true, false, true, true, false, false, false, true, false, false] rfl rfl (any_of HT_.out (by kernel_rfl)) (fun _ _ _ h => h) (Or.inl ⟨by rfl, ?_⟩) ?_ ?_
           rotate_left
           ·intro w'
            go_simp
            with_reducible rfl
           rotate_left
           ·simp only [Act.put, List.setIfInBounds_toArray, List.set_cons_zero, List.set_cons_succ, i64_w, i32_w]
            rfl
           refine pure_ (i := 10) (N := some 33) (v := ?_) (a' := ?_) #[true, true, true, true, true, true, true, true, true, true, true, true, true, false, false, false, true, false, false] rfl rfl (any_of HT_.out (by kernel_rfl)) (fun _ _ _ h => h) (Or.inl ⟨by rfl, ?_⟩) ?_ ?_
           rotate_left
           ·intro w'
            go_simp
            with_reducible rfl
           rotate_left
           ·simp only [Act.put, List.setIfInBounds_toArray, List.set_cons_zero, List.set_cons_succ, i64_w, i32_w]
            rfl
           refine take_ (i := 13) (N := some 36) (v := ?_) (a' := ?_) #[true, true, true, true, true, true, true, true, true, true, true, true, true, true, false, false, true, false, false] rfl rfl (take_ofW HT_.out HW_.out (by kernel_rfl)) (fun _ _ _ h => h) (Or.inl ⟨by rfl, ?_⟩) hHeld ?_ ?_
           rotate_left
           ·rintro w' ⟨s0, s1, s2, s3, s4, s5⟩
            go_simp
            with_reducible rfl
           rotate_left
           ·simp only [Act.put, List.setIfInBounds_toArray, List.set_cons_zero, List.set_cons_succ, i64_w, i32_w]
            rfl
           refine pure_ (i := 14) (N := some 37) (v := ?_) (a' := ?_) #[true, true, true, true, true, true, true, true, true, true, true, true, true, true, true, false, true, false, false] rfl rfl (any_of HT_.out (by kernel_rfl)) (fun _ _ _ h => h) (Or.inl ⟨by rfl, ?_⟩) ?_ ?_
           rotate_left
           ·intro w'
            go_simp
            with_reducible rfl
           rotate_left
           ·simp only [Act.put, List.setIfInBounds_toArray, List.set_cons_zero, List.set_cons_succ, i64_w, i32_w]
            rfl
           refine one_ (i := 15) (N := some 38) #[true, true, true, true, true, true, true, true, true, true, true, true, true, true, true, true, true, false, false] rfl rfl (one_of HT_.out (by kernel_rfl)) (by decide) (fun K hK => ?_)
           refine goes_ Tryz.func130 (by kernel_rfl) rfl #[.agg #[.int .i64 a0_1, .int .i64 a0_0, .slice Ao28 x107002_1.length co28], .int .i64 (wrap64 ((wrap64 (a0_1 - 1)) - (wrap64 (Int.tdiv x18_1 a0_0)))), .int .i64 (Int.tmod x18_1 a0_0)] (by rfl) rfl rfl aq1 ?_
           with_reducible refine (impl_tray_number.calls a0_1 a0_0 _ _ x107002_1 (wrap64 ((wrap64 (a0_1 - 1)) - (wrap64 (Int.tdiv x18_1 a0_0)))) (Int.tmod x18_1 a0_0) t108 _ ?side1 ?side2 A23.out).mono ?_
           (case side1 => repeat (first | exact (Kd.R_reads' HO_107002.out).2.2 | (with_reducible refine Kd.C_alloc ?_ _) | (with_reducible refine Kd.C_drewN ?_ _) | (with_reducible refine Kd.C_drew ?_)))
           (case side2 => exact (Kd.R_reads' HO_107002.out).2.1)
           rintro e w29 ⟨rfl, hb⟩
           refine ⟨_, rfl, ?_⟩
           have n0_ := Aside0.mk (Kd.R_below (by (with_reducible repeat (first | apply Kd.R_alloc | apply Kd.R_drewN | apply Kd.R_drew)); exact HO_107002.out) hb)
           have n1_ := Aside0.mk (blk_below (g := gb101) (o := .cells #[.int .i64 a0_0, .int .i64 a0_1, .slice (some ad107) l0_2.length c0_2] 62 (0, 0)) aq5 hb)
           have n2_ := Aside0.mk (blk_below (g := gb102) (o := .cells #[.int .i64 0, .int .i64 0, .slice none 0 0] 62 (0, 0)) aq14 hb)
           have n3_ := Aside0.mk (blk_below (g := gb106) (o := .cells #[.int .i64 a0_1, .int .i64 a0_0, .slice Ao28 x107002_1.length co28] 62 (0, 0)) aq69 hb)
           have n4_ := Aside0.mk (below_step aq31 hb)
           clear HO_107002
           clear BK101
           clear BK102
           clear BK106
           clear HB
           have HO_107002 := n0_
           have BK101 := n1_
           have BK102 := n2_
           have BK106 := n3_
           have HB := n4_
           clear n0_ n1_ n2_ n3_ n4_
           (try clear hb)
           (try clear hb2)
           (try clear hk)
           (try clear hi)
           have p26 : 0 ≤ (t108 : Int) := of_decide_eq_true aq9
           have q26 : (t108 : Int) < ((x107002_1.length : Int) : Int) := of_decide_eq_true aq9
           obtain ⟨go26, co26, eo26, gb26, gl26, cl26, HG26⟩ := Kd.R_form HO_107002.out (by omega)
           (first | cases eo26 | (injection eo26 with ea_ en_ ec_; (first | subst ea_ | (injection ea_ with ea_; subst ea_)); subst ec_; clear en_))
           have GB26 := Aside0.mk gb26
           have GG26 := Aside0.mk HG26
           clear gb26 gl26 HG26
           obtain ⟨hx26_0, hf26_0⟩ := Kd.R_celln 0 HO_107002.out (t108 : Int) p26 q26
           replace p26 := eq_true p26
           replace q26 := eq_true q26
           have HP30 := Kd.R_putn HO_107002.out (t108 : Int) (rd l0_2 x18_1)
           rw [← Ny109.out] at HP30
           have HQ30 := Aside0.mk HP30
           clear HP30
           refine hK.out _ _ ⟨(blk_cell BK106.out 0).trans rfl, (blk_cell BK106.out 1).trans rfl, (blk_cell BK106.out 2).trans rfl, (blk_cell BK101.out 0).trans rfl, (blk_cell BK101.out 1).trans rfl, (blk_cell BK101.out 2).trans rfl⟩ (fun hHeld => ?_)
           clear hK K
           refine norm_ (a' := ?_) ?_ ?_
           rotate_left
           ·show Act.put _ (some 38) _ = _
            simp only [Act.put, List.setIfInBounds_toArray, List.set_cons_zero, List.set_cons_succ, i64_w, i32_w]
            rfl
           refine pure_ (i := 17) (N := some 40) (v := ?_) (a' := ?_) #[true, true, true, true, true, true, true, true, true, true, true, true, true, true, true, true, true, true, false] rfl rfl (any_of HT_.out (by kernel_rfl)) (fun _ _ _ h => h) (Or.inl ⟨by rfl, ?_⟩) ?_ ?_
           rotate_left
           ·intro w'
            go_simp
            with_reducible rfl
           rotate_left
           ·simp only [Act.put, List.setIfInBounds_toArray, List.set_cons_zero, List.set_cons_succ, i64_w, i32_w]
            rfl
           refine last_ (i := 18) (N := none) #[true, true, true, true, true, true, true, true, true, true, true, true, true, true, true, true, true, true, true] rfl rfl (one_of HT_.out (by kernel_rfl)) (by decide) (fun K hK => ?_)
           refine skip_ (w1 := ?_) (by rfl) rfl ?_ ?_
           rotate_left
           ·go_simp
            rfl
           refine hK.out _ _ ?_
           clear hK K
           refine done_ (done_of HT_.out (by kernel_rfl)) ?_
           try go_wp2
           go_roundg k1
           case measure => have := HK1.out; omega
           case rel => exact ⟨(wrap64 (x18_1 + 1)), (y109), (.slice (some ⟨go26, 0, none⟩) x107002_1.length co28), aq11, H', ⟨aq83⟩, ⟨by (with_reducible repeat (first | apply Kd.R_alloc | apply Kd.R_drewN | apply Kd.R_drew)); exact HQ30.out⟩, ⟨by (with_reducible repeat (first | refine blk_drewN ?_ _ | refine blk_drew ?_ | refine blk_alloc ?_ _)); refine blk_far ?_ (by have h_ := Kd.R_ne HO_107002.out BK101.out (by decide); intro e_; exact h_ (by rw [e_]; rfl)) _; (with_reducible repeat (first | refine blk_drewN ?_ _ | refine blk_drew ?_ | refine blk_alloc ?_ _)); exact BK101.out⟩, ⟨by (with_reducible repeat (first | refine blk_drewN ?_ _ | refine blk_drew ?_ | refine blk_alloc ?_ _)); refine blk_far ?_ (by have h_ := Kd.R_ne HO_107002.out BK102.out (by decide); intro e_; exact h_ (by rw [e_]; rfl)) _; (with_reducible repeat (first | refine blk_drewN ?_ _ | refine blk_drew ?_ | refine blk_alloc ?_ _)); exact BK102.out⟩, ⟨by (with_reducible repeat (first | refine blk_drewN ?_ _ | refine blk_drew ?_ | refine blk_alloc ?_ _)); refine blk_far ?_ (by have h_ := Kd.R_ne HO_107002.out BK106.out (by decide); intro e_; exact h_ (by rw [e_]; rfl)) _; (with_reducible repeat (first | refine blk_drewN ?_ _ | refine blk_drew ?_ | refine blk_alloc ?_ _)); exact BK106.out⟩, ⟨by repeat (first | (with_reducible first | exact HB.out | apply below_alloc | apply pw_below_drewN | apply below_drew1 | refine below_set ?_ GB26.out | refine below_set ?_ GE101.out | refine below_set ?_ GE102.out | refine below_set ?_ GE106.out) | exact HB.out)⟩⟩
          ·rw [if_neg c25] at H
           exact absurd H (by simp)
         ·rw [if_neg c24] at H
          exact absurd H (by simp)
       ·rw [if_neg c21] at H
        exact absurd H (by simp)
      ·rw [if_neg c20] at H
       exact absurd H (by simp)
     ·rw [if_neg c19] at H
      have c19b0 : decide (x18_1 < (l0_2.length : Int)) = false := decide_eq_false c19
      clear c19
      simp only [Option.some.injEq, Prod.mk.injEq] at H
      obtain ⟨rfl, rfl, rfl⟩ := H
      have hnb31 := NB106_101.out
      have hnc31 := NB101_106.out
      have hnb32 := NB106_102.out
      have hnc32 := NB102_106.out
      have hcz33_0 : wr.cell? ⟨gb106, 0, none⟩ = some (.int .i64 a0_1) := (blk_cell BK106.out 0).trans rfl
      have hcz33_1 : wr.cell? ⟨gb106, 1, none⟩ = some (.int .i64 a0_0) := (blk_cell BK106.out 1).trans rfl
      have hcz33_2 : wr.cell? ⟨gb106, 2, none⟩ = some (u107002) := (blk_cell BK106.out 2).trans rfl
      have hfz33_0 := blk_frozen BK106.out 0
      have hfz33_1 := blk_frozen BK106.out 1
      have hfz33_2 := blk_frozen BK106.out 2
      have hnb34 := NB102_101.out
      have hnc34 := NB101_102.out
      have hcz35_0 : wr.cell? ⟨gb102, 0, none⟩ = some (.int .i64 0) := (blk_cell BK102.out 0).trans rfl
      have hcz35_1 : wr.cell? ⟨gb102, 1, none⟩ = some (.int .i64 0) := (blk_cell BK102.out 1).trans rfl
      have hcz35_2 : wr.cell? ⟨gb102, 2, none⟩ = some (.slice none 0 0) := (blk_cell BK102.out 2).trans rfl
      have hfz35_0 := blk_frozen BK102.out 0
      have hfz35_1 := blk_frozen BK102.out 1
      have hfz35_2 := blk_frozen BK102.out 2
      obtain ⟨Ao36, co36, eo36⟩ := Kd.R_slice HO_107002.out
      subst eo36
      go_wp2
      refine bodyPost_ret (results_cell_row rfl _ _ gb102 62 #[.int .i64 a0_1, .int .i64 a0_0, .slice Ao36 x107002_1.length co36] (0, 0) _ rfl aq44 Tryz.underlying62 rfl (by kernel_rfl)) rfl ?_
      exact ⟨_, aq8, by (with_reducible repeat (first | apply Kd.R_alloc | apply Kd.R_drewN | apply Kd.R_drew)); exact Kd.R_mono (Kd.R_far (p := ⟨gb102, 2, none⟩) (Kd.R_far (p := ⟨gb102, 1, none⟩) (Kd.R_far (p := ⟨gb102, 0, none⟩) (Kd.R_types HO_107002.out BK102.out (by decide)) (fun _ hk => hk.2) (.int .i64 a0_1)) (fun _ hk => hk.2) (.int .i64 a0_0)) (fun _ hk => hk.2) (.slice Ao36 x107002_1.length co36)) (fun _ hk => trivial), aq31⟩
  ·rw [if_neg c3] at H
   exact absurd H (by simp)
 ·rw [if_neg c2] at H
  exact absurd H (by simp)
end Go.Proofs.YtipjmlcbbimfpaaGreatDoor.F

namespace Go.Proofs.YtipjmlcbbimfpaaGreatDoor.F
open Go.RowKit Go.Proofs.YtipjmlcbbimfpaaGreatDoor Go.Proofs.YtipjmlcbbimfpaaGreatDoorW.PrintWords Classical
set_option linter.unusedVariables false
set_option linter.unusedSimpArgs false
theorem spec_tyBall_eq (c : Int) : spec_tyBall.f c = some (isBallC c) := by
  unfold spec_tyBall.f isBallC isNameC
  by_cases h3 : c = 111
  · simp [h3]
  simp only [if_neg h3]
  by_cases h4 : c ≥ 97
  · simp [h3, h4]
  · simp [h3, h4]
theorem spec_tyIs_eq (c : Int) : spec_tyIs.f c = some (isCellC c) := by
  unfold spec_tyIs.f isCellC
  rw [spec_tyBall_eq]
  by_cases h1 : c = 35
  · simp [h1]
  by_cases h2 : c = 46
  · simp [h2]
  simp [h1, h2]
def ansT : Option (Nat × Nat × List Int) → Int × Int × List Int × Bool
  | none => (0, 0, [], false)
  | some (w, h, cs) => (w, h, cs, true)
def finT (w h : Nat) (cs : List Int) : Option (Nat × Nat × List Int) := if w ≤ 7 ∧ h ≤ 7 ∧ cs.length ≤ 36 ∧ namesOk cs then some (w, h, cs) else none
theorem tyRead_l2 (cs : List Int) (hl : cs.length ≤ 100) (w h : Int) (i : Nat) (hi : i < cs.length) (r : Int × Int × List Int × Bool)
    (hk : Ev (fun k => spec_tyRead.l1 k cs cs.length (i + 1 : Nat) w h cs) r) : ∀ (d j : Nat), j + d = i → 
    Ev (fun k => spec_tyRead.l2 k (rd cs i) cs cs.length i (cs.take i) ((cs.take i).length : Int) j w h cs)
      (if ∀ m, j ≤ m → m < i → cs.getD m 0 = cs.getD i 0 → isNameC (cs.getD i 0) = false then r else (0, 0, [], false)) := by
  have hti : (cs.take i).length = i := by rw [List.length_take]; omega
  intro d
  induction d with
  | zero =>
    intro j hj
    rw [if_pos (by intro m h1 h2; omega)]
    refine Ev.step (f := fun k => spec_tyRead.l1 k cs cs.length (i + 1 : Nat) w h cs) (fun k => ?_) hk
    rw [spec_tyRead.l2, hti, if_neg (by omega), w64 (by omega) (by omega)]
    rfl
  | succ d ih =>
    intro j hj
    have hih := ih (j + 1) (by omega)
    have hr : rd (cs.take i) j = cs.getD j 0 := by
      unfold rd
      rw [Int.toNat_natCast, List.getD_eq_getElem?_getD, List.getD_eq_getElem?_getD, List.getElem?_take, if_pos (by omega)]
    have hr2 : rd cs i = cs.getD i 0 := by unfold rd; rw [Int.toNat_natCast]
    have hw : wrap64 ((j : Int) + 1) = ((j + 1 : Nat) : Int) := by rw [w64 (by omega) (by omega)]; rfl
    by_cases he : cs.getD j 0 = cs.getD i 0
    · by_cases hn : isNameC (cs.getD i 0) = false
      · have hc : (∀ m, j ≤ m → m < i → cs.getD m 0 = cs.getD i 0 → isNameC (cs.getD i 0) = false) := fun _ _ _ _ => hn
        have hc2 : (∀ m, j + 1 ≤ m → m < i → cs.getD m 0 = cs.getD i 0 → isNameC (cs.getD i 0) = false) := fun _ _ _ _ => hn
        rw [if_pos hc]
        rw [if_pos hc2] at hih
        refine Ev.step (fun k => ?_) hih
        rw [spec_tyRead.l2, hti, if_pos (by omega), if_pos (by omega), if_pos (by omega), hr, hr2, if_pos he.symm, hw]
        have : ¬ (97 ≤ cs.getD i 0 ∧ cs.getD i 0 ≤ 102) := fun e => by rw [(isNameC_iff _).2 e] at hn; cases hn
        by_cases h97 : cs.getD i 0 ≥ 97
        · rw [if_pos h97, if_neg (by omega)]
        · rw [if_neg h97]
      · have hn2 : isNameC (cs.getD i 0) = true := by simpa using hn
        have h3 := (isNameC_iff _).1 hn2
        rw [if_neg (fun hc => hn (hc j (Nat.le_refl _) (by omega) he))]
        refine Ev.step (f := fun k => some (0, 0, [], false)) (fun k => ?_) (Ev.now _)
        rw [spec_tyRead.l2, hti, if_pos (by omega), if_pos (by omega), if_pos (by omega), hr, hr2, if_pos he.symm, if_pos (by omega), if_pos (by omega)]
    · have hc : (∀ m, j ≤ m → m < i → cs.getD m 0 = cs.getD i 0 → isNameC (cs.getD i 0) = false) ↔ (∀ m, j + 1 ≤ m → m < i → cs.getD m 0 = cs.getD i 0 → isNameC (cs.getD i 0) = false) := by
        constructor
        · intro hh m h1 h2; exact hh m (by omega) h2
        · intro hh m h1 h2 h3
          rcases Nat.lt_or_ge j m with h4 | h4
          · exact hh m h4 h2 h3
          · obtain rfl : m = j := by omega
            exact absurd h3 he
      simp only [hc]
      refine Ev.step (fun k => ?_) hih
      rw [spec_tyRead.l2, hti, if_pos (by omega), if_pos (by omega), if_pos (by omega), hr, hr2, if_neg (fun e => he e.symm), hw]
theorem tyRead_l1 (cs : List Int) (hl : cs.length ≤ 100) (w h : Nat) : ∀ (d i : Nat), i + d = cs.length →
    Ev (fun k => spec_tyRead.l1 k cs cs.length i w h cs)
      (if ∀ m, i ≤ m → m < cs.length → ∀ j, j < m → cs.getD j 0 = cs.getD m 0 → isNameC (cs.getD m 0) = false then (w, h, cs, true) else (0, 0, [], false)) := by
  intro d
  induction d with
  | zero =>
    intro i hi
    rw [if_pos (by intro m h1 h2; omega)]
    refine Ev.step (f := fun k => some ((w : Int), (h : Int), cs, true)) (fun k => ?_) (Ev.now _)
    rw [spec_tyRead.l1, if_neg (by omega)]
  | succ d ih =>
    intro i hi
    have h2 := tyRead_l2 cs hl w h i (by omega) _ (ih (i + 1) (by omega)) i 0 (by omega)
    have hc : (if ∀ m, 0 ≤ m → m < i → cs.getD m 0 = cs.getD i 0 → isNameC (cs.getD i 0) = false then
        (if ∀ m, i + 1 ≤ m → m < cs.length → ∀ j, j < m → cs.getD j 0 = cs.getD m 0 → isNameC (cs.getD m 0) = false then ((w : Int), (h : Int), cs, true) else (0, 0, [], false)) else (0, 0, [], false)) =
        (if ∀ m, i ≤ m → m < cs.length → ∀ j, j < m → cs.getD j 0 = cs.getD m 0 → isNameC (cs.getD m 0) = false then ((w : Int), (h : Int), cs, true) else (0, 0, [], false)) := by
      by_cases h3 : ∀ m, i ≤ m → m < cs.length → ∀ j, j < m → cs.getD j 0 = cs.getD m 0 → isNameC (cs.getD m 0) = false
      · rw [if_pos h3, if_pos (fun m _ hm => h3 i (Nat.le_refl _) (by omega) m hm), if_pos (fun m hm => h3 m (by omega))]
      · rw [if_neg h3]
        by_cases h4 : ∀ m, 0 ≤ m → m < i → cs.getD m 0 = cs.getD i 0 → isNameC (cs.getD i 0) = false
        · rw [if_pos h4, if_neg]
          intro h5
          refine h3 (fun m h6 h7 j h8 => ?_)
          rcases Nat.lt_or_ge i m with h9 | h9
          · exact h5 m h9 h7 j h8
          · obtain rfl : m = i := by omega
            exact h4 j (Nat.zero_le _) h8
        · rw [if_neg h4]
    rw [hc] at h2
    refine Ev.step (fun k => ?_) h2
    rw [spec_tyRead.l1, if_pos (by omega), if_pos (by omega), if_pos (by omega), if_pos (by omega)]
    simp only [Option.bind_some, Int.toNat_natCast]
    rfl
theorem tyRead_fin (w h : Nat) (cs : List Int) (hl : cs.length ≤ 100) :
    Ev (fun k => if (w : Int) > 7 then spec_tyRead.j2 k true w h cs else if (h : Int) > 7 then spec_tyRead.j2 k true w h cs else spec_tyRead.j2 k (decide ((cs.length : Int) > 36)) w h cs) (ansT (finT w h cs)) := by
  have hno : Ev (fun k => spec_tyRead.j2 k true w h cs) (0, 0, [], false) := Ev.step (f := fun _ => some (0, 0, [], false)) (fun k => by rw [spec_tyRead.j2, if_pos rfl]) (Ev.now _)
  unfold finT
  by_cases h1 : (w : Int) > 7
  · simp only [if_pos h1]; rw [if_neg (by omega)]; exact hno
  simp only [if_neg h1]
  by_cases h2 : (h : Int) > 7
  · simp only [if_pos h2]; rw [if_neg (by omega)]; exact hno
  simp only [if_neg h2]
  by_cases h3 : (cs.length : Int) > 36
  · simp only [decide_eq_true h3]; rw [if_neg (by omega)]; exact hno
  · simp only [decide_eq_false h3]
    have h4 := tyRead_l1 cs hl w h cs.length 0 (by omega)
    have hc : (if ∀ m, 0 ≤ m → m < cs.length → ∀ j, j < m → cs.getD j 0 = cs.getD m 0 → isNameC (cs.getD m 0) = false then ((w : Int), (h : Int), cs, true) else (0, 0, [], false)) = ansT (if w ≤ 7 ∧ h ≤ 7 ∧ cs.length ≤ 36 ∧ namesOk cs then some (w, h, cs) else none) := by
      unfold namesOk
      by_cases h5 : ∀ m, m < cs.length → ∀ j, j < m → cs.getD j 0 = cs.getD m 0 → isNameC (cs.getD m 0) = false
      · rw [if_pos (fun m _ => h5 m), if_pos ⟨by omega, by omega, by omega, h5⟩]; rfl
      · rw [if_neg (fun e => h5 (fun m => e m (Nat.zero_le _))), if_neg (fun e => h5 e.2.2.2)]; rfl
    rw [hc] at h4
    refine Ev.step (fun k => ?_) h4
    rw [spec_tyRead.j2, if_neg (by decide)]
    rfl
theorem tyRead_l0 (s : ByteArray) (hs : s.size ≤ 42) : ∀ (d i x w h : Nat) (cs : List Int), i + d = s.size → x ≤ i → w ≤ i → h ≤ i → cs.length ≤ i →
    Ev (fun k => spec_tyRead.l0 k s x i w h cs) (ansT ((tyGo ((bytesOf s).drop i) x w h cs).bind fun z => finT z.1 z.2.1 z.2.2)) := by
  have hno : ∀ g : Nat → Option (Int × Int × List Int × Bool), (∀ k, g k = some (0, 0, [], false)) → Ev g (0, 0, [], false) := fun g hg => ⟨0, fun k _ => hg k⟩
  intro d
  induction d with
  | zero =>
    intro i x w h cs hi hx hw hh hc
    obtain rfl : i = s.size := by omega
    rw [bytesOf_all, tyGo]
    have hA : ∀ k, spec_tyRead.l0 (k + 1) s x s.size w h cs = spec_tyRead.j1 k s x s.size false w h cs := fun k => by
      rw [spec_tyRead.l0, if_pos (by omega), if_neg (by omega)]
    refine Ev.step hA ?_
    by_cases hbad : (0 < h ∧ x ≠ w) ∨ x = 0
    · rw [if_pos hbad]
      refine Ev.step (f := fun _ => some (0, 0, [], false)) (fun k => ?_) (Ev.now _)
      rw [spec_tyRead.j1, if_neg (by decide)]
      by_cases h0 : (h : Int) > 0
      · rw [if_pos h0]
        by_cases hxw : (x : Int) = w
        · rw [if_pos hxw, if_pos (by omega)]
        · rw [if_neg hxw]
      · rw [if_neg h0, if_pos (by omega)]
    · rw [if_neg hbad]
      have hfin := tyRead_fin x (h + 1) cs (by omega)
      have hB : ∀ k, spec_tyRead.j1 (k + 1) s x s.size false w h cs = spec_tyRead.l0 k s 0 (s.size + 1 : Nat) x (h + 1 : Nat) cs := fun k => by
        rw [spec_tyRead.j1, if_neg (by decide), w64 (n := (s.size : Int) + 1) (by omega) (by omega), w64 (n := (h : Int) + 1) (by omega) (by omega)]
        by_cases h0 : (h : Int) > 0
        · rw [if_pos h0, if_pos (by omega), if_neg (by omega)]; rfl
        · rw [if_neg h0, if_neg (by omega)]; rfl
      refine Ev.step hB (Ev.step (fun k => ?_) hfin)
      rw [spec_tyRead.l0, if_neg (by omega)]
  | succ d ih =>
    intro i x w h cs hi hx hw hh hc
    have hlt : i < s.size := by omega
    rw [bytesOf_drop s i hlt, tyGo]
    have hA : ∀ k, spec_tyRead.l0 (k + 1) s x i w h cs = spec_tyRead.j1 k s x i (bt s i != 47) w h cs := fun k => by
      rw [spec_tyRead.l0, if_pos (by omega), if_pos (by omega), if_pos (by omega)]
    refine Ev.step hA ?_
    by_cases h47 : bt s i = 47
    · rw [if_pos h47]
      have hb : (bt s i != 47) = false := by simp [h47]
      simp only [hb]
      by_cases hbad : (0 < h ∧ x ≠ w) ∨ x = 0
      · rw [if_pos hbad]
        refine Ev.step (f := fun _ => some (0, 0, [], false)) (fun k => ?_) (Ev.now _)
        rw [spec_tyRead.j1, if_neg (by decide)]
        by_cases h0 : (h : Int) > 0
        · rw [if_pos h0]
          by_cases hxw : (x : Int) = w
          · rw [if_pos hxw, if_pos (by omega)]
          · rw [if_neg hxw]
        · rw [if_neg h0, if_pos (by omega)]
      · rw [if_neg hbad]
        refine Ev.step (fun k => ?_) (ih (i + 1) 0 x (h + 1) cs (by omega) (by omega) (by omega) (by omega) (by omega))
        rw [spec_tyRead.j1, if_neg (by decide), w64 (n := (i : Int) + 1) (by omega) (by omega), w64 (n := (h : Int) + 1) (by omega) (by omega)]
        by_cases h0 : (h : Int) > 0
        · rw [if_pos h0, if_pos (by omega), if_neg (by omega)]; rfl
        · rw [if_neg h0, if_neg (by omega)]; rfl
    · rw [if_neg h47]
      have hb : (bt s i != 47) = true := by simp [h47]
      simp only [hb]
      by_cases hcell : isCellC (bt s i) = true
      · rw [if_pos hcell]
        refine Ev.step (fun k => ?_) (ih (i + 1) (x + 1) w h (cs ++ [bt s i]) (by omega) (by omega) (by omega) (by omega) (by simp; omega))
        rw [spec_tyRead.j1, if_pos rfl, if_pos (by omega), if_pos (by omega), spec_tyIs_eq, Option.bind_some, if_pos hcell, if_pos (by omega), w64 (by omega) (by omega), w64 (by omega) (by omega)]
        rfl
      · rw [if_neg hcell]
        refine Ev.step (f := fun _ => some (0, 0, [], false)) (fun k => ?_) (Ev.now _)
        rw [spec_tyRead.j1, if_pos rfl, if_pos (by omega), if_pos (by omega), spec_tyIs_eq, Option.bind_some, if_neg hcell]
theorem spec_tyRead_ev (s : ByteArray) : Ev (fun k => spec_tyRead.f k s) (ansT (tyGrid (bytesOf s))) := by
  unfold spec_tyRead.f tyGrid
  rw [bytesOf_length]
  by_cases h : (s.size : Int) > 42
  · simp only [if_pos h]; rw [if_pos (by omega)]; exact Ev.now _
  · simp only [if_neg h]; rw [if_neg (by omega)]
    have h0 := tyRead_l0 s (by omega) s.size 0 0 0 0 [] (by omega) (Nat.le_refl _) (Nat.le_refl _) (Nat.le_refl _) (Nat.le_refl _)
    rw [List.drop_zero] at h0
    cases hg : tyGo (bytesOf s) 0 0 0 [] with
    | none => rw [hg] at h0; exact h0
    | some z => rw [hg] at h0; exact h0
end Go.Proofs.YtipjmlcbbimfpaaGreatDoor.F

namespace Go.Proofs.YtipjmlcbbimfpaaGreatDoor
open Go.RowKit Go.Proofs.YtipjmlcbbimfpaaGreatDoorW.PrintWords Go.Proofs.YtipjmlcbbimfpaaGreatDoorW.PrintLast Go.Proofs.YtipjmlcbbimfpaaGreatDoorW.PrintMore Go.Lib Go.Shelf
attribute [local go_sem] Oper.semAt_some max2_int min2_int
set_option linter.unusedVariables false
set_option linter.unusedSimpArgs false
set_option maxHeartbeats 1000000 in
theorem chunk_in (F : Fence) (n : Nat) (hc : F.fn 132) (hro : F.round = none) (A0 : Option Addr) (len cap : Nat) (m : Nat) (hm : 1 ≤ m) (w : World) :
    CallsIn F n Tryz.prog 132 #[.slice A0 len cap, .int .i64 m] w fun e w' => e = .returned (.func (.func 169) #[] #[.pointer (some ⟨w.heap.size, 0, none⟩), .pointer (some ⟨w.heap.size + 1, 0, none⟩)]) ∧
      w' = (w.alloc (.cells #[.slice A0 len cap] 22)).alloc (.cells #[.int .i64 m] 3) := by
  refine callsIn_of_wp Tryz.func132 rfl hc ?_ hro
  simp only [Tryz.ntmps132, List.size_toArray, List.length_cons, List.length_nil, Nat.reduceAdd, Nat.reduceSub, Array.replicate_succ, Array.replicate_zero, List.push_toArray, List.append_toArray, List.nil_append, List.cons_append]
  have hlt : ¬ ((m : Int) < 1) := by omega
  gi_wp2
  go_ret
  exact ⟨by simp, rfl⟩
def KeepTwo (B1 B2 : Nat) (W W' : World) : Prop := W'.cell? ⟨B1, 0, none⟩ = W.cell? ⟨B1, 0, none⟩ ∧ W'.cell? ⟨B2, 0, none⟩ = W.cell? ⟨B2, 0, none⟩
theorem KeepTwo.trans {B1 B2 : Nat} {A B C : World} (h : KeepTwo B1 B2 A B) (h' : KeepTwo B1 B2 B C) : KeepTwo B1 B2 A C := ⟨h'.1.trans h.1, h'.2.trans h.2⟩
def chunkEnc (b off m : Nat) (k : Nat) : Array Value := #[.slice (some ⟨b, off + k * m, none⟩) m m]
theorem take_fin {cnt k : Nat} (h : k < cnt) : (List.finRange cnt).take (k + 1) = (List.finRange cnt).take k ++ [⟨k, h⟩] := by
  rw [List.take_add_one, List.getElem?_eq_getElem (by simpa using h)]
  simp
theorem take_fin_length {cnt k : Nat} (h : k ≤ cnt) : ((List.finRange cnt).take k).length = k := by simp [h]
theorem take_fin_all (cnt : Nat) : (List.finRange cnt).take cnt = List.finRange cnt := List.take_of_length_le (by simp)
set_option maxRecDepth 100000 in
set_option maxHeartbeats 2000000 in
theorem chunk1_in (n : Nat) (hn : 1 ≤ n) (l Bs Bn b off m cnt cap : Nat) (hm : 1 ≤ m) (hcap : cnt * m ≤ cap) (hbig : cnt * m < 4294967296) (hbm : m < 4294967296) (J Jx : List (Fin cnt) → World → Prop) (hJd : ∀ pre W, J pre W → J pre W.drew)
    (hY : ∀ pre x W, J pre W → pre.length < cnt → YieldAt Fence.wide (n - 1) Tryz.prog l (chunkEnc b off m x.1) W fun e W' =>
      (e = .returned (.bool true) ∧ J (pre ++ [x]) W' ∧ KeepTwo Bs Bn W W') ∨ (e = .returned (.bool false) ∧ Jx (pre ++ [x]) W'))
    (W : World) (hBs : W.cell? ⟨Bs, 0, none⟩ = some (.slice (some ⟨b, off, none⟩) (cnt * m) cap)) (hBn : W.cell? ⟨Bn, 0, none⟩ = some (.int .i64 m)) (h0 : J [] W) :
    CallsIn Fence.wide n Tryz.prog 169 #[.func (.yield l) #[] #[], .pointer (some ⟨Bs, 0, none⟩), .pointer (some ⟨Bn, 0, none⟩)] W fun e W' => (∃ v, e = .returned v) ∧
      ((∃ ys, ys = List.finRange cnt ∧ J ys W') ∨ (∃ pre, (∃ k, k ≤ cnt ∧ pre = (List.finRange cnt).take k) ∧ Jx pre W')) := by
  refine callsIn_of_wp Tryz.func169 rfl trivial ?_ rfl
  simp only [Tryz.ntmps169, List.size_toArray, List.length_cons, List.length_nil, Nat.reduceAdd, Nat.reduceSub, Array.replicate_succ, Array.replicate_zero, List.push_toArray, List.append_toArray, List.nil_append, List.cons_append]
  gi_wp2
  gi_loopw [4] (fun i wr => ∃ k : Nat, k ≤ cnt ∧ i = .int .i64 ((k * m : Nat) : Int) ∧ J ((List.finRange cnt).take k) wr ∧ wr.cell? ⟨Bs, 0, none⟩ = some (.slice (some ⟨b, off, none⟩) (cnt * m) cap) ∧ wr.cell? ⟨Bn, 0, none⟩ = some (.int .i64 m))
    (fun i _ => cnt * m - (intOf i).toNat)
  case atStart => exact ⟨0, Nat.zero_le _, by simp, h0, hBs, hBn⟩
  case round =>
    obtain ⟨k, hk, rfl, hJs, hb1, hb2⟩ := hrel
    by_cases hlt : k < cnt
    · have hkm : (k + 1) * m ≤ cnt * m := Nat.mul_le_mul_right m hlt
      rw [Nat.succ_mul] at hkm
      generalize hkk : k * m = km at *
      generalize hcc : cnt * m = cm at *
      obtain ⟨fn, tmps, assign, body, hy, hR⟩ := hY _ ⟨k, hlt⟩ wr.drew (hJd _ _ hJs) (by rw [take_fin_length hk]; exact hlt)
      dsimp only [chunkEnc] at hy
      rw [hkk] at hy
      have hc1 : ((km : Nat) : Int) < (cm : Int) := by omega
      have hc0 : (0 : Int) ≤ (km : Int) := by omega
      have hmin : min (m : Int) ((cm - km : Nat) : Int) = m := by omega
      have hsub : km + m - km = m := Nat.add_sub_cancel_left ..
      have hw1 : IntKind.i64.wrap ((cm : Int) - (km : Int)) = (cm : Int) - (km : Int) := by rw [IntKind.wrap_i64]; omega
      have hw2 : IntKind.i64.wrap ((km : Int) + (m : Int)) = ((km + m : Nat) : Int) := by rw [IntKind.wrap_i64]; omega
      have hle1 : ((km + m : Nat) : Int) ≤ (cm : Int) := by omega
      gi_wp2
      gi_region
      all_goals gi_wp2
      refine hR.mono ?_
      rintro e W3 (⟨rfl, hJ3, hk3⟩ | ⟨rfl, hJx3⟩)
      · have hb1' : W3.cell? ⟨Bs, 0, none⟩ = _ := hk3.1.trans hb1
        have hb2' : W3.cell? ⟨Bn, 0, none⟩ = _ := hk3.2.trans hb2
        gi_wp2
        go_roundw
        case rel => exact ⟨k + 1, by omega, by rw [Nat.succ_mul, hkk]; push_cast; rfl, by rw [take_fin hlt]; exact hJ3, hb1', hb2'⟩
        case measure => simp [intOf]; omega
      · gi_wp2
        refine bodyPost_ret (results_none rfl _ _ _) rfl ?_
        exact ⟨⟨_, rfl⟩, .inr ⟨_, ⟨k + 1, by omega, (take_fin hlt).symm⟩, hJx3⟩⟩
    · have hkc : k = cnt := by omega
      subst hkc
      gi_wp2
      go_end0
      exact ⟨⟨_, rfl⟩, .inl ⟨_, rfl, by rw [take_fin_all] at hJs; exact hJs⟩⟩
theorem grown_drew (W : World) : W.grownBy W.drew none := ⟨rfl, rfl, rfl, Nat.le_refl _, fun _ _ _ => rfl⟩
theorem chunk_stops (n : Nat) (hn : 1 ≤ n) (Bs Bn b off m cnt cap : Nat) (hm : 1 ≤ m) (hcap : cnt * m ≤ cap) (hbig : cnt * m < 4294967296) (hbm : m < 4294967296) (w : World) (h1 : Bs < w.heap.size) (h2 : Bn < w.heap.size)
    (hBs : w.cell? ⟨Bs, 0, none⟩ = some (.slice (some ⟨b, off, none⟩) (cnt * m) cap)) (hBn : w.cell? ⟨Bn, 0, none⟩ = some (.int .i64 m)) :
    SeqStopsK Fence.wide n Tryz.prog 169 #[.pointer (some ⟨Bs, 0, none⟩), .pointer (some ⟨Bn, 0, none⟩)] (fun x : Fin cnt => chunkEnc b off m x.1) (KeepTwo Bs Bn) (fun ys => ys = List.finRange cnt) (fun pre => ∃ k, k ≤ cnt ∧ pre = (List.finRange cnt).take k) cnt w :=
  fun l J Jx W hW hJ _ hY h0 => chunk1_in n hn l Bs Bn b off m cnt cap hm hcap hbig hbm J Jx (fun pre W h => hJ pre W W.drew none h (grown_drew W) (fun r e => by cases e)) hY W
    ((hW.cell (p := ⟨Bs, 0, none⟩) h1).trans hBs) ((hW.cell (p := ⟨Bn, 0, none⟩) h2).trans hBn) h0
theorem KeepTwo.of_below {B1 B2 n₀ : Nat} {W W' : World} (h : Below n₀ W W') (h1 : B1 < n₀) (h2 : B2 < n₀) : KeepTwo B1 B2 W W' := ⟨h.cell (p := ⟨B1, 0, none⟩) h1, h.cell (p := ⟨B2, 0, none⟩) h2⟩
theorem KeepTwo.put {B1 B2 : Nat} {w : World} (h1 : B1 < w.heap.size) (h2 : B2 < w.heap.size) (W : World) (l : Nat) (o o' : Obj) (hl : w.heap.size ≤ l) (h : W.heap[l]? = some o) (hc : o.isCells = false) (hw : o.isWalk = false) : KeepTwo B1 B2 W (W.putObj l o') :=
  .of_below (belowK_b (w := w) (Nat.le_refl _) W l o o' hl h hc hw) h1 h2
def chunksB (m : Nat) (l : List Int) : List ByteArray := (List.range (l.length / m)).map fun k => strOfNums ((l.drop (k * m)).take m)
def impl_tray_text.f (a0 a1 : Int) (l : List Int) : Option ByteArray :=
  if 1 ≤ a0 ∧ a0 < 65536 ∧ l.length < 65536 ∧ l.length % a0.toNat = 0 ∧ 0 < l.length then strings_Join.f (chunksB a0.toNat l) ⟨#[47]⟩ else none
theorem chunk_reads {w W : World} {b off m k : Nat} {l : List Int} (hbk : b < w.heap.size) (hB : Below w.heap.size w W) (hc : ∀ j x, l[j]? = some x → w.cell? ⟨b, off + j, none⟩ = some (Value.int .u8 x)) (hk : k * m + m ≤ l.length) (hl : l.length < 65536) :
    ReadsInt W .u8 (some ⟨b, off + k * m, none⟩) m ((l.drop (k * m)).take m) := by
  refine ⟨by rw [List.length_take, List.length_drop]; omega, by omega, fun _ => ⟨_, rfl, fun j hj => ?_⟩⟩
  rw [Addr.add_lit, hB.cell (p := ⟨b, off + k * m + j, none⟩) hbk, Nat.add_assoc]
  have hx := hc (k * m + j) (l[k * m + j]'(by omega)) (List.getElem?_eq_getElem (by omega))
  rw [hx]
  congr 2
  rw [List.getD_eq_getElem?_getD, List.getElem?_take, if_pos hj, List.getElem?_drop, List.getElem?_eq_getElem (by omega)]
  rfl
def chunkAt (m : Nat) (l : List Int) (k : Nat) : ByteArray := strOfNums ((l.drop (k * m)).take m)
theorem info9 : (Tryz.prog.info? 9).map (fun i => (i.zero, i.size, i.bytes)) = some (some (.string ByteArray.empty), 1, 16) := by kernel_rfl
set_option maxRecDepth 100000 in
set_option maxHeartbeats 4000000 in
theorem impl_tray_text.calls (a0_0 a0_1 : Int) (A0_2 : Option Addr) (c0_2 : Nat) (l0_2 : List Int) (r : ByteArray) (w : World) (hr0_2 : Kd.C (Kd.int .u8) w A0_2 l0_2.length l0_2) (hc0_2 : l0_2.length ≤ c0_2) (h : impl_tray_text.f a0_0 a0_1 l0_2 = some r) :
    Calls Tryz.prog 96 #[.agg #[.int .i64 a0_0, .int .i64 a0_1, .slice A0_2 l0_2.length c0_2]] w fun e w' => e = .returned (.string r) ∧ Below w.heap.size w w' := by
  unfold impl_tray_text.f at h
  split at h
  case isFalse => cases h
  rename_i hc
  obtain ⟨hm1, hm2, hl1, hmod, hl0⟩ := hc
  obtain ⟨b, off, rfl, hbk, hcells⟩ := C_place hr0_2 hl0
  obtain ⟨m, rfl⟩ := Int.eq_ofNat_of_zero_le (show 0 ≤ a0_0 by omega)
  rw [Int.toNat_natCast] at hmod h
  have hm : 1 ≤ m := by omega
  obtain ⟨cnt, hcnt⟩ : ∃ c, l0_2.length = c * m := ⟨l0_2.length / m, (Nat.div_mul_cancel (Nat.dvd_of_mod_eq_zero hmod)).symm⟩
  have hck : chunksB m l0_2 = (List.range cnt).map (chunkAt m l0_2) := by
    unfold chunksB chunkAt
    rw [hcnt, Nat.mul_div_cancel cnt (by omega)]
  have hcm : cnt ≤ cnt * m := Nat.le_mul_of_pos_right cnt (by omega)
  rw [hck] at h
  have HCNT := Aside0.mk hcnt
  have HH := Aside0.mk h
  have hcap : cnt * m ≤ c0_2 := by omega
  have hbig : cnt * m < 65536 := by omega
  rw [hcnt]
  clear hcnt h hck
  obtain ⟨i0, hi, hz0, hz1, hz2⟩ := info_parts info9
  refine (callsIn_wide (n := 3)).1 ?_
  refine callsIn_of_wp_marks Tryz.func96 rfl trivial ?_ rfl
  simp only [Tryz.ntmps96, List.size_toArray, List.length_cons, List.length_nil, Nat.reduceAdd, Nat.reduceSub, Array.replicate_succ, Array.replicate_zero, List.push_toArray, List.append_toArray, List.nil_append, List.cons_append]
  gi_wp2_with (refine ⟨trivial, ?_⟩; gi_at_call 132; refine (chunk_in Fence.wide (3 - 1) trivial rfl _ _ _ m hm _).mono ?_; rintro e w' ⟨rfl, rfl⟩)
  obtain ⟨W1, hW1⟩ : ∃ W1, w.alloc (.cells #[.int .i64 m, .int .i64 a0_1, .slice (some ⟨b, off, none⟩) (cnt * m) c0_2] 62) = W1 := ⟨_, rfl⟩
  have hs1 : W1.heap.size = w.heap.size + 1 := by rw [← hW1]; simp
  have hB1 : Below w.heap.size w W1 := by rw [← hW1]; exact (Below.refl _ w).alloc (Nat.le_refl _) _
  have hrow2 := World.ownsRow_lit (base := w.heap.size) (e := 9) (size := 1) W1 #[] 0 (by omega) (by decide) rfl
  obtain ⟨W2, hW2⟩ : ∃ W2, W1.alloc (.cells #[] 9) = W2 := ⟨_, rfl⟩
  rw [hW2, hs1] at hrow2
  have hs2 : W2.heap.size = w.heap.size + 1 + 1 := by rw [← hW2]; simp [hs1]
  have hB2 : Below w.heap.size w W2 := by rw [← hW2]; exact hB1.alloc (by omega) _
  have bO := Boxed.new W2 33 (.slice (some ⟨w.heap.size + 1, 0, none⟩) 0 0)
  have hrow3 := hrow2.alloc (.cells #[.slice (some ⟨w.heap.size + 1, 0, none⟩) 0 0] 33)
  obtain ⟨W3, hW3⟩ : ∃ W3, W2.alloc (.cells #[.slice (some ⟨w.heap.size + 1, 0, none⟩) 0 0] 33) = W3 := ⟨_, rfl⟩
  rw [hW3] at bO hrow3
  rw [hs2] at bO
  have hs3 : W3.heap.size = w.heap.size + 1 + 1 + 1 := by rw [← hW3]; simp [hs2]
  have hB3 : Below w.heap.size w W3 := by rw [← hW3]; exact hB2.alloc (by omega) _
  have bS := Boxed.new W3 22 (.slice (some ⟨b, off, none⟩) (cnt * m) c0_2)
  have bN := Boxed.new (W3.alloc (.cells #[.slice (some ⟨b, off, none⟩) (cnt * m) c0_2] 22)) 3 (.int .i64 m)
  rw [World.size_alloc, hs3] at bN
  rw [hs3] at bS
  have bS := bS.alloc (.cells #[.int .i64 m] 3)
  have bO := (bO.alloc (.cells #[.slice (some ⟨b, off, none⟩) (cnt * m) c0_2] 22)).alloc (.cells #[.int .i64 m] 3)
  have hrow := (hrow3.alloc (.cells #[.slice (some ⟨b, off, none⟩) (cnt * m) c0_2] 22)).alloc (.cells #[.int .i64 m] 3)
  have hB : Below w.heap.size w ((W3.alloc (.cells #[.slice (some ⟨b, off, none⟩) (cnt * m) c0_2] 22)).alloc (.cells #[.int .i64 m] 3)) := (hB3.alloc (by omega) _).alloc (by simp; omega) _
  have hs5 : ((W3.alloc (.cells #[.slice (some ⟨b, off, none⟩) (cnt * m) c0_2] 22)).alloc (.cells #[.int .i64 m] 3)).heap.size = w.heap.size + 5 := by simp [hs3]
  rw [hW1, hW2, hW3]
  try simp only [hs1, hs2, hs3]
  generalize ((W3.alloc (.cells #[.slice (some ⟨b, off, none⟩) (cnt * m) c0_2] 22)).alloc (.cells #[.int .i64 m] 3)) = W5 at *
  clear hrow3 hrow2 hB3 hB2 hB1 hW1 hW2 hW3
  refine wpIn_rangeFunc_ownG rfl (show 1 ≤ 3 by decide) (gf := 169) (lb := #[.pointer (some ⟨w.heap.size + 1 + 1 + 1, 0, none⟩), .pointer (some ⟨w.heap.size + 1 + 1 + 1 + 1, 0, none⟩)]) rfl trivial (enters_of Tryz.func169 (by kernel_rfl) rfl)
    (chunk_stops (3 - 1) (by decide) _ _ b off m cnt c0_2 hm hcap (by omega) (by omega) W5 (by omega) (by omega) bS.cell bN.cell) KeepTwo.trans (KeepTwo.put (by omega) (by omega)) (Below.refl _ _) (fun _ => rfl)
    (fun (pre : List (Fin cnt)) W => (∃ v, Boxed W (w.heap.size + 1 + 1) 33 v ∧ W.ownsRow w.heap.size 9 1 v pre.length (pre.map fun k => .string (chunkAt m l0_2 k.1)) ∧ True) ∧ (Boxed W (w.heap.size + 1 + 1 + 1) 22 (.slice (some ⟨b, off, none⟩) (cnt * m) c0_2) ∧ Boxed W (w.heap.size + 1 + 1 + 1 + 1) 3 (.int .i64 m)) ∧ Below w.heap.size w W)
    (fun _ _ _ => False)
    (OwnFrom.and (Own.from (holdsRow_own w.heap.size (w.heap.size + 1 + 1) 33 9 1 (fun pre : List (Fin cnt) => pre.length) (fun pre => pre.map fun k => .string (chunkAt m l0_2 k.1)) (fun pre v => True)) _) (OwnFrom.and (OwnFrom.and (Own.from (boxed_own _ _ _) _) (Own.from (boxed_own _ _ _) _)) (ownFrom_below (by omega) (by omega))))
    (fun _ _ _ _ _ hs _ _ => hs)
    ⟨⟨_, bO, hrow, trivial⟩, ⟨bS, bN⟩, hB⟩
    (fun x => { tmps := #[.agg #[.int .i64 m, .int .i64 a0_1, .slice (some ⟨b, off, none⟩) (cnt * m) c0_2], .pointer (some ⟨w.heap.size, 0, none⟩), .string ⟨#[]⟩, .pointer (some ⟨w.heap.size + 1 + 1, 0, none⟩), .slice (some ⟨b, off + x.1 * m, none⟩) m m, .slice (some ⟨w.heap.size + 1, 0, none⟩) 0 0, .pointer (some ⟨w.heap.size, 2, none⟩), .slice (some ⟨b, off, none⟩) (cnt * m) c0_2, .pointer (some ⟨w.heap.size, 0, none⟩), .int .i64 m, .func (.func 169) #[] #[.pointer (some ⟨w.heap.size + 1 + 1 + 1, 0, none⟩), .pointer (some ⟨w.heap.size + 1 + 1 + 1 + 1, 0, none⟩)], .slice (some ⟨b, off + x.1 * m, none⟩) m m, undef, undef, undef, undef, undef, undef, undef], defers := [] }) ?assign ?body ?done ?stop
  case assign =>
    intro l x W K hK
    dsimp only [chunkEnc]
    gi_wp2
    exact hK
  case stop =>
    rintro D c pre W _ _ h _
    exact h.elim
  case body =>
    rintro l pre x W ⟨⟨v, hv, hrow, _⟩, ⟨bS, bN⟩, hB⟩ hlt
    have hc := hv.cell
    have hxm : x.1 * m + m ≤ l0_2.length := by
      have := Nat.mul_le_mul_right m (Nat.succ_le_of_lt x.2)
      rw [Nat.succ_mul] at this
      rw [HCNT.out]; exact this
    have hcv := string_of_reads (P := Tryz.prog) (dst := 9) (c := m) Tryz.underlying22 Tryz.underlying5 Tryz.underlying9 (chunk_reads (k := x.1) hbk hB hcells hxm hl1)
    have HP1 := Aside0.mk (show pre.length + 1 ≤ maxLen by have : maxLen = 9223372036854775807 := rfl; omega)
    have HP2 := Aside0.mk (show (pre.length + 1) * 16 ≤ 140737488355328 by omega)
    have HB := Aside0.mk hB
    have HROW := Aside0.mk hrow
    have HV := Aside0.mk hv
    have BS := Aside0.mk bS
    have BN := Aside0.mk bN
    clear hxm hlt hcm hbig hcap hl1 hl0 hmod hcells hr0_2 hc0_2 hbk hB hrow hv bO bS bN hs5
    gi_wp2_with (gi_at_builtin; refine wpListIn_append_own _ rfl _ _ 33 rfl w.heap.size 9 i0 (.string ByteArray.empty) 1 16 Tryz.underlying33 hi hz0 hz1 hz2 rfl (by decide) _ _ _ rfl (HROW.out.alloc _) ⟨W.heap.size, 0, none⟩ 1 1 [.string (strOfNums ((l0_2.drop (x.1 * m)).take m))] rfl rfl (cell_one_new _ _ _) (by simp [Value.oneCell']) HP1.out HP2.out (by have := HB.out.size; simp; omega) ?_; intro v' w1 hown' hgrow _; obtain ⟨g', cap', rfl⟩ := ownsRow_succ hown'; obtain ⟨hv1, hv2, hr2, hk2, hb2⟩ := HV.out.appended (by decide) HROW.out HB.out.size (by omega) hown' hgrow; have hc1 := hv1.cell; have hf1 := hv1.frozen; have bS1 := Boxed.other (B' := w.heap.size + 1 + 1) ((BS.out.alloc _).kept hgrow (BS.out.not_row (by decide) HROW.out)) (by omega) (.slice (some ⟨g', 0, none⟩) (pre.length + 1) cap'); have bN1 := Boxed.other (B' := w.heap.size + 1 + 1) ((BN.out.alloc _).kept hgrow (BN.out.not_row (by decide) HROW.out)) (by omega) (.slice (some ⟨g', 0, none⟩) (pre.length + 1) cap'))
    refine ⟨hk2.from _, ⟨bS1.cell.trans BS.out.cell.symm, bN1.cell.trans BN.out.cell.symm⟩, ⟨⟨_, hv2, ?_⟩, ⟨bS1, bN1⟩, HB.out.trans hb2⟩⟩
    simpa [chunkAt] using hr2
  case done =>
    rintro D ys W hD rfl ⟨⟨v, hv, hrow, _⟩, _, hB⟩ hK
    have hc := hv.cell
    obtain ⟨L, hLd⟩ : ∃ L, (List.range cnt).map (chunkAt m l0_2) = L := ⟨_, rfl⟩
    have hL : (List.map (fun k : Fin cnt => Value.string (chunkAt m l0_2 k.1)) (List.finRange cnt)) = encs Value.string L := by
      rw [← hLd]; unfold encs
      apply List.ext_getElem
      · simp
      · intro i h1 h2; simp
    have hRR : Kd.R Kd.string 9 W w.heap.size (fun _ => True) v L := by
      rw [hL] at hrow
      have := Kd.R_of_own (enc := Value.string) (h1 := fun _ => rfl) (ok := fun _ => True) (xs := L) (by rw [← hLd]; rw [← hLd] at hrow; simpa using hrow) (fun _ _ => trivial)
      exact this
    have hh := HH.out
    rw [hLd] at hh
    have HH := Aside0.mk hh
    clear hh hLd hL hrow
    obtain ⟨Ao, co, rfl⟩ := Kd.R_slice hRR
    have hRD := Kd.R_reads' hRR
    gi_wp2_with (refine ⟨trivial, ?_⟩; gi_at_call 102; refine ((callsIn_wide (n := 2)).2 (strings_Join.calls Ao co L ⟨#[47]⟩ r _ hRD.2.2 hRD.2.1 HH.out)).mono ?_; rintro e w' ⟨rfl, hb⟩)
    have hK' : w'.heap[D]? = some (.deferred (some [])) := (hb.block D (Array.getElem?_eq_some_iff.1 hK).1).trans hK
    refine ⟨by simp, .inl ⟨_, _, rfl, run_takeDeferred hK', ?_⟩⟩
    exact ⟨_, results_tmp rfl _ _ _, rfl, (below_step hB hb).trans (belowK_b (w := w) (Nat.le_refl _) w' D _ _ (by omega) hK' rfl rfl)⟩
def slices_Min.f (l : List ByteArray) : Option ByteArray := if 0 < l.length ∧ l.length < 65536 then some (Lib.minOfS l) else none
theorem slices_Min.calls (A0 : Option Addr) (c0 : Nat) (l0 : List ByteArray) (r : ByteArray) (w : World) (hr0 : Kd.C Kd.string w A0 l0.length l0) (hc0 : l0.length ≤ c0) (h : slices_Min.f l0 = some r) :
    Calls Tryz.prog 69 #[.slice A0 l0.length c0] w fun e w' => e = .returned (.string r) ∧ Drawn0 w w' := by
  unfold slices_Min.f at h
  split at h
  case isFalse => cases h
  rename_i hc
  injection h with h
  subst h
  obtain ⟨b, o, rfl, hbk, hcells⟩ := C_place hr0 hc.1
  have := Tryz.slices_Min_string b o l0.length c0 l0 w hc.1 (Nat.le_refl _) (by omega) (fun j hj => by
    rw [hcells j _ (List.getElem?_eq_getElem hj)]
    rw [List.getD_eq_getElem?_getD, List.getElem?_eq_getElem hj]
    rfl)
  rw [List.take_length] at this
  exact this.mono fun e w' ⟨he, hw⟩ => ⟨he, hw ▸ Drawn0.refl _⟩
theorem info5 : (Tryz.prog.info? 5).map (fun i => (i.zero, i.size, i.bytes)) = some (some (.int .u8 0), 1, 1) := by kernel_rfl
def slices_Clone.f (l : List Int) : Option (List Int) := if 0 < l.length ∧ l.length < 65536 then some l else none
theorem slices_Clone.calls (A0 : Option Addr) (c0 : Nat) (l0 : List Int) (r : List Int) (w : World) (hr0 : Kd.C (Kd.int .u8) w A0 l0.length l0) (hc0 : l0.length ≤ c0) (h : slices_Clone.f l0 = some r) :
    Calls Tryz.prog 168 #[.slice A0 l0.length c0] w fun e w' => ∃ v_, e = .returned v_ ∧ Kd.R (Kd.int .u8) 5 w' w.heap.size (fun _ => True) v_ r ∧ Below w.heap.size w w' := by
  unfold slices_Clone.f at h
  split at h
  case isFalse => cases h
  rename_i hc
  injection h with h
  subst h
  obtain ⟨b, o, rfl, hbk, hcells⟩ := C_place hr0 hc.1
  obtain ⟨i0, hi, hz0, hz1, hz2⟩ := info_parts info5
  refine (Tryz.slices_Clone i0 (.int .u8 0) 1 1 hi hz0 hz1 hz2 rfl (by decide) (fun w => by kernel_rfl) b o l0.length c0 (l0.map (Value.int .u8)) w (by simp) (by have : maxLen = 9223372036854775807 := rfl; omega) (by omega) (fun j u hj => ?_) (fun u hu => ?_)).mono ?_
  · rw [List.getElem?_map, Option.map_eq_some_iff] at hj
    obtain ⟨x, hx, rfl⟩ := hj
    exact hcells j x hx
  · obtain ⟨x, _, rfl⟩ := List.mem_map.1 hu
    rfl
  · rintro e w' ⟨v', rfl, ho, _, hb⟩
    exact ⟨v', rfl, Kd.R_of_own (enc := Value.int .u8) (h1 := fun _ => rfl) ho (fun _ _ => trivial), hb⟩
end Go.Proofs.YtipjmlcbbimfpaaGreatDoor

namespace Go.Proofs.YtipjmlcbbimfpaaGreatDoor.F
open Go.Proofs.YtipjmlcbbimfpaaGreatDoor
open Go.RowKit Go.Proofs.YtipjmlcbbimfpaaGreatDoorW.PrintWords Go.Proofs.YtipjmlcbbimfpaaGreatDoorW.PrintLast Go.Proofs.YtipjmlcbbimfpaaGreatDoorW.PrintMore
attribute [local go_sem] max2_int min2_int max_two min_two max_three min_three max_four min_four   -- for this text's walks alone
set_option linter.unusedVariables false
set_option linter.unusedSimpArgs false
def impl_tray_own.f (a0_0 : Int) (a0_1 : Int) (l0_2 : List Int) : Option (Int × Int × List Int) := (slices_Clone.f l0_2).bind fun t103 => (some (a0_0, a0_1, t103))
def impl_tray_own.T1 : Bool × List (List Nat × List Nat) := (true, [([], []), ([0], [0]), ([], []), ([2], [2]), ([], []), ([4], [4]), ([5], [5]), ([1, 3, 6], [1, 3, 6]), ([7, 6, 0, 1, 2, 3, 4, 5, 6, 7], [7])])
def impl_tray_own.B1 : List Nat := [0, 1, 0, 4, 0, 16, 48, 127, 255]
theorem impl_tray_own.tab1 : rtab .any (opsOf Tryz.f131 1) = impl_tray_own.T1 := by kernel_rfl
theorem impl_tray_own.bits1 : waitsOk impl_tray_own.T1.2 impl_tray_own.B1 = true := by kernel_rfl
set_option maxHeartbeats 8000000 in
set_option maxRecDepth 100000 in
theorem impl_tray_own.calls (a0_0 : Int) (a0_1 : Int) (A0_2 : Option Addr) (c0_2 : Nat) (l0_2 : List Int) (r1 : Int) (r2 : Int) (r3 : List Int) (w : World) (hr0_2 : Kd.C (Kd.int .u8) w A0_2 l0_2.length l0_2) (hc0_2 : l0_2.length ≤ c0_2) (h : impl_tray_own.f a0_0 a0_1 l0_2 = some (r1, r2, r3)) :
  Calls Tryz.prog 131 #[.agg #[.int .i64 a0_0, .int .i64 a0_1, .slice A0_2 l0_2.length c0_2]] w fun e w' => ∃ v2_ : Value, e = .returned (.agg #[.int .i64 r1, .int .i64 r2, v2_]) ∧ Kd.R (Kd.int .u8) 5 w' w.heap.size (fun _ => True) v2_ r3 ∧ Below w.heap.size w w' := by
 have hu62 := Tryz.underlying62
 have HR0_2 := Aside0.mk hr0_2
 have HC0_2 := Aside0.mk hc0_2
 clear hr0_2 hc0_2
 have HB := Aside0.mk (Below.refl w.heap.size w)
 have H : ((slices_Clone.f l0_2).bind fun t103 => (some (a0_0, a0_1, t103))) = some (r1, r2, r3) := h
 clear h
 replace H := Option.bind_eq_some_iff.mp H
 obtain ⟨t103, A20, H⟩ := H
 replace H : (some (a0_0, a0_1, t103)) = some (r1, r2, r3) := H
 have A2 := Aside0.mk A20
 clear A20
 simp only [Option.some.injEq, Prod.mk.injEq] at H
 obtain ⟨rfl, rfl, rfl⟩ := H
 go_enter Tryz.func131, Tryz.ntmps131
 try go_wp2_with (first | ((with_reducible refine gate_dst (N := 1) rfl ?_); refine box_event ?hg (N := 1) ?hd (cs := #[.int .i64 a0_0, .int .i64 a0_1, .slice A0_2 l0_2.length c0_2]) (t := 62) ?hr ?_; (case hd => rfl); (case hg => rfl); (case hr => exact aq23); intro gb101 hg w3 hbox hb; have n0_ := Aside0.mk (below_step aq0 hb); have n1_ := Aside0.mk (hbox); have n2_ := Aside0.mk ((by rw [hg]; exact (below_size aq0) : w.heap.size ≤ gb101)); have n3_ := Aside0.mk ((by rw [hg]; exact (below_size aq0) : w.heap.size ≤ gb101)); clear HB; have HB := n0_; have BK101 := n1_; have GW101 := n2_; have GE101 := n3_; clear n0_ n1_ n2_ n3_; clear hb hbox hg) | ((with_reducible refine gate_dst (N := 2) rfl ?_); refine box_event ?hg (N := 2) ?hd (cs := #[.int .i64 0, .int .i64 0, .slice none 0 0]) (t := 62) ?hr ?_; (case hd => rfl); (case hg => rfl); (case hr => exact aq23); intro gb102 hg w4 hbox hb; have n0_ := Aside0.mk (blk_below (g := gb101) (o := .cells #[.int .i64 a0_0, .int .i64 a0_1, .slice A0_2 l0_2.length c0_2] 62 (0, 0)) aq5 hb); have n1_ := Aside0.mk (below_step aq6 hb); have n2_ := Aside0.mk (hbox); have n3_ := Aside0.mk ((by rw [hg]; exact (below_size aq6) : w.heap.size ≤ gb102)); have n4_ := Aside0.mk ((by rw [hg]; exact (below_size aq6) : w.heap.size ≤ gb102)); have n5_ := Aside0.mk ((by rw [hg]; exact Nat.ne_of_lt (blk_lt (g := gb101) (o := .cells #[.int .i64 a0_0, .int .i64 a0_1, .slice A0_2 l0_2.length c0_2] 62 (0, 0)) aq5) : gb101 ≠ gb102)); have n6_ := Aside0.mk ((by rw [hg]; exact Nat.ne_of_gt (blk_lt (g := gb101) (o := .cells #[.int .i64 a0_0, .int .i64 a0_1, .slice A0_2 l0_2.length c0_2] 62 (0, 0)) aq5) : gb102 ≠ gb101)); clear BK101; clear HB; have BK101 := n0_; have HB := n1_; have BK102 := n2_; have GW102 := n3_; have GE102 := n4_; have NB101_102 := n5_; have NB102_101 := n6_; clear n0_ n1_ n2_ n3_ n4_ n5_ n6_; clear hb hbox hg))
 have n0_ := Aside0.mk (blk_drew BK101.out)
 have n1_ := Aside0.mk (blk_drew BK102.out)
 have n2_ := Aside0.mk (below_drew1 HB.out)
 clear BK101
 clear BK102
 clear HB
 have BK101 := n0_
 have BK102 := n1_
 have HB := n2_
 clear n0_ n1_ n2_
 refine start_ (n := 9) (S := fun w' => w'.cell? ⟨gb101, 0, none⟩ = some (.int .i64 a0_0) ∧ w'.cell? ⟨gb101, 1, none⟩ = some (.int .i64 a0_1) ∧ w'.cell? ⟨gb101, 2, none⟩ = some (.slice A0_2 l0_2.length c0_2)) (ds := []) #[false, false, false, false, false, false, false, false, false] (by kernel_rfl) rfl rfl ⟨(blk_cell BK101.out 0).trans rfl, (blk_cell BK101.out 1).trans rfl, (blk_cell BK101.out 2).trans rfl⟩ (fun hHeld => ?_); refine with_tabW impl_tray_own.tab1 impl_tray_own.bits1 (fun HT_ HW_ => ?_)
 generalize w4.drew = w5 at BK101 BK102 HB hHeld ⊢
 refine pure_ (i := 0) (N := some 3) (v := ?_) (a' := ?_) #[true, false, false, false, false, false, false, false, false] rfl rfl (any_of HT_.out (by kernel_rfl)) (fun _ _ _ h => h) (Or.inl ⟨by rfl, ?_⟩) ?_ ?_
 rotate_left
 ·intro w'
  go_simp
  with_reducible rfl
 rotate_left
 ·simp only [Act.put, List.setIfInBounds_toArray, List.set_cons_zero, List.set_cons_succ, i64_w, i32_w]
  rfl
 refine pure_ (i := 2) (N := some 5) (v := ?_) (a' := ?_) #[true, false, true, false, false, false, false, false, false] rfl rfl (any_of HT_.out (by kernel_rfl)) (fun _ _ _ h => h) (Or.inl ⟨by rfl, ?_⟩) ?_ ?_
 rotate_left
 ·intro w'
  go_simp
  with_reducible rfl
 rotate_left
 ·simp only [Act.put, List.setIfInBounds_toArray, List.set_cons_zero, List.set_cons_succ, i64_w, i32_w]
  rfl
 refine pure_ (i := 4) (N := some 7) (v := ?_) (a' := ?_) #[true, false, true, false, true, false, false, false, false] rfl rfl (any_of HT_.out (by kernel_rfl)) (fun _ _ _ h => h) (Or.inl ⟨by rfl, ?_⟩) ?_ ?_
 rotate_left
 ·intro w'
  go_simp
  with_reducible rfl
 rotate_left
 ·simp only [Act.put, List.setIfInBounds_toArray, List.set_cons_zero, List.set_cons_succ, i64_w, i32_w]
  rfl
 refine take_ (i := 1) (N := some 4) (v := ?_) (a' := ?_) #[true, true, true, false, true, false, false, false, false] rfl rfl (take_ofW HT_.out HW_.out (by kernel_rfl)) (fun _ _ _ h => h) (Or.inl ⟨by rfl, ?_⟩) hHeld ?_ ?_
 rotate_left
 ·rintro w' ⟨s0, s1, s2⟩
  go_simp
  with_reducible rfl
 rotate_left
 ·simp only [Act.put, List.setIfInBounds_toArray, List.set_cons_zero, List.set_cons_succ, i64_w, i32_w]
  rfl
 refine take_ (i := 3) (N := some 6) (v := ?_) (a' := ?_) #[true, true, true, true, true, false, false, false, false] rfl rfl (take_ofW HT_.out HW_.out (by kernel_rfl)) (fun _ _ _ h => h) (Or.inl ⟨by rfl, ?_⟩) hHeld ?_ ?_
 rotate_left
 ·rintro w' ⟨s0, s1, s2⟩
  go_simp
  with_reducible rfl
 rotate_left
 ·simp only [Act.put, List.setIfInBounds_toArray, List.set_cons_zero, List.set_cons_succ, i64_w, i32_w]
  rfl
 refine take_ (i := 5) (N := some 8) (v := ?_) (a' := ?_) #[true, true, true, true, true, true, false, false, false] rfl rfl (take_ofW HT_.out HW_.out (by kernel_rfl)) (fun _ _ _ h => h) (Or.inl ⟨by rfl, ?_⟩) hHeld ?_ ?_
 rotate_left
 ·rintro w' ⟨s0, s1, s2⟩
  go_simp
  with_reducible rfl
 rotate_left
 ·simp only [Act.put, List.setIfInBounds_toArray, List.set_cons_zero, List.set_cons_succ, i64_w, i32_w]
  rfl
 refine one_ (i := 6) (N := some 9) #[true, true, true, true, true, true, true, false, false] rfl rfl (one_of HT_.out (by kernel_rfl)) (by decide) (fun K hK => ?_)
 refine goes_ Tryz.func168 (by kernel_rfl) rfl #[.slice A0_2 l0_2.length c0_2] (by rfl) rfl rfl aq1 ?_
 with_reducible refine (slices_Clone.calls _ _ l0_2 t103 _ ?side1 ?side2 A2.out).mono ?_
 (case side1 => exact aq73)
 (case side2 => exact HC0_2.out)
 rintro e w6 ⟨v104, rfl, ho0, hb⟩
 refine ⟨_, rfl, ?_⟩
 have n0_ := Aside0.mk (Kd.R_lower ho0 (below_size aq7))
 have n1_ := Aside0.mk (blk_below (g := gb101) (o := .cells #[.int .i64 a0_0, .int .i64 a0_1, .slice A0_2 l0_2.length c0_2] 62 (0, 0)) aq5 hb)
 have n2_ := Aside0.mk (blk_below (g := gb102) (o := .cells #[.int .i64 0, .int .i64 0, .slice none 0 0] 62 (0, 0)) aq14 hb)
 have n3_ := Aside0.mk (below_step aq7 hb)
 clear BK101
 clear BK102
 clear HB
 have HO105 := n0_
 have BK101 := n1_
 have BK102 := n2_
 have HB := n3_
 clear n0_ n1_ n2_ n3_
 (try clear hb)
 (try clear hb2)
 (try clear hk)
 (try clear hi)
 (try clear ho0)
 obtain ⟨Ao7, co7, eo7⟩ := Kd.R_slice HO105.out
 (first | subst eo7 | (injection eo7 with f1_ f2_ f3_; have f4_ := f1_.symm; have f5_ := f3_.symm; clear f1_ f2_ f3_; subst f4_; subst f5_))
 refine hK.out _ _ ⟨(blk_cell BK101.out 0).trans rfl, (blk_cell BK101.out 1).trans rfl, (blk_cell BK101.out 2).trans rfl⟩ (fun hHeld => ?_)
 clear hK K
 refine norm_ (a' := ?_) ?_ ?_
 rotate_left
 ·show Act.put _ (some 9) _ = _
  simp only [Act.put, List.setIfInBounds_toArray, List.set_cons_zero, List.set_cons_succ, i64_w, i32_w]
  rfl
 refine pure_ (i := 7) (N := some 10) (v := ?_) (a' := ?_) #[true, true, true, true, true, true, true, true, false] rfl rfl (any_of HT_.out (by kernel_rfl)) (fun _ _ _ h => h) (Or.inl ⟨by rfl, ?_⟩) ?_ ?_
 rotate_left
 ·intro w'
  go_simp
  with_reducible rfl
 rotate_left
 ·simp only [Act.put, List.setIfInBounds_toArray, List.set_cons_zero, List.set_cons_succ, i64_w, i32_w]
  rfl
 refine one_ (i := 8) (N := none) #[true, true, true, true, true, true, true, true, true] rfl rfl (one_of HT_.out (by kernel_rfl)) (by decide) (fun K hK => ?_)
 have hs8 : w6.cell? ⟨gb102, 0, none⟩ = some (.int .i64 0) := (blk_cell BK102.out 0).trans rfl
 have hfs8 := blk_frozen BK102.out 0
 have hns8_0 := NB101_102.out
 have hms8_0 := NB102_101.out
 have hs9 : w6.cell? ⟨gb102, 1, none⟩ = some (.int .i64 0) := (blk_cell BK102.out 1).trans rfl
 have hfs9 := blk_frozen BK102.out 1
 have hns9_0 := NB101_102.out
 have hms9_0 := NB102_101.out
 have hs10 : w6.cell? ⟨gb102, 2, none⟩ = some (.slice none 0 0) := (blk_cell BK102.out 2).trans rfl
 have hfs10 := blk_frozen BK102.out 2
 have hns10_0 := NB101_102.out
 have hms10_0 := NB102_101.out
 refine skip_ (w1 := ?_) (by rfl) rfl ?_ ?_
 rotate_left
 ·go_simp
  rfl
 refine hK.out _ _ ⟨((cell_far (p := ⟨gb102, _, none⟩) NB101_102.out _).trans (((cell_far (p := ⟨gb102, _, none⟩) NB101_102.out _).trans (((cell_far (p := ⟨gb102, _, none⟩) NB101_102.out _).trans (hHeld.1)))))), ((cell_far (p := ⟨gb102, _, none⟩) NB101_102.out _).trans (((cell_far (p := ⟨gb102, _, none⟩) NB101_102.out _).trans (((cell_far (p := ⟨gb102, _, none⟩) NB101_102.out _).trans (hHeld.2.1)))))), ((cell_far (p := ⟨gb102, _, none⟩) NB101_102.out _).trans (((cell_far (p := ⟨gb102, _, none⟩) NB101_102.out _).trans (((cell_far (p := ⟨gb102, _, none⟩) NB101_102.out _).trans (hHeld.2.2))))))⟩ (fun hHeld => ?_)
 clear hK K
 refine done_ (done_of HT_.out (by kernel_rfl)) ?_
 try go_wp2
 refine bodyPost_ret (results_cell_row rfl _ _ gb102 62 #[.int .i64 a0_0, .int .i64 a0_1, .slice Ao7 t103.length co7] (0, 0) _ rfl aq45 Tryz.underlying62 rfl (by kernel_rfl)) rfl ?_
 exact ⟨_, aq8, by (with_reducible repeat (first | apply Kd.R_alloc | apply Kd.R_drewN | apply Kd.R_drew)); exact Kd.R_mono (Kd.R_far (p := ⟨gb102, 2, none⟩) (Kd.R_far (p := ⟨gb102, 1, none⟩) (Kd.R_far (p := ⟨gb102, 0, none⟩) (Kd.R_types HO105.out BK102.out (by decide)) (fun _ hk => hk.2) (.int .i64 a0_0)) (fun _ hk => hk.2) (.int .i64 a0_1)) (fun _ hk => hk.2) (.slice Ao7 t103.length co7)) (fun _ hk => trivial), aq7⟩
end Go.Proofs.YtipjmlcbbimfpaaGreatDoor.F

namespace Go.Proofs.YtipjmlcbbimfpaaGreatDoor
open Go.RowKit Go.Proofs.YtipjmlcbbimfpaaGreatDoorW.PrintWords Go.Proofs.YtipjmlcbbimfpaaGreatDoorW.PrintLast Go.Proofs.YtipjmlcbbimfpaaGreatDoorW.PrintMore Go.Lib Go.Shelf Go.Sort Go.Proofs.YtipjmlcbbimfpaaGreatDoor.F
attribute [local go_sem] Oper.semAt_some max2_int min2_int
set_option linter.unusedVariables false
set_option linter.unusedSimpArgs false
def revRow (m k : Nat) (L : List Int) : List Int := L.take (k * m) ++ (((L.drop (k * m)).take m).reverse ++ L.drop (k * m + m))
theorem revRow_length (m k : Nat) (L : List Int) : (revRow m k L).length = L.length := by
  unfold revRow
  simp only [List.length_append, List.length_take, List.length_reverse, List.length_drop]
  omega
def revRows (m : Nat) (ks : List Nat) (L : List Int) : List Int := ks.foldl (fun l k => revRow m k l) L
theorem revRows_snoc (m : Nat) (ks : List Nat) (k : Nat) (L : List Int) : revRows m (ks ++ [k]) L = revRow m k (revRows m ks L) := by simp [revRows]
theorem revRows_length (m : Nat) (ks : List Nat) (L : List Int) : (revRows m ks L).length = L.length := by
  induction ks generalizing L with
  | nil => rfl
  | cons k ks ih => show (revRows m ks (revRow m k L)).length = _; rw [ih, revRow_length]
theorem holds_at {W : World} {g off : Nat} {L d : List Int} {ts : List Value} {e : TypeId} (h : W.heap[g]? = some (.cells (L.map (Value.int .u8) ++ ts).toArray e (0, 0))) (hd : d = (L.drop off).take d.length) (hl : off + d.length ≤ L.length) :
    Holds (Value.int .u8) W g off d.toArray := by
  intro j hj
  have hj' : j < d.length := by simpa using hj
  have hx : d[j]! = L[off + j]! := by
    rw [getElem!_pos d j hj', getElem!_pos L (off + j) (by omega)]
    have : d[j]? = L[off + j]? := by
      rw [hd, List.getElem?_take, if_pos hj', List.getElem?_drop]
    rw [List.getElem?_eq_getElem hj', List.getElem?_eq_getElem (by omega)] at this
    exact Option.some.inj this
  constructor
  · simp only [World.cell?, h]
    have hx2 : d.toArray[j]! = L[off + j]! := by rw [← hx]; simp
    rw [hx2, getElem!_pos L (off + j) (by omega)]
    simp only [List.getElem?_toArray, List.getElem?_append_left (show off + j < (L.map (Value.int .u8)).length by simp; omega), List.getElem?_map, List.getElem?_eq_getElem (show off + j < L.length by omega)]
    rfl
  · simp only [World.frozen?, h]
    simp
theorem putRow_heap (W : World) (n g off k : Nat) (d : Array Int) : (putRow (Value.int .u8) (Sort.ahead W n) g off d).heap[k]? = if g = k then (W.heap[k]?).map (onCells (putCells (Value.int .u8) off d)) else W.heap[k]? := by
  unfold putRow mapBlock
  simp only [Array.getElem?_modify, heap_ahead]
theorem putRow_at {W : World} {g off n : Nat} {L d : List Int} {ts : List Value} {e : TypeId} (h : W.heap[g]? = some (.cells (L.map (Value.int .u8) ++ ts).toArray e (0, 0))) (hl : off + d.length ≤ L.length) :
    (putRow (Value.int .u8) (Sort.ahead W n) g off d.toArray).heap[g]? = some (.cells ((L.take off ++ (d ++ L.drop (off + d.length))).map (Value.int .u8) ++ ts).toArray e (0, 0)) := by
  rw [putRow_heap, if_pos rfl, h]
  show some (Obj.cells (putCells (Value.int .u8) off d.toArray (L.map (Value.int .u8) ++ ts).toArray) e (0, 0)) = _
  congr 2
  unfold putCells
  apply Array.ext_getElem?
  intro k
  simp only [Array.getElem?_mapIdx, List.getElem?_toArray]
  have hds : d.toArray.size = d.length := by simp
  rw [hds]
  by_cases h1 : off ≤ k ∧ k < off + d.length
  · have hkL : k < L.length := by omega
    have e1 : (List.map (Value.int .u8) L ++ ts)[k]? = some (.int .u8 (L[k]'hkL)) := by
      rw [List.getElem?_append_left (by simpa using hkL), List.getElem?_map, List.getElem?_eq_getElem hkL]; rfl
    have e2 : d.toArray[k - off]! = d[k - off]'(by omega) := by
      rw [getElem!_pos _ _ (by simp; omega)]; simp
    rw [e1, Option.map_some, if_pos h1, e2, List.getElem?_append_left (by simp; omega), List.getElem?_map, List.getElem?_append_right (by simp; omega), List.length_take, Nat.min_eq_left (by omega), List.getElem?_append_left (by omega), List.getElem?_eq_getElem (by omega)]
    rfl
  · have e3 : (fun x : Value => if off ≤ k ∧ k < off + d.length then Value.int .u8 d.toArray[k - off]! else x) = id := by
      funext x; rw [if_neg h1]; rfl
    rw [e3, Option.map_id, id]
    by_cases h2 : k < off
    · rw [List.getElem?_append_left (by simp; omega), List.getElem?_append_left (by simp; omega), List.getElem?_map, List.getElem?_map, List.getElem?_append_left (by simp; omega), List.getElem?_take, if_pos h2]
    · have h3 : off + d.length ≤ k := by omega
      by_cases h4 : k < L.length
      · rw [List.getElem?_append_left (by simp; omega), List.getElem?_append_left (by simp; omega), List.getElem?_map, List.getElem?_map, List.getElem?_append_right (by simp; omega), List.length_take, Nat.min_eq_left (by omega), List.getElem?_append_right (by omega), List.getElem?_drop]
        congr 2
        omega
      · rw [List.getElem?_append_right (by simp; omega), List.getElem?_append_right (by simp; omega)]
        congr 1
        simp only [List.length_map, List.length_append, List.length_take, List.length_drop]
        omega
theorem putRow_below {w W : World} {g off n : Nat} {d : Array Int} (hg : w.heap.size ≤ g) : Below w.heap.size W (putRow (Value.int .u8) (Sort.ahead W n) g off d) :=
  ⟨rfl, rfl, rfl, by simp, fun k hk => by rw [putRow_heap, if_neg (by omega)]⟩
theorem putRow_keeps {W : World} {g off n : Nat} {d : Array Int} {c : Array Value} {e : TypeId} (h : W.heap[g]? = some (.cells c e (0, 0))) : KeepsOthers W (putRow (Value.int .u8) (Sort.ahead W n) g off d) :=
  ⟨by simp, fun k o hk ho => by
    rw [putRow_heap]
    by_cases hgk : g = k
    · subst hgk; rw [h] at hk; cases hk; cases ho
    · rw [if_neg hgk]; exact hk⟩
theorem putRow_box {W : World} {g off n B : Nat} {d : Array Int} {t : TypeId} {v : Value} (h : Boxed W B t v) (hne : g ≠ B) : Boxed (putRow (Value.int .u8) (Sort.ahead W n) g off d) B t v := by
  unfold Boxed
  rw [putRow_heap, if_neg hne]
  exact h
theorem cells_own {β : Type} (B : Nat) (f : β → Obj) (hf : ∀ s, (f s).isCells = true) : Own (fun s W => W.heap[B]? = some (f s)) := fun s X Y row hs hg hrow => by
  refine (hg.block B (Array.getElem?_eq_some_iff.1 hs).1 (fun e' => ?_)).trans hs
  obtain ⟨o, ho, hc⟩ := hrow B e'.symm
  rw [hs] at ho; cases ho; rw [hf] at hc; cases hc
def impl_tray_mirrored.f (a0 a1 : Int) (l : List Int) : Option (Int × Int × List Int) :=
  if 1 ≤ a0 ∧ a0 < 65536 ∧ l.length < 65536 ∧ l.length % a0.toNat = 0 ∧ 0 < l.length then some (a0, a1, revRows a0.toNat (List.range (l.length / a0.toNat)) l) else none
set_option maxRecDepth 100000 in
set_option maxHeartbeats 4000000 in
theorem impl_tray_mirrored.calls (a0_0 a0_1 : Int) (A0_2 : Option Addr) (c0_2 : Nat) (l0_2 : List Int) (r1 r2 : Int) (r3 : List Int) (w : World) (hr0_2 : Kd.C (Kd.int .u8) w A0_2 l0_2.length l0_2) (hc0_2 : l0_2.length ≤ c0_2) (h : impl_tray_mirrored.f a0_0 a0_1 l0_2 = some (r1, r2, r3)) :
    Calls Tryz.prog 80 #[.agg #[.int .i64 a0_0, .int .i64 a0_1, .slice A0_2 l0_2.length c0_2]] w fun e w' => ∃ v2_ : Value, e = .returned (.agg #[.int .i64 r1, .int .i64 r2, v2_]) ∧ Kd.R (Kd.int .u8) 5 w' w.heap.size (fun _ => True) v2_ r3 ∧ Below w.heap.size w w' := by
  unfold impl_tray_mirrored.f at h
  split at h
  case isFalse => cases h
  rename_i hc
  obtain ⟨hm1, hm2, hl1, hmod, hl0⟩ := hc
  obtain ⟨m, rfl⟩ := Int.eq_ofNat_of_zero_le (show 0 ≤ a0_0 by omega)
  rw [Int.toNat_natCast] at hmod h
  have hm : 1 ≤ m := by omega
  obtain ⟨cnt, hcnt⟩ : ∃ c, l0_2.length = c * m := ⟨l0_2.length / m, (Nat.div_mul_cancel (Nat.dvd_of_mod_eq_zero hmod)).symm⟩
  have hdiv : l0_2.length / m = cnt := by rw [hcnt, Nat.mul_div_cancel cnt (by omega)]
  rw [hdiv] at h
  injection h with h
  injection h with h1 h
  injection h with h2 h3
  subst h1 h2 h3
  have hcm : cnt ≤ cnt * m := Nat.le_mul_of_pos_right cnt (by omega)
  have hown : impl_tray_own.f m a0_1 l0_2 = some ((m : Int), a0_1, l0_2) := by
    unfold impl_tray_own.f slices_Clone.f
    rw [if_pos ⟨hl0, hl1⟩]; rfl
  have HOWN := Aside0.mk hown
  have HC := Aside0.mk hc0_2
  have HR := Aside0.mk hr0_2
  have HL := Aside0.mk hl1
  have HCNT := Aside0.mk hcnt
  have HCM := Aside0.mk hcm
  have HL0 := Aside0.mk hl0
  have HM := Aside0.mk hm
  have HM1 := Aside0.mk hm1
  have HM2 := Aside0.mk hm2
  have hcall : ∀ W, Below w.heap.size w W → Calls Tryz.prog 131 #[.agg #[.int .i64 m, .int .i64 a0_1, .slice A0_2 l0_2.length c0_2]] W fun e w' => ∃ g co ts, e = .returned (.agg #[.int .i64 m, .int .i64 a0_1, .slice (some ⟨g, 0, none⟩) l0_2.length co]) ∧ W.heap.size ≤ g ∧ l0_2.length ≤ co ∧ w'.heap[g]? = some (.cells (l0_2.map (Value.int .u8) ++ ts).toArray 5 (0, 0)) ∧ ts.length + l0_2.length = co ∧ co ≤ maxLen ∧ Below W.heap.size W w' := fun W hW => by
    refine (impl_tray_own.calls m a0_1 A0_2 c0_2 l0_2 m a0_1 l0_2 W (Kd.C_below HR.out hW) HC.out HOWN.out).mono ?_
    rintro e w' ⟨v2, rfl, ho, hb⟩
    obtain ⟨_, ⟨rfl, h0⟩ | ⟨g, cap, cur, rfl, hg, hrow, hcl, hcm, hsz, htk⟩⟩ := Kd.own_of_R (enc := Value.int .u8) (h1 := fun _ => rfl) ho
    · have := HL0.out; omega
    · refine ⟨g, cap, cur.toList.drop l0_2.length, rfl, hg, hcl, ?_, ?_, hcm, hb⟩
      · rw [hrow]
        congr 2
        have : l0_2.map (Value.int .u8) ++ cur.toList.drop l0_2.length = cur.toList := by
          rw [show l0_2.map (Value.int .u8) = cur.toList.take l0_2.length from by rw [← encs, ← htk, Nat.mul_one]]
          exact List.take_append_drop _ _
        rw [this]
      · rw [List.length_drop, Array.length_toList]; omega
  clear hl1 hl0 hcm hown hc0_2 hr0_2 hcnt hmod hdiv hm hm1 hm2
  refine (callsIn_wide (n := 3)).1 ?_
  refine callsIn_of_wp_marks Tryz.func80 rfl trivial ?_ rfl
  simp only [Tryz.ntmps80, List.size_toArray, List.length_cons, List.length_nil, Nat.reduceAdd, Nat.reduceSub, Array.replicate_succ, Array.replicate_zero, List.push_toArray, List.append_toArray, List.nil_append, List.cons_append]
  refine wpIn_wide.2 ?_
  go_wp2_with (first
    | ((with_reducible refine gate_dst (N := 1) rfl ?_); refine box_event ?hg (N := 1) ?hd (cs := #[.int .i64 m, .int .i64 a0_1, .slice A0_2 l0_2.length c0_2]) (t := 62) ?hr ?_; (case hd => rfl); (case hg => rfl); (case hr => first | (go_simp; done) | (go_simp; rfl)); intro b1 hg1 w3 hbox1 hb1; have G1 := Aside0.mk hg1; have X1 := Aside0.mk hbox1; have B1 := Aside0.mk hb1; clear hg1 hbox1 hb1)
    | ((with_reducible refine gate_dst (N := 2) rfl ?_); refine box_event ?hg (N := 2) ?hd (cs := #[.int .i64 0, .int .i64 0, .slice none 0 0]) (t := 62) ?hr ?_; (case hd => rfl); (case hg => rfl); (case hr => first | (go_simp; done) | (go_simp; rfl)); intro b2 hg2 w4 hbox2 hb2; have G2 := Aside0.mk hg2; have X2 := Aside0.mk hbox2; have B2 := Aside0.mk (below_step B1.out hb2); have n1 := Aside0.mk (blk_below X1.out hb2); clear X1; have X1 := n1; clear n1; have z10 : w4.cell? ⟨b1, 0, none⟩ = some (.int .i64 m) := (blk_cell X1.out 0).trans rfl; have z11 : w4.cell? ⟨b1, 1, none⟩ = some (.int .i64 a0_1) := (blk_cell X1.out 1).trans rfl; have z12 : w4.cell? ⟨b1, 2, none⟩ = some (.slice A0_2 l0_2.length c0_2) := (blk_cell X1.out 2).trans rfl; clear hg2 hbox2 hb2)
    | (go_at_call 131; refine (hcall _ B2.out).mono ?_; rintro e w5 ⟨g, co, ts, rfl, hg0, hco, hrow, hts, hcb, hb⟩; have G0 := Aside0.mk hg0; have HCO := Aside0.mk hco; have HROW := Aside0.mk hrow; have HTS := Aside0.mk hts; have HCB := Aside0.mk hcb; have B5 := Aside0.mk (below_step B2.out hb); have n1 := Aside0.mk (blk_below X1.out hb); have n2 := Aside0.mk (blk_below X2.out hb); clear X1 X2; have X1 := n1; have X2 := n2; clear n1 n2 hb hg0 hco hrow hts hcb z10 z11 z12; have z10 : w5.cell? ⟨b1, 0, none⟩ = some (.int .i64 m) := (blk_cell X1.out 0).trans rfl; have hz1 : ∀ o, (w5.alloc o).cell? ⟨b1, 0, none⟩ = some (.int .i64 m) := fun o => (((Below.refl w5.heap.size w5).alloc (Nat.le_refl _) o).cell (p := ⟨b1, 0, none⟩) (blk_lt X1.out)).trans z10)
    | (go_at_call 132; refine (callsIn_wide.1 (chunk_in Fence.wide 2 trivial rfl _ _ _ m HM.out _)).mono ?_; rintro e w7 ⟨rfl, hw7⟩; clear hz1 z10))
  clear hcall
  obtain ⟨b3, hb3⟩ : ∃ b3, w5.heap.size = b3 := ⟨_, rfl⟩
  have L1 : b1 < b3 := by rw [← hb3]; exact blk_lt X1.out
  have L2 : b2 < b3 := by rw [← hb3]; exact blk_lt X2.out
  have L3 : g < b3 := by rw [← hb3]; exact blk_lt HROW.out
  have hb5 := B5.out
  have hsz0 : w.heap.size ≤ b3 := by rw [← hb3]; exact hb5.size
  have hgw : w.heap.size ≤ g := Nat.le_trans B2.out.size G0.out
  have HWB := Aside0.mk (show w.heap.size ≤ b2 from G2.out ▸ B1.out.size)
  obtain ⟨W8, hW8⟩ : ∃ W8, ((w5.alloc (.cells #[.int .i64 m, .int .i64 a0_1, .slice (some ⟨g, 0, none⟩) l0_2.length co] 62)).alloc (.cells #[.slice (some ⟨g, 0, none⟩) l0_2.length co] 22)).alloc (.cells #[.int .i64 m] 3) = W8 := ⟨_, rfl⟩
  have hs8 : W8.heap.size = b3 + 1 + 1 + 1 := by rw [← hW8]; simp [hb3]
  have hB58 : Below b3 w5 W8 := by rw [← hW8, ← hb3]; exact (((Below.refl _ w5).alloc (Nat.le_refl _) _).alloc (by simp) _).alloc (by simp; omega) _
  have hB8 : Below w.heap.size w W8 := by rw [← hW8]; exact ((hb5.alloc (by omega) _).alloc (by simp; omega) _).alloc (by simp; omega) _
  have x3 : W8.heap[b3]? = some (.cells #[.int .i64 m, .int .i64 a0_1, .slice (some ⟨g, 0, none⟩) l0_2.length co] 62 (0, 0)) := by
    rw [← hW8, Below.heap_alloc _ _ _ (by simp; omega), Below.heap_alloc _ _ _ (by simp; omega), ← hb3]; exact World.alloc_heap_new w5 _
  have bS : Boxed W8 (b3 + 1) 22 (.slice (some ⟨g, 0, none⟩) l0_2.length co) := by
    have := Boxed.new (w5.alloc (.cells #[.int .i64 m, .int .i64 a0_1, .slice (some ⟨g, 0, none⟩) l0_2.length co] 62)) 22 (.slice (some ⟨g, 0, none⟩) l0_2.length co)
    rw [World.size_alloc, hb3] at this
    rw [← hW8]; exact this.alloc _
  have bN : Boxed W8 (b3 + 1 + 1) 3 (.int .i64 m) := by
    have := Boxed.new ((w5.alloc (.cells #[.int .i64 m, .int .i64 a0_1, .slice (some ⟨g, 0, none⟩) l0_2.length co] 62)).alloc (.cells #[.slice (some ⟨g, 0, none⟩) l0_2.length co] 22)) 3 (.int .i64 m)
    rw [World.size_alloc, World.size_alloc, hb3] at this
    rw [← hW8]; exact this
  have row8 := (hB58.block g L3).trans HROW.out
  have x2 := (hB58.block b2 L2).trans X2.out
  rw [hW8]
  try simp only [hb3]
  have HB8 := Aside0.mk (show w.heap.size ≤ W8.heap.size from hB8.size)
  have hcm : cnt ≤ cnt * m := HCM.out
  have hcnt := HCNT.out
  have hl1 := HL.out
  have hm := HM.out
  have hco := HCO.out
  have hm2 : m < 65536 := by have := HM2.out; omega
  clear hW8 hB58 hb5 X1 X2 HROW B5 G0 B1 B2 G1 G2
  refine wpIn_wide.1 (?_ : Code.wpIn Fence.wide 3 _ _ _ _ _)
  refine wpIn_rangeFunc_ownG rfl (show 1 ≤ 3 by decide) (gf := 169) (lb := #[.pointer (some ⟨b3 + 1, 0, none⟩), .pointer (some ⟨b3 + 1 + 1, 0, none⟩)]) rfl trivial (enters_of Tryz.func169 (by kernel_rfl) rfl)
    (chunk_stops (3 - 1) (by decide) _ _ g 0 m cnt co hm (by omega) (by omega) (by omega) W8 (by omega) (by omega) (by rw [← hcnt]; exact bS.cell) bN.cell) KeepTwo.trans (KeepTwo.put (by omega) (by omega)) (Below.refl _ _) (fun _ => rfl)
    (fun (pre : List (Fin cnt)) W => W.heap[g]? = some (.cells ((revRows m (pre.map fun k => k.1) l0_2).map (Value.int .u8) ++ ts).toArray 5 (0, 0)) ∧ (Boxed W (b3 + 1) 22 (.slice (some ⟨g, 0, none⟩) l0_2.length co) ∧ Boxed W (b3 + 1 + 1) 3 (.int .i64 m)) ∧ (W.heap[b3]? = some (.cells #[.int .i64 m, .int .i64 a0_1, .slice (some ⟨g, 0, none⟩) l0_2.length co] 62 (0, 0)) ∧ W.heap[b2]? = some (.cells #[.int .i64 0, .int .i64 0, .slice none 0 0] 62 (0, 0))) ∧ Below w.heap.size w W)
    (fun _ _ _ => False)
    (OwnFrom.and (Own.from (cells_own g _ (fun _ => rfl)) _) (OwnFrom.and (OwnFrom.and (Own.from (boxed_own _ _ _) _) (Own.from (boxed_own _ _ _) _)) (OwnFrom.and (OwnFrom.and (Own.from (cells_own b3 _ (fun _ => rfl)) _) (Own.from (cells_own b2 _ (fun _ => rfl)) _)) (ownFrom_below (Nat.le_refl _) (by omega)))))
    (fun _ _ _ _ _ hs _ _ => hs)
    ⟨row8, ⟨bS, bN⟩, ⟨x3, x2⟩, hB8⟩
    (fun x => { tmps := #[.agg #[.int .i64 m, .int .i64 a0_1, .slice A0_2 l0_2.length c0_2], .pointer (some ⟨b1, 0, none⟩), .pointer (some ⟨b2, 0, none⟩), .pointer (some ⟨b3, 0, none⟩), .slice (some ⟨g, x.1 * m, none⟩) m m, .agg #[.int .i64 m, .int .i64 a0_1, .slice A0_2 l0_2.length c0_2], .agg #[.int .i64 m, .int .i64 a0_1, .slice (some ⟨g, 0, none⟩) l0_2.length co], .pointer (some ⟨b3, 2, none⟩), .slice (some ⟨g, 0, none⟩) l0_2.length co, .pointer (some ⟨b1, 0, none⟩), .int .i64 m, .func (.func 169) #[] #[.pointer (some ⟨b3 + 1, 0, none⟩), .pointer (some ⟨b3 + 1 + 1, 0, none⟩)], .slice (some ⟨g, x.1 * m, none⟩) m m, undef, undef, undef], defers := [] }) ?assign ?body ?done ?stop
  case assign =>
    clear hcnt hl1 hcm
    intro l x W K hK
    dsimp only [chunkEnc]
    rw [Nat.zero_add]
    gi_wp2
    exact hK
  case stop =>
    rintro D c pre W _ _ h _
    exact h.elim
  case body =>
    rintro l pre x W ⟨row, ⟨bS', bN'⟩, ⟨x3', x2'⟩, hB⟩ hlt
    have hxm : x.1 * m + m ≤ l0_2.length := by
      have := Nat.mul_le_mul_right m (Nat.succ_le_of_lt x.2)
      rw [Nat.succ_mul] at this
      rw [hcnt]; exact this
    have hlen := revRows_length m (pre.map fun k => k.1) l0_2
    have hnext := revRows_snoc m (pre.map fun k => k.1) x.1 l0_2
    obtain ⟨L, hL⟩ : ∃ L, revRows m (pre.map fun k => k.1) l0_2 = L := ⟨_, rfl⟩
    rw [hL] at row hlen hnext
    obtain ⟨zs, hzs⟩ : ∃ zs, (L.drop (x.1 * m)).take m = zs := ⟨_, rfl⟩
    have hzl : zs.length = m := by rw [← hzs, List.length_take, List.length_drop]; omega
    have hrev : Calls Tryz.prog 133 #[.slice (some ⟨g, x.1 * m, none⟩) m m] W fun e w' => e = .returned (.tuple #[]) ∧ ∃ n, w' = putRow (Value.int .u8) (Sort.ahead W n) g (x.1 * m) zs.reverse.toArray := by
      have := Tryz.slices_Reverse (α := Int) (Value.int .u8) (fun _ => rfl) g (x.1 * m) m zs W (holds_at row (by rw [hzl, hzs]) (by omega)) (by omega)
      rw [hzl] at this; exact this
    have HREV := Aside0.mk hrev
    have ROW := Aside0.mk row
    have BS := Aside0.mk bS'
    have BN := Aside0.mk bN'
    have Y3 := Aside0.mk x3'
    have Y2 := Aside0.mk x2'
    have HBW := Aside0.mk hB
    have LEN := Aside0.mk (And.intro hxm (And.intro hlen (And.intro hzl (And.intro hnext hzs))))
    have LL := Aside0.mk (And.intro L1 (And.intro L2 (And.intro L3 (And.intro hgw hL))))
    clear hxm hlen hnext hzl hrev row bS' bN' x3' x2' hB hlt hcnt hcm hl1 hm hm2 hco hs8 hB8 x3 x2 bS bN row8 L1 L2 L3 hsz0 hgw hL hzs
    gi_wp2_with (refine ⟨trivial, ?_⟩; gi_at_call 133; refine (CallsIn.inRound l ((callsIn_wide (n := _)).2 HREV.out)).mono ?_; rintro e w' ⟨rfl, n, rfl⟩)
    obtain ⟨hxm, hlen, hzl, hnext, hzs⟩ := LEN.out
    obtain ⟨L1, L2, L3, hgw, hL⟩ := LL.out
    have hzr : zs.reverse.length = m := by rw [List.length_reverse]; exact hzl
    have r1 := putRow_at (n := n) ROW.out (off := x.1 * m) (d := zs.reverse) (by omega)
    have e1 : L.take (x.1 * m) ++ (zs.reverse ++ L.drop (x.1 * m + zs.reverse.length)) = revRow m x.1 L := by rw [hzr, ← hzs]; rfl
    rw [e1, ← hnext] at r1
    have b1' := putRow_box (off := x.1 * m) (n := n) (d := zs.reverse.toArray) BS.out (show g ≠ b3 + 1 by omega)
    have b2' := putRow_box (off := x.1 * m) (n := n) (d := zs.reverse.toArray) BN.out (show g ≠ b3 + 1 + 1 by omega)
    have hgb2 : g ≠ b2 := blk_ne ROW.out Y2.out (by decide)
    refine ⟨(putRow_keeps ROW.out).from _, ⟨b1'.cell.trans BS.out.cell.symm, b2'.cell.trans BN.out.cell.symm⟩, ⟨?_, ⟨b1', b2'⟩, ⟨?_, ?_⟩, HBW.out.trans (putRow_below hgw)⟩⟩
    · rw [List.map_append]; exact r1
    · rw [putRow_heap, if_neg (by omega)]; exact Y3.out
    · rw [putRow_heap, if_neg hgb2]; exact Y2.out
  case done =>
    rintro D ys W hD rfl ⟨row, _, ⟨x3', x2'⟩, hB⟩ hK
    have hl : (List.finRange cnt).map (fun k => k.1) = List.range cnt := by
      apply List.ext_getElem
      · simp
      · intro i h1 h2; simp
    rw [hl] at row
    have y0 : W.cell? ⟨b3, 0, none⟩ = some (.int .i64 m) := (blk_cell x3' 0).trans rfl
    have y1 : W.cell? ⟨b3, 1, none⟩ = some (.int .i64 a0_1) := (blk_cell x3' 1).trans rfl
    have y2 : W.cell? ⟨b3, 2, none⟩ = some (.slice (some ⟨g, 0, none⟩) l0_2.length co) := (blk_cell x3' 2).trans rfl
    have c0 : W.cell? ⟨b2, 0, none⟩ = some (.int .i64 0) := (blk_cell x2' 0).trans rfl
    have c1 : W.cell? ⟨b2, 1, none⟩ = some (.int .i64 0) := (blk_cell x2' 1).trans rfl
    have c2 : W.cell? ⟨b2, 2, none⟩ = some (.slice none 0 0) := (blk_cell x2' 2).trans rfl
    have f0 := blk_frozen x2' 0
    have f1 := blk_frozen x2' 1
    have f2 := blk_frozen x2' 2
    have ROW := Aside0.mk row
    have Y2 := Aside0.mk x2'
    have HBW := Aside0.mk hB
    have HK := Aside0.mk hK
    have HD := Aside0.mk hD
    have LL := Aside0.mk (And.intro L1 (And.intro L2 (And.intro L3 (And.intro hgw hcnt))))
    clear row x3' x2' hB hK hD hcnt hcm hl1 hm hm2 hco hs8 hB8 x3 x2 bS bN row8 L1 L2 L3 hsz0 hgw hl
    gi_wp2
    go_wp2
    obtain ⟨L1, L2, L3, hgw, hcnt⟩ := LL.out
    have hgb2 : g ≠ b2 := blk_ne ROW.out Y2.out (by decide)
    obtain ⟨W9, hW9⟩ : ∃ W9, ((W.setCell ⟨b2, 0, none⟩ (.int .i64 m)).setCell ⟨b2, 1, none⟩ (.int .i64 a0_1)).setCell ⟨b2, 2, none⟩ (.slice (some ⟨g, 0, none⟩) l0_2.length co) = W9 := ⟨_, rfl⟩
    have row9 : W9.heap[g]? = some (.cells ((revRows m (List.range cnt) l0_2).map (Value.int .u8) ++ ts).toArray 5 (0, 0)) := by rw [← hW9]; exact blk_far (blk_far (blk_far ROW.out (p := ⟨b2, 0, none⟩) hgb2 _) (p := ⟨b2, 1, none⟩) hgb2 _) (p := ⟨b2, 2, none⟩) hgb2 _
    have x9 : W9.heap[b2]? = some (.cells #[.int .i64 m, .int .i64 a0_1, .slice (some ⟨g, 0, none⟩) l0_2.length co] 62 (0, 0)) := by
      rw [← hW9]; exact blk_put (blk_put (blk_put Y2.out 0 _ rfl) 1 _ rfl) 2 _ rfl
    have hgrow9 : W9.heap.size = W.heap.size := by rw [← hW9]; simp
    have hDb2 : D ≠ b2 := fun e => by have h1 := HK.out; rw [e, Y2.out] at h1; cases h1
    have hK9 : W9.heap[D]? = some (.deferred (some [])) := by
      rw [← hW9, Below.heap_setCell _ _ _ _ (by exact hDb2), Below.heap_setCell _ _ _ _ (by exact hDb2), Below.heap_setCell _ _ _ _ (by exact hDb2)]; exact HK.out
    rw [hW9]
    refine ⟨by simp, .inl ⟨_, _, rfl, run_takeDeferred hK9, ?_⟩⟩
    have hw2 : w.heap.size ≤ b2 := HWB.out
    have hbb : ∀ (X : World) (i : Nat) (v : Value), Below w.heap.size w X → Below w.heap.size w (X.setCell ⟨b2, i, none⟩ v) := fun X i v h => h.setCell (p := ⟨b2, i, none⟩) hw2 v
    have hB9 : Below w.heap.size w W9 := by rw [← hW9]; exact hbb _ 2 _ (hbb _ 1 _ (hbb _ 0 _ HBW.out))
    have hDg : D ≠ g := fun e => by have h1 := hK9; rw [e, row9] at h1; cases h1
    have x9' : (W9.putObj D (.deferred none)).heap[b2]? = _ := (World.putObj_heap_other (fun e => hDb2 e.symm)).trans x9
    have row9' : (W9.putObj D (.deferred none)).heap[g]? = _ := (World.putObj_heap_other (fun e => hDg e.symm)).trans row9
    refine ⟨_, results_cell_row rfl _ _ b2 62 _ (0, 0) _ rfl x9' Tryz.underlying62 rfl (by kernel_rfl), .slice (some ⟨g, 0, none⟩) l0_2.length co, rfl, ?_, hB9.trans (belowK_b (w := w) (Nat.le_refl _) W9 D _ _ ?_ hK9 rfl rfl)⟩
    · have hrl := revRows_length m (List.range cnt) l0_2
      rw [← hrl]
      refine Kd.R_of_own (enc := Value.int .u8) (h1 := fun _ => rfl) ?_ (fun _ _ => trivial)
      refine ⟨by simp [encs], .inr ⟨g, co, _, rfl, hgw, row9', by rw [hrl]; exact HCO.out, HCB.out, ?_, ?_⟩⟩
      · have := HTS.out
        simp [hrl]; omega
      · rw [Nat.mul_one, List.take_append_of_le_length (by simp), List.take_of_length_le (by simp)]; rfl
    · have := HD.out
      have := HB8.out
      omega
def turnN (k : Nat) : Nat → Int → Int → List Int → Option (Int × Int × List Int)
  | 0, a, b, l => some (a, b, l)
  | n + 1, a, b, l => (impl_tray_turned.f k a b l).bind fun t => turnN k n t.1 t.2.1 t.2.2
def impl_tray_moved.f (k : Nat) (a0 a1 : Int) (l : List Int) (mv : Int) : Option (Int × Int × List Int) :=
  if 0 ≤ mv ∧ mv < 8 ∧ 0 < l.length then (if 4 ≤ mv then (impl_tray_mirrored.f a0 a1 l).bind fun t => turnN k (mv.toNat % 4) t.1 t.2.1 t.2.2 else turnN k (mv.toNat % 4) a0 a1 l) else none
theorem C_set {w : World} {A : Option Addr} {n : Nat} {xs : List Int} (h : (Kd.int .u8).C w A n xs) {p : Addr} (u : Value) (hne : ∀ ad, A = some ad → ad.block ≠ p.block) : (Kd.int .u8).C (w.setCell p u) A n xs := by
  obtain ⟨h1, h2, h3⟩ := Kd.reads_of_C (enc := Value.int .u8) (d := (0 : Int)) (h1 := fun _ => rfl) h
  refine Kd.C_of_reads (h1 := fun _ => rfl) (d := (0 : Int)) ⟨h1, h2, fun hn => ?_⟩
  obtain ⟨ad, e, hc⟩ := h3 hn
  refine ⟨ad, e, fun j hj => ?_⟩
  rw [← hc j hj]
  refine World.cell?_of_block (Below.heap_setCell w p u _ ?_)
  have : (ad.add j).block = ad.block := by unfold Addr.add; split <;> rfl
  rw [this]
  exact hne ad e
theorem R_far {w : World} {base : Nat} {v : Value} {xs : List Int} (h : Kd.R (Kd.int .u8) 5 w base (fun _ => True) v xs) : ∃ A c, v = .slice A xs.length c ∧ (Kd.int .u8).C w A xs.length xs ∧ xs.length ≤ c ∧ ∀ ad, A = some ad → base ≤ ad.block := by
  obtain ⟨A, c, rfl⟩ := Kd.R_slice h
  have hr := Kd.R_reads' h
  refine ⟨A, c, rfl, hr.2.2, hr.2.1, fun ad e => ?_⟩
  subst e
  obtain ⟨_, ⟨e0, _⟩ | ⟨g, cap, cur, e0, hg, _⟩⟩ := Kd.own_of_R (enc := Value.int .u8) (h1 := fun _ => rfl) h
  · cases e0
  · cases e0; exact hg
set_option maxRecDepth 100000 in
set_option maxHeartbeats 4000000 in
theorem moved_calls (k : Nat) (a0_0 a0_1 : Int) (A0_2 : Option Addr) (c0_2 : Nat) (l0_2 : List Int) (mv : Int) (r1 r2 : Int) (r3 : List Int) (w : World) (hr0_2 : Kd.C (Kd.int .u8) w A0_2 l0_2.length l0_2) (hc0_2 : l0_2.length ≤ c0_2) (h : impl_tray_moved.f k a0_0 a0_1 l0_2 mv = some (r1, r2, r3)) :
    Calls Tryz.prog 128 #[.agg #[.int .i64 a0_0, .int .i64 a0_1, .slice A0_2 l0_2.length c0_2], .int .i64 mv] w fun e w' => ∃ A' c', e = .returned (.agg #[.int .i64 r1, .int .i64 r2, .slice A' r3.length c']) ∧ Kd.C (Kd.int .u8) w' A' r3.length r3 ∧ r3.length ≤ c' ∧ Below w.heap.size w w' := by
  unfold impl_tray_moved.f at h
  split at h
  case isFalse => cases h
  rename_i hc
  obtain ⟨n, rfl⟩ := Int.eq_ofNat_of_zero_le hc.1
  rw [Int.toNat_natCast] at h
  obtain ⟨hn0, hn8', hl0⟩ := hc
  have hn8 : n < 8 := by omega
  obtain ⟨bk, ok, hA, hbk, _⟩ := C_place hr0_2 hl0
  have hA0 : ∀ ad, A0_2 = some ad → ad.block < w.heap.size := by rintro ad rfl; cases hA; exact hbk
  have HA0 := Aside0.mk hA0
  clear hA0 hA hbk hn0 hn8' hl0
  obtain ⟨q, hq⟩ : ∃ q, n % 4 = q := ⟨_, rfl⟩
  rw [hq] at h
  have hrem : (n : Int) % 4 = (q : Int) := by omega
  have HC := Aside0.mk hc0_2
  have HR := Aside0.mk hr0_2
  have HH := Aside0.mk h
  have HQ := Aside0.mk hq
  have HN := Aside0.mk hn8
  clear h hq hn8
  have hm : ∀ t : Int × Int × List Int, impl_tray_mirrored.f a0_0 a0_1 l0_2 = some t → ∀ W, Below w.heap.size w W → Calls Tryz.prog 80 #[.agg #[.int .i64 a0_0, .int .i64 a0_1, .slice A0_2 l0_2.length c0_2]] W fun e w' => ∃ A c, e = .returned (.agg #[.int .i64 t.1, .int .i64 t.2.1, .slice A t.2.2.length c]) ∧ (Kd.int .u8).C w' A t.2.2.length t.2.2 ∧ t.2.2.length ≤ c ∧ (∀ ad, A = some ad → W.heap.size ≤ ad.block) ∧ Below W.heap.size W w' := fun t ht W hW => by
    refine (impl_tray_mirrored.calls a0_0 a0_1 A0_2 c0_2 l0_2 t.1 t.2.1 t.2.2 W (Kd.C_below HR.out hW) HC.out ht).mono ?_
    rintro e w' ⟨v, rfl, ho, hb⟩
    obtain ⟨A, c, rfl, h1, h2, h3⟩ := R_far ho
    exact ⟨A, c, rfl, h1, h2, h3, hb⟩
  have ht : ∀ (a b : Int) (l : List Int) (A : Option Addr) (c : Nat) (t : Int × Int × List Int) (W : World), impl_tray_turned.f k a b l = some t → (Kd.int .u8).C W A l.length l → l.length ≤ c → Calls Tryz.prog 78 #[.agg #[.int .i64 a, .int .i64 b, .slice A l.length c]] W fun e w' => ∃ A c, e = .returned (.agg #[.int .i64 t.1, .int .i64 t.2.1, .slice A t.2.2.length c]) ∧ (Kd.int .u8).C w' A t.2.2.length t.2.2 ∧ t.2.2.length ≤ c ∧ (∀ ad, A = some ad → W.heap.size ≤ ad.block) ∧ Below W.heap.size W w' := fun a b l A c t W h1 h2 h3 => by
    refine (impl_tray_turned.calls k a b A c l t.1 t.2.1 t.2.2 W h2 h3 h1).mono ?_
    rintro e w' ⟨v, rfl, ho, hb⟩
    obtain ⟨A, c, rfl, h1, h2, h3⟩ := R_far ho
    exact ⟨A, c, rfl, h1, h2, h3, hb⟩
  clear hr0_2 hc0_2
  by_cases h4 : 4 ≤ (n : Int)
  · obtain ⟨t, hmt, htt⟩ := Option.bind_eq_some_iff.1 (by have := HH.out; rw [if_pos h4] at this; exact this)
    have HM := Aside0.mk (hm t hmt)
    have HT := Aside0.mk htt
    clear hm hmt htt HH
    go_enter Tryz.func128, Tryz.ntmps128
    go_wp2_with (first
      | ((with_reducible refine gate_dst (N := 2) rfl ?_); refine box_event ?hg (N := 2) ?hd (cs := #[.int .i64 a0_0, .int .i64 a0_1, .slice A0_2 l0_2.length c0_2]) (t := 62) ?hr ?_; (case hd => rfl); (case hg => rfl); (case hr => first | (go_simp; done) | (go_simp; rfl)); intro b1 hg1 w3 hbox1 hb1; have G1 := Aside0.mk hg1; have X1 := Aside0.mk hbox1; have HX1 := Aside0.mk (blk_lt hbox1); have B1 := Aside0.mk hb1; clear hg1 hbox1 hb1)
      | ((with_reducible refine gate_dst (N := 4) rfl ?_); refine box_event ?hg (N := 4) ?hd (cs := #[.int .i64 0, .int .i64 0, .slice none 0 0]) (t := 62) ?hr ?_; (case hd => rfl); (case hg => rfl); (case hr => first | (go_simp; done) | (go_simp; rfl)); intro b2 hg2 w4 hbox2 hb2; have G2 := Aside0.mk hg2; have X2 := Aside0.mk hbox2; have B2 := Aside0.mk (below_step B1.out hb2); have n1 := Aside0.mk (blk_below X1.out hb2); clear X1; have X1 := n1; clear n1; have z10 : w4.cell? ⟨b1, 0, none⟩ = some (.int .i64 a0_0) := (blk_cell X1.out 0).trans rfl; have z11 : w4.cell? ⟨b1, 1, none⟩ = some (.int .i64 a0_1) := (blk_cell X1.out 1).trans rfl; have z12 : w4.cell? ⟨b1, 2, none⟩ = some (.slice A0_2 l0_2.length c0_2) := (blk_cell X1.out 2).trans rfl; clear hg2 hbox2 hb2)
      | (go_at_call 80; refine (HM.out _ B2.out).mono ?_; rintro e w5 ⟨A', c', rfl, hC', hc', hne', hb'⟩; have X1' := blk_below X1.out hb'; have X2' := blk_below X2.out hb'; have y10 : w5.cell? ⟨b1, 0, none⟩ = some (.int .i64 a0_0) := (blk_cell X1' 0).trans rfl; have y11 : w5.cell? ⟨b1, 1, none⟩ = some (.int .i64 a0_1) := (blk_cell X1' 1).trans rfl; have y12 : w5.cell? ⟨b1, 2, none⟩ = some (.slice A0_2 l0_2.length c0_2) := (blk_cell X1' 2).trans rfl; have f0 := blk_frozen X1' 0; have f1 := blk_frozen X1' 1; have f2 := blk_frozen X1' 2; have HC' := Aside0.mk hC'; have Hc' := Aside0.mk hc'; have HN' := Aside0.mk hne'; have HB' := Aside0.mk hb'; have XX1 := Aside0.mk X1'; have XX2 := Aside0.mk X2'; clear hC' hc' hne' hb' X1' X2' z10 z11 z12))
    have HB12 := Aside0.mk (show b1 ≠ b2 from fun e => by have h1 := G2.out; have h2 := blk_lt X1.out; have h3 := G1.out; have h4 := B1.out.size; have h5 : b1 < w3.heap.size := HX1.out; omega)
    have HW1 := Aside0.mk (show w.heap.size ≤ b1 from Nat.le_of_eq G1.out.symm)
    have HW2 := Aside0.mk (show w.heap.size ≤ b2 from G2.out ▸ B1.out.size)
    try simp only [hrem]
    go_loopg [11] q (fun kq0 v11 w' => ∃ (kq j : Nat) (a b : Int) (l : List Int) (A : Option Addr) (c : Nat), kq = kq0 ∧ v11 = .int .i64 j ∧ j + kq = q ∧ Aside0 (turnN k kq a b l = some (r1, r2, r3)) ∧ Aside0 (w'.heap[b1]? = some (.cells #[.int .i64 a, .int .i64 b, .slice A l.length c] 62 (0, 0))) ∧ Aside0 (w'.heap[b2]? = some (.cells #[.int .i64 0, .int .i64 0, .slice none 0 0] 62 (0, 0))) ∧ Aside0 ((Kd.int .u8).C w' A l.length l) ∧ Aside0 (l.length ≤ c) ∧ Aside0 (∀ ad, A = some ad → ad.block ≠ b1 ∧ ad.block ≠ b2) ∧ Aside0 (Below w.heap.size w w'))
    case atStart =>
      have hb12 : b1 ≠ b2 := HB12.out
      have hw1 : w.heap.size ≤ b1 := HW1.out
      have L1 := blk_lt X1.out
      have L2 := blk_lt X2.out
      have hfar : ∀ (ad : Addr), A' = some ad → ad.block ≠ b1 := fun ad e => by have := HN'.out ad e; omega
      have hfar2 : ∀ (ad : Addr), A' = some ad → ad.block ≠ b2 := fun ad e => by have := HN'.out ad e; omega
      have hb := below_step B2.out HB'.out
      exact ⟨q, 0, t.1, t.2.1, t.2.2, A', c', rfl, rfl, by omega, HT, ⟨blk_put (blk_put (blk_put XX1.out 0 _ rfl) 1 _ rfl) 2 _ rfl⟩, ⟨blk_far (blk_far (blk_far XX2.out (p := ⟨b1, 0, none⟩) (Ne.symm hb12) _) (p := ⟨b1, 1, none⟩) (Ne.symm hb12) _) (p := ⟨b1, 2, none⟩) (Ne.symm hb12) _⟩,
        ⟨C_set (C_set (C_set HC'.out _ hfar) _ hfar) _ hfar⟩, Hc', ⟨fun ad e => ⟨hfar ad e, hfar2 ad e⟩⟩, ⟨((hb.setCell (p := ⟨b1, 0, none⟩) hw1 _).setCell (p := ⟨b1, 1, none⟩) hw1 _).setCell (p := ⟨b1, 2, none⟩) hw1 _⟩⟩
    case round =>
      obtain ⟨kq, j, a, b, l, A, c, hkq, rfl, hj, HT, X1, X2, HCl, HLc, HNe, HB⟩ := hrel
      have L1 : b1 < wr.heap.size := blk_lt X1.out
      have L2 : b2 < wr.heap.size := blk_lt X2.out
      have hb12 : b1 ≠ b2 := HB12.out
      have hw1 : w.heap.size ≤ b1 := HW1.out
      have hw2 : w.heap.size ≤ b2 := HW2.out
      have z10 : wr.cell? ⟨b1, 0, none⟩ = some (.int .i64 a) := (blk_cell X1.out 0).trans rfl
      have z11 : wr.cell? ⟨b1, 1, none⟩ = some (.int .i64 b) := (blk_cell X1.out 1).trans rfl
      have z12 : wr.cell? ⟨b1, 2, none⟩ = some (.slice A l.length c) := (blk_cell X1.out 2).trans rfl
      have HKQ := Aside0.mk hkq
      clear hkq
      rcases kq with _ | kq
      · have hT := HT.out
        unfold turnN at hT
        injection hT with hT
        injection hT with e1 hT
        injection hT with e2 e3
        subst e1 e2 e3
        have hlt : ¬ ((j : Int) < (q : Int)) := by omega
        have z20 : wr.cell? ⟨b2, 0, none⟩ = some (.int .i64 0) := (blk_cell X2.out 0).trans rfl
        have z21 : wr.cell? ⟨b2, 1, none⟩ = some (.int .i64 0) := (blk_cell X2.out 1).trans rfl
        have z22 : wr.cell? ⟨b2, 2, none⟩ = some (.slice none 0 0) := (blk_cell X2.out 2).trans rfl
        have f0 := blk_frozen X2.out 0
        have f1 := blk_frozen X2.out 1
        have f2 := blk_frozen X2.out 2
        have HS := Aside0.mk (And.intro L1 (And.intro L2 (And.intro hb12 (And.intro hw1 hw2))))
        clear L1 L2 hb12 hw1 hw2 hj
        go_wp2
        obtain ⟨L1, L2, hb12, hw1, hw2⟩ := HS.out
        refine bodyPost_ret (results_cell_row rfl _ _ b2 62 #[.int .i64 a, .int .i64 b, .slice A l.length c] (0, 0) _ rfl (by exact blk_put (blk_put (blk_put X2.out 0 (.int .i64 a) rfl) 1 (.int .i64 b) rfl) 2 (.slice A l.length c) rfl) Tryz.underlying62 rfl (by kernel_rfl)) rfl ?_
        have hfar : ∀ (ad : Addr), A = some ad → ad.block ≠ b2 := fun ad e => (HNe.out ad e).2
        exact ⟨A, c, rfl, C_set (C_set (C_set HCl.out _ hfar) _ hfar) _ hfar, HLc.out, ((HB.out.setCell (p := ⟨b2, 0, none⟩) hw2 _).setCell (p := ⟨b2, 1, none⟩) hw2 _).setCell (p := ⟨b2, 2, none⟩) hw2 _⟩
      · have hT := HT.out
        unfold turnN at hT
        obtain ⟨t, ht1, ht2⟩ := Option.bind_eq_some_iff.1 hT
        have hlt : (j : Int) < (q : Int) := by omega
        have hcall := ht a b l A c t wr ht1 HCl.out HLc.out
        have HT2 := Aside0.mk ht2
        have HJ := Aside0.mk hj
        have hw64 : IntKind.i64.wrap ((j : Int) + 1) = ((j + 1 : Nat) : Int) := by rw [IntKind.wrap_i64]; have := HN.out; have := HQ.out; omega
        have HS := Aside0.mk (And.intro L1 (And.intro L2 (And.intro hb12 (And.intro hw1 hw2))))
        clear L1 L2 hb12 hw1 hw2 hT ht1 ht2 hj ht
        go_wp2_with (first | (go_at_call 78; refine hcall.mono ?_; rintro e w5 ⟨A', c', rfl, hC', hc', hne', hb'⟩; have X1' := blk_below X1.out hb'; have X2' := blk_below X2.out hb'; have y10 : w5.cell? ⟨b1, 0, none⟩ = some (.int .i64 a) := (blk_cell X1' 0).trans rfl; have y11 : w5.cell? ⟨b1, 1, none⟩ = some (.int .i64 b) := (blk_cell X1' 1).trans rfl; have y12 : w5.cell? ⟨b1, 2, none⟩ = some (.slice A l.length c) := (blk_cell X1' 2).trans rfl; have f0 := blk_frozen X1' 0; have f1 := blk_frozen X1' 1; have f2 := blk_frozen X1' 2; have HC' := Aside0.mk hC'; have Hc' := Aside0.mk hc'; have HN' := Aside0.mk hne'; have HB' := Aside0.mk hb'; have XX1 := Aside0.mk X1'; have XX2 := Aside0.mk X2'; clear hC' hc' hne' hb' X1' X2' hcall z10 z11 z12))
        obtain ⟨L1, L2, hb12, hw1, hw2⟩ := HS.out
        go_roundg kq
        case measure => have := HKQ.out; omega
        case rel =>
          have hfar : ∀ (ad : Addr), A' = some ad → ad.block ≠ b1 := fun ad e => by have := HN'.out ad e; omega
          have hfar2 : ∀ (ad : Addr), A' = some ad → ad.block ≠ b2 := fun ad e => by have := HN'.out ad e; omega
          have hb := below_step HB.out HB'.out
          exact ⟨kq, j + 1, t.1, t.2.1, t.2.2, A', c', rfl, by simp, by have := HJ.out; omega, HT2, ⟨blk_put (blk_put (blk_put XX1.out 0 _ rfl) 1 _ rfl) 2 _ rfl⟩, ⟨blk_far (blk_far (blk_far XX2.out (p := ⟨b1, 0, none⟩) (Ne.symm hb12) _) (p := ⟨b1, 1, none⟩) (Ne.symm hb12) _) (p := ⟨b1, 2, none⟩) (Ne.symm hb12) _⟩,
            ⟨C_set (C_set (C_set HC'.out _ hfar) _ hfar) _ hfar⟩, Hc', ⟨fun ad e => ⟨hfar ad e, hfar2 ad e⟩⟩, ⟨((hb.setCell (p := ⟨b1, 0, none⟩) hw1 _).setCell (p := ⟨b1, 1, none⟩) hw1 _).setCell (p := ⟨b1, 2, none⟩) hw1 _⟩⟩
  have hh := HH.out
  rw [if_neg h4] at hh
  have HT := Aside0.mk hh
  clear HH hh hm
  go_enter Tryz.func128, Tryz.ntmps128
  go_wp2_with (first
    | ((with_reducible refine gate_dst (N := 2) rfl ?_); refine box_event ?hg (N := 2) ?hd (cs := #[.int .i64 a0_0, .int .i64 a0_1, .slice A0_2 l0_2.length c0_2]) (t := 62) ?hr ?_; (case hd => rfl); (case hg => rfl); (case hr => first | (go_simp; done) | (go_simp; rfl)); intro b1 hg1 w3 hbox1 hb1; have G1 := Aside0.mk hg1; have X1 := Aside0.mk hbox1; have HX1 := Aside0.mk (blk_lt hbox1); have B1 := Aside0.mk hb1; clear hg1 hbox1 hb1)
    | ((with_reducible refine gate_dst (N := 4) rfl ?_); refine box_event ?hg (N := 4) ?hd (cs := #[.int .i64 0, .int .i64 0, .slice none 0 0]) (t := 62) ?hr ?_; (case hd => rfl); (case hg => rfl); (case hr => first | (go_simp; done) | (go_simp; rfl)); intro b2 hg2 w4 hbox2 hb2; have G2 := Aside0.mk hg2; have X2 := Aside0.mk hbox2; have B2 := Aside0.mk (below_step B1.out hb2); have n1 := Aside0.mk (blk_below X1.out hb2); clear X1; have X1 := n1; clear n1; have z10 : w4.cell? ⟨b1, 0, none⟩ = some (.int .i64 a0_0) := (blk_cell X1.out 0).trans rfl; have z11 : w4.cell? ⟨b1, 1, none⟩ = some (.int .i64 a0_1) := (blk_cell X1.out 1).trans rfl; have z12 : w4.cell? ⟨b1, 2, none⟩ = some (.slice A0_2 l0_2.length c0_2) := (blk_cell X1.out 2).trans rfl; clear hg2 hbox2 hb2))
  have HB12 := Aside0.mk (show b1 ≠ b2 from fun e => by have h1 := G2.out; have h2 := blk_lt X1.out; have h3 := G1.out; have h4 := B1.out.size; have h5 : b1 < w3.heap.size := HX1.out; omega)
  have HW1 := Aside0.mk (show w.heap.size ≤ b1 from Nat.le_of_eq G1.out.symm)
  have HW2 := Aside0.mk (show w.heap.size ≤ b2 from G2.out ▸ B1.out.size)
  go_loopg [11] q (fun kq0 v11 w' => ∃ (kq j : Nat) (a b : Int) (l : List Int) (A : Option Addr) (c : Nat), kq = kq0 ∧ v11 = .int .i64 j ∧ j + kq = q ∧ Aside0 (turnN k kq a b l = some (r1, r2, r3)) ∧ Aside0 (w'.heap[b1]? = some (.cells #[.int .i64 a, .int .i64 b, .slice A l.length c] 62 (0, 0))) ∧ Aside0 (w'.heap[b2]? = some (.cells #[.int .i64 0, .int .i64 0, .slice none 0 0] 62 (0, 0))) ∧ Aside0 ((Kd.int .u8).C w' A l.length l) ∧ Aside0 (l.length ≤ c) ∧ Aside0 (∀ ad, A = some ad → ad.block ≠ b1 ∧ ad.block ≠ b2) ∧ Aside0 (Below w.heap.size w w'))
  case atStart => exact ⟨q, 0, _, _, _, _, _, rfl, rfl, by omega, HT, X1, X2, ⟨Kd.C_below HR.out B2.out⟩, HC, ⟨fun ad e => by have := HA0.out ad e; have := G1.out; have := G2.out; have := B1.out.size; omega⟩, B2⟩
  case round =>
    obtain ⟨kq, j, a, b, l, A, c, hkq, rfl, hj, HT, X1, X2, HCl, HLc, HNe, HB⟩ := hrel
    have L1 : b1 < wr.heap.size := blk_lt X1.out
    have L2 : b2 < wr.heap.size := blk_lt X2.out
    have hb12 : b1 ≠ b2 := HB12.out
    have hw1 : w.heap.size ≤ b1 := HW1.out
    have hw2 : w.heap.size ≤ b2 := HW2.out
    have z10 : wr.cell? ⟨b1, 0, none⟩ = some (.int .i64 a) := (blk_cell X1.out 0).trans rfl
    have z11 : wr.cell? ⟨b1, 1, none⟩ = some (.int .i64 b) := (blk_cell X1.out 1).trans rfl
    have z12 : wr.cell? ⟨b1, 2, none⟩ = some (.slice A l.length c) := (blk_cell X1.out 2).trans rfl
    have HKQ := Aside0.mk hkq
    clear hkq
    rcases kq with _ | kq
    · have hT := HT.out
      unfold turnN at hT
      injection hT with hT
      injection hT with e1 hT
      injection hT with e2 e3
      subst e1 e2 e3
      have hlt : ¬ ((j : Int) < (q : Int)) := by omega
      have z20 : wr.cell? ⟨b2, 0, none⟩ = some (.int .i64 0) := (blk_cell X2.out 0).trans rfl
      have z21 : wr.cell? ⟨b2, 1, none⟩ = some (.int .i64 0) := (blk_cell X2.out 1).trans rfl
      have z22 : wr.cell? ⟨b2, 2, none⟩ = some (.slice none 0 0) := (blk_cell X2.out 2).trans rfl
      have f0 := blk_frozen X2.out 0
      have f1 := blk_frozen X2.out 1
      have f2 := blk_frozen X2.out 2
      have HS := Aside0.mk (And.intro L1 (And.intro L2 (And.intro hb12 (And.intro hw1 hw2))))
      clear L1 L2 hb12 hw1 hw2 hj
      go_wp2
      obtain ⟨L1, L2, hb12, hw1, hw2⟩ := HS.out
      refine bodyPost_ret (results_cell_row rfl _ _ b2 62 #[.int .i64 a, .int .i64 b, .slice A l.length c] (0, 0) _ rfl (by exact blk_put (blk_put (blk_put X2.out 0 (.int .i64 a) rfl) 1 (.int .i64 b) rfl) 2 (.slice A l.length c) rfl) Tryz.underlying62 rfl (by kernel_rfl)) rfl ?_
      have hfar : ∀ (ad : Addr), A = some ad → ad.block ≠ b2 := fun ad e => (HNe.out ad e).2
      exact ⟨A, c, rfl, C_set (C_set (C_set HCl.out _ hfar) _ hfar) _ hfar, HLc.out, ((HB.out.setCell (p := ⟨b2, 0, none⟩) hw2 _).setCell (p := ⟨b2, 1, none⟩) hw2 _).setCell (p := ⟨b2, 2, none⟩) hw2 _⟩
    · have hT := HT.out
      unfold turnN at hT
      obtain ⟨t, ht1, ht2⟩ := Option.bind_eq_some_iff.1 hT
      have hlt : (j : Int) < (q : Int) := by omega
      have hcall := ht a b l A c t wr ht1 HCl.out HLc.out
      have HT2 := Aside0.mk ht2
      have HJ := Aside0.mk hj
      have hw64 : IntKind.i64.wrap ((j : Int) + 1) = ((j + 1 : Nat) : Int) := by rw [IntKind.wrap_i64]; have := HN.out; have := HQ.out; omega
      have HS := Aside0.mk (And.intro L1 (And.intro L2 (And.intro hb12 (And.intro hw1 hw2))))
      clear L1 L2 hb12 hw1 hw2 hT ht1 ht2 hj ht
      go_wp2_with (first | (go_at_call 78; refine hcall.mono ?_; rintro e w5 ⟨A', c', rfl, hC', hc', hne', hb'⟩; have X1' := blk_below X1.out hb'; have X2' := blk_below X2.out hb'; have y10 : w5.cell? ⟨b1, 0, none⟩ = some (.int .i64 a) := (blk_cell X1' 0).trans rfl; have y11 : w5.cell? ⟨b1, 1, none⟩ = some (.int .i64 b) := (blk_cell X1' 1).trans rfl; have y12 : w5.cell? ⟨b1, 2, none⟩ = some (.slice A l.length c) := (blk_cell X1' 2).trans rfl; have f0 := blk_frozen X1' 0; have f1 := blk_frozen X1' 1; have f2 := blk_frozen X1' 2; have HC' := Aside0.mk hC'; have Hc' := Aside0.mk hc'; have HN' := Aside0.mk hne'; have HB' := Aside0.mk hb'; have XX1 := Aside0.mk X1'; have XX2 := Aside0.mk X2'; clear hC' hc' hne' hb' X1' X2' hcall z10 z11 z12))
      obtain ⟨L1, L2, hb12, hw1, hw2⟩ := HS.out
      go_roundg kq
      case measure => have := HKQ.out; omega
      case rel =>
        have hfar : ∀ (ad : Addr), A' = some ad → ad.block ≠ b1 := fun ad e => by have := HN'.out ad e; omega
        have hfar2 : ∀ (ad : Addr), A' = some ad → ad.block ≠ b2 := fun ad e => by have := HN'.out ad e; omega
        have hb := below_step HB.out HB'.out
        exact ⟨kq, j + 1, t.1, t.2.1, t.2.2, A', c', rfl, by simp, by have := HJ.out; omega, HT2, ⟨blk_put (blk_put (blk_put XX1.out 0 _ rfl) 1 _ rfl) 2 _ rfl⟩, ⟨blk_far (blk_far (blk_far XX2.out (p := ⟨b1, 0, none⟩) (Ne.symm hb12) _) (p := ⟨b1, 1, none⟩) (Ne.symm hb12) _) (p := ⟨b1, 2, none⟩) (Ne.symm hb12) _⟩,
          ⟨C_set (C_set (C_set HC'.out _ hfar) _ hfar) _ hfar⟩, Hc', ⟨fun ad e => ⟨hfar ad e, hfar2 ad e⟩⟩, ⟨((hb.setCell (p := ⟨b1, 0, none⟩) hw1 _).setCell (p := ⟨b1, 1, none⟩) hw1 _).setCell (p := ⟨b1, 2, none⟩) hw1 _⟩⟩
def eightN (k : Nat) (a0 a1 : Int) (l : List Int) : Nat → Option (List ByteArray)
  | 0 => some []
  | n + 1 => (eightN k a0 a1 l n).bind fun xs => (impl_tray_moved.f k a0 a1 l n).bind fun t => (impl_tray_text.f t.1 t.2.1 t.2.2).bind fun s => some (xs ++ [s])
def impl_tray_eight.f (k : Nat) (a0 a1 : Int) (l : List Int) : Option (List ByteArray) := eightN k a0 a1 l 8
theorem eightN_length {k : Nat} {a b : Int} {l : List Int} : ∀ {n : Nat} {xs : List ByteArray}, eightN k a b l n = some xs → xs.length = n
  | 0, xs, h => by injection h with h; subst h; rfl
  | n + 1, xs, h => by
    unfold eightN at h
    obtain ⟨ys, hy, h⟩ := Option.bind_eq_some_iff.1 h
    obtain ⟨t, ht, h⟩ := Option.bind_eq_some_iff.1 h
    obtain ⟨s, hs, h⟩ := Option.bind_eq_some_iff.1 h
    injection h with h
    rw [← h, List.length_append, eightN_length hy]; rfl
theorem eightN_lower {k : Nat} {a b : Int} {l : List Int} : ∀ {n m : Nat} {xs : List ByteArray}, eightN k a b l n = some xs → m ≤ n → ∃ ys, eightN k a b l m = some ys
  | 0, m, xs, h, hm => by obtain rfl : m = 0 := by omega
                          exact ⟨_, h⟩
  | n + 1, m, xs, h, hm => by
    by_cases e : m = n + 1
    · subst e; exact ⟨_, h⟩
    · unfold eightN at h
      obtain ⟨ys, hy, _⟩ := Option.bind_eq_some_iff.1 h
      exact eightN_lower hy (by omega)
set_option maxRecDepth 100000 in
set_option maxHeartbeats 4000000 in
theorem impl_tray_eight.calls (k : Nat) (a0_0 a0_1 : Int) (A0_2 : Option Addr) (c0_2 : Nat) (l0_2 : List Int) (r : List ByteArray) (w : World) (hr0_2 : Kd.C (Kd.int .u8) w A0_2 l0_2.length l0_2) (hc0_2 : l0_2.length ≤ c0_2) (h : impl_tray_eight.f k a0_0 a0_1 l0_2 = some r) :
    Calls Tryz.prog 71 #[.agg #[.int .i64 a0_0, .int .i64 a0_1, .slice A0_2 l0_2.length c0_2]] w fun e w' => ∃ v0_ : Value, e = .returned v0_ ∧ Kd.R Kd.string 9 w' w.heap.size (fun _ => True) v0_ r ∧ Below w.heap.size w w' := by
  have HC := Aside0.mk hc0_2
  have HR := Aside0.mk hr0_2
  have HH := Aside0.mk (show eightN k a0_0 a0_1 l0_2 8 = some r from h)
  have hmv : ∀ (n : Nat) (t : Int × Int × List Int) (W : World), impl_tray_moved.f k a0_0 a0_1 l0_2 n = some t → Below w.heap.size w W → Calls Tryz.prog 128 #[.agg #[.int .i64 a0_0, .int .i64 a0_1, .slice A0_2 l0_2.length c0_2], .int .i64 n] W fun e w' => ∃ A' c', e = .returned (.agg #[.int .i64 t.1, .int .i64 t.2.1, .slice A' t.2.2.length c']) ∧ (Kd.int .u8).C w' A' t.2.2.length t.2.2 ∧ t.2.2.length ≤ c' ∧ Below W.heap.size W w' :=
    fun n t W ht hW => moved_calls k a0_0 a0_1 A0_2 c0_2 l0_2 n t.1 t.2.1 t.2.2 W (Kd.C_below HR.out hW) HC.out ht
  obtain ⟨i0, hi, hz0, hz1, hz2⟩ := info_parts info9
  clear hr0_2 hc0_2 h
  go_enter Tryz.func71, Tryz.ntmps71
  go_wp2_with (first
    | ((with_reducible refine gate_dst (N := 1) rfl ?_); refine box_event ?hg (N := 1) ?hd (cs := #[.int .i64 a0_0, .int .i64 a0_1, .slice A0_2 l0_2.length c0_2]) (t := 62) ?hr ?_; (case hd => rfl); (case hg => rfl); (case hr => first | (go_simp; done) | (go_simp; rfl)); intro b1 hg1 w3 hbox1 hb1; have G1 := Aside0.mk hg1; have X1 := Aside0.mk hbox1; have B1 := Aside0.mk hb1; clear hg1 hbox1 hb1))
  have hrow0 := Aside0.mk (World.ownsRow_lit (base := w.heap.size) (e := 9) (size := 1) w3 #[] 0 B1.out.size (by decide) rfl)
  have X1' := Aside0.mk (blk_below X1.out ((Below.refl w3.heap.size w3).alloc (Nat.le_refl _) (.cells #[] 9)))
  have B1' := Aside0.mk (B1.out.alloc B1.out.size (.cells #[] 9))
  go_loopg [3, 6] 8 (fun kq0 v3 v6 w' => ∃ (kq j : Nat) (xs : List ByteArray), kq = kq0 ∧ v6 = .int .i64 j ∧ j + kq = 8 ∧ Aside0 (eightN k a0_0 a0_1 l0_2 j = some xs) ∧ Aside0 (w'.ownsRow w.heap.size 9 1 v3 xs.length (xs.map Value.string)) ∧ Aside0 (w'.heap[b1]? = some (.cells #[.int .i64 a0_0, .int .i64 a0_1, .slice A0_2 l0_2.length c0_2] 62 (0, 0))) ∧ Aside0 (Below w.heap.size w w'))
  case atStart => exact ⟨8, 0, [], rfl, rfl, by omega, ⟨rfl⟩, hrow0, X1', B1'⟩
  case round =>
    obtain ⟨kq, j, xs, hkq, rfl, hj, HX, HROW, X1, HB⟩ := hrel
    have HKQ := Aside0.mk hkq
    clear hkq
    rcases kq with _ | kq
    · obtain rfl : j = 8 := by omega
      obtain rfl : xs = r := by have h1 := HX.out; rw [HH.out] at h1; injection h1 with h1; exact h1.symm
      clear hj
      go_wp2
      go_ret
      exact ⟨_, rfl, Kd.R_of_own (enc := Value.string) (h1 := fun _ => rfl) HROW.out (fun _ _ => trivial), HB.out⟩
    · have hlt : (j : Int) < 8 := by omega
      obtain ⟨ys, hys⟩ := eightN_lower (m := j + 1) HH.out (by omega)
      have hys' := hys
      unfold eightN at hys'
      rw [HX.out] at hys'
      obtain ⟨t, ht, hys'⟩ := Option.bind_eq_some_iff.1 (show ((impl_tray_moved.f k a0_0 a0_1 l0_2 j).bind fun t => (impl_tray_text.f t.1 t.2.1 t.2.2).bind fun s => some (xs ++ [s])) = some ys from hys')
      obtain ⟨s, hs, hys'⟩ := Option.bind_eq_some_iff.1 hys'
      injection hys' with hys'
      subst hys'
      have hxl := eightN_length HX.out
      have hw64 : IntKind.i64.wrap ((j : Int) + 1) = ((j + 1 : Nat) : Int) := by rw [IntKind.wrap_i64]; omega
      have z10 : wr.cell? ⟨b1, 0, none⟩ = some (.int .i64 a0_0) := (blk_cell X1.out 0).trans rfl
      have z11 : wr.cell? ⟨b1, 1, none⟩ = some (.int .i64 a0_1) := (blk_cell X1.out 1).trans rfl
      have z12 : wr.cell? ⟨b1, 2, none⟩ = some (.slice A0_2 l0_2.length c0_2) := (blk_cell X1.out 2).trans rfl
      have hcall := hmv j t wr ht HB.out
      have HYS := Aside0.mk hys
      have HS := Aside0.mk hs
      have HP1 := Aside0.mk (show xs.length + 1 ≤ maxLen by have : maxLen = 9223372036854775807 := rfl; omega)
      have HP2 := Aside0.mk (show (xs.length + 1) * 16 ≤ 140737488355328 by omega)
      have HJ := Aside0.mk hj
      clear hys hs ht hxl hj hmv
      go_wp2_with (first
        | (go_at_call 128; refine hcall.mono ?_; rintro e w5 ⟨A', c', rfl, hC', hc', hb'⟩; have HC' := Aside0.mk hC'; have Hc' := Aside0.mk hc'; have HB' := Aside0.mk hb'; clear hC' hc' hb' hcall z10 z11 z12)
        | (go_at_call 96; refine (impl_tray_text.calls t.1 t.2.1 A' c' t.2.2 s w5 HC'.out Hc'.out HS.out).mono ?_; rintro e w6 ⟨rfl, hb6⟩; have HB6 := Aside0.mk (below_step HB'.out hb6); have HROW6 := Aside0.mk (pw_own_below HROW.out HB6.out); clear hb6)
        | (at_builtin; refine wpList_append_own _ rfl _ _ 33 rfl w.heap.size 9 i0 (.string ByteArray.empty) 1 16 Tryz.underlying33 hi hz0 hz1 hz2 rfl (by decide) _ _ _ rfl (HROW6.out.alloc _) ⟨w6.heap.size, 0, none⟩ 1 1 [.string s] rfl rfl (cell_one_new _ _ _) (by simp [Value.oneCell']) HP1.out HP2.out (by have h1 := HB.out.size; have h2 := HB6.out.size; simp; omega) ?_; intro v' w7 hown' hgrow _; have HOWN := Aside0.mk hown'; have HG := Aside0.mk hgrow; clear hown' hgrow))
      go_roundg kq
      case measure => have := HKQ.out; omega
      case rel =>
        have hb6 : Below w.heap.size w w6 := below_step HB.out HB6.out
        have h6 := (blk_below (blk_below X1.out HB6.out) ((Below.refl w6.heap.size w6).alloc (Nat.le_refl _) (.cells #[.string s] 9)))
        have hne := Kd.R_ne (Kd.R_of_own (enc := Value.string) (h1 := fun _ => rfl) (ok := fun _ => True) HROW6.out (fun _ _ => trivial)) (blk_below X1.out HB6.out) (show 9 ≠ 62 by decide)
        exact ⟨kq, j + 1, xs ++ [s], rfl, by simp, by have := HJ.out; omega, HYS, ⟨by rw [List.length_append, List.map_append]; exact HOWN.out⟩, ⟨blk_grown h6 HG.out hne⟩,
          ⟨(hb6.alloc hb6.size _).grown HG.out (by have := hb6.size; simp; omega) (fun k e => (HROW6.out.lt k e).1)⟩⟩
end Go.Proofs.YtipjmlcbbimfpaaGreatDoor

namespace Go.Proofs.YtipjmlcbbimfpaaGreatDoor.F
open Go.RowKit Go.Proofs.YtipjmlcbbimfpaaGreatDoor Go.Proofs.YtipjmlcbbimfpaaGreatDoorW.PrintWords
set_option linter.unusedVariables false
set_option linter.unusedSimpArgs false
theorem w64t {n : Nat} (h : n ≤ 9223372036854775807) : wrap64 (n : Int) = n := w64 (by omega) (by omega)
theorem flatten_snoc {α : Type} (f : Nat → List α) (n : Nat) : ((List.range (n + 1)).map f).flatten = ((List.range n).map f).flatten ++ f n := by
  rw [List.range_succ, List.map_append, List.flatten_append]; simp
theorem map_snoc {α : Type} (f : Nat → α) (n : Nat) : (List.range (n + 1)).map f = (List.range n).map f ++ [f n] := by
  rw [List.range_succ, List.map_append]; rfl
theorem gridOf_rows (w h : Nat) (f : Nat → Nat → Int) : gridOf w h f = ((List.range h).map fun y => (List.range w).map fun x => f x y).flatten := by
  induction h with
  | zero => simp [gridOf]
  | succ h ih =>
    rw [flatten_snoc, ← ih]
    unfold gridOf
    rw [Nat.mul_succ, List.range_add, List.map_append, List.map_map]
    congr 1
    apply List.map_congr_left
    intro x hx
    have hx' := List.mem_range.1 hx
    simp only [Function.comp]
    rw [show w * h + x = h * w + x by rw [Nat.mul_comm], place_mod hx', place_div hx']
theorem rd_at {w h : Nat} {cs : List Int} (hl : cs.length = w * h) {x y : Nat} : rd cs ((y * w + x : Nat) : Int) = at_ w cs x y := by
  unfold rd at_; rw [Int.toNat_natCast]
theorem turn_l1 {w h : Nat} {cs : List Int} (hl : cs.length = w * h) (hw : w ≤ 100) (hh : h ≤ 100) {x : Nat} (hx : x < w) (a b : Int) (acc : List Int) (ha : acc.length ≤ 10000) (r : Int × Int × List Int)
    (hnext : Ev (fun k => spec_tyTurn.l0 k ((x + 1 : Nat) : Int) w h cs a b (acc ++ (List.range h).map fun c => at_ w cs x (h - 1 - c))) r) :
    ∀ (d c : Nat), c + d = h → Ev (fun k => spec_tyTurn.l1 k x ((h : Int) - 1 - c) w h cs a b (acc ++ (List.range c).map fun c => at_ w cs x (h - 1 - c))) r
  | 0, c, hc => by
    obtain rfl : c = h := by omega
    have hcond : ¬ ((c : Int) - 1 - c ≥ 0) := by omega
    refine Ev.step (fun k => ?_) hnext
    rw [spec_tyTurn.l1, if_neg hcond, show (x : Int) + 1 = ((x + 1 : Nat) : Int) by omega, w64t (by omega)]
  | d + 1, c, hc => by
    have ih := turn_l1 hl hw hh hx a b acc ha r hnext d (c + 1) (by omega)
    have hcond : ((h : Int) - 1 - c ≥ 0) := by omega
    have hlt : (h - 1 - c) * w + x < cs.length := by rw [hl]; exact place_lt hx (by omega)
    have hmul : (h - 1 - c) * w ≤ 10000 := Nat.le_trans (Nat.mul_le_mul (show h - 1 - c ≤ 100 by omega) hw) (by decide)
    have e1 : ((h : Int) - 1 - c) * w = (((h - 1 - c) * w : Nat) : Int) := by rw [Int.natCast_mul]; congr 1; omega
    have e2 : (((h - 1 - c) * w : Nat) : Int) + x = (((h - 1 - c) * w + x : Nat) : Int) := by omega
    have hlen : (acc ++ (List.range c).map fun c => at_ w cs x (h - 1 - c)).length < 140737488355328 := by rw [List.length_append, List.length_map, List.length_range]; omega
    refine Ev.step (fun k => ?_) ih
    rw [spec_tyTurn.l1, if_pos hcond, e1, w64t (by omega), e2, w64t (by omega), if_pos (by omega), if_pos (by omega), if_pos hlen, rd_at hl, show wrap64 ((h : Int) - 1 - c - 1) = (h : Int) - 1 - ((c + 1 : Nat) : Int) by rw [w64 (by omega) (by omega)]; omega, List.append_assoc, ← map_snoc (fun c => at_ w cs x (h - 1 - c)) c]
theorem turn_l0 {w h : Nat} {cs : List Int} (hl : cs.length = w * h) (hw : w ≤ 100) (hh : h ≤ 100) (a b : Int) :
    ∀ (d x : Nat), x + d = w → Ev (fun k => spec_tyTurn.l0 k x w h cs a b (((List.range x).map fun y => (List.range h).map fun c => at_ w cs y (h - 1 - c)).flatten)) (a, b, turnL w h cs)
  | 0, x, hx => by
    obtain rfl : x = w := by omega
    refine Ev.step (f := fun _ => some (a, b, turnL x h cs)) (fun k => ?_) (Ev.now _)
    rw [spec_tyTurn.l0, if_neg (by omega), turnL, gridOf_rows]
  | d + 1, x, hx => by
    have ih := turn_l0 hl hw hh a b d (x + 1) (by omega)
    rw [flatten_snoc] at ih
    have hal : (((List.range x).map fun y => (List.range h).map fun c => at_ w cs y (h - 1 - c)).flatten).length = h * x := by
      rw [← gridOf_rows h x fun c y => at_ w cs y (h - 1 - c)]; exact gridOf_length _ _ _
    have hb : h * x ≤ 10000 := Nat.le_trans (Nat.mul_le_mul hh (show x ≤ 100 by omega)) (by decide)
    have h1 := turn_l1 hl hw hh (show x < w by omega) a b _ (by rw [hal]; exact hb) _ ih h 0 (by omega)
    simp only [List.range_zero, List.map_nil, List.append_nil] at h1
    refine Ev.step (fun k => ?_) h1
    rw [spec_tyTurn.l0, if_pos (by omega), show wrap64 ((h : Int) - 1) = (h : Int) - 1 - ((0 : Nat) : Int) by rw [w64 (by omega) (by omega)]; omega]
theorem spec_turn_ev {w h : Nat} {cs : List Int} (hl : cs.length = w * h) (hw : w ≤ 100) (hh : h ≤ 100) : Ev (fun k => spec_tyTurn.f k w h cs) ((h : Int), (w : Int), turnL w h cs) := by
  have h1 := turn_l0 hl hw hh h w w 0 (by omega)
  exact Ev.congr (fun k => by rfl) h1
theorem mirror_l1 {w h : Nat} {cs : List Int} (hl : cs.length = w * h) (hw : w ≤ 100) (hh : h ≤ 100) {y : Nat} (hy : y < h) (a b : Int) (acc : List Int) (ha : acc.length ≤ 10000) (r : Int × Int × List Int)
    (hnext : Ev (fun k => spec_tyMirror.l0 k ((y + 1 : Nat) : Int) w h cs a b (acc ++ (List.range w).map fun c => at_ w cs (w - 1 - c) y)) r) :
    ∀ (d c : Nat), c + d = w → Ev (fun k => spec_tyMirror.l1 k y ((w : Int) - 1 - c) w h cs a b (acc ++ (List.range c).map fun c => at_ w cs (w - 1 - c) y)) r
  | 0, c, hc => by
    obtain rfl : c = w := by omega
    have hcond : ¬ ((c : Int) - 1 - c ≥ 0) := by omega
    refine Ev.step (fun k => ?_) hnext
    rw [spec_tyMirror.l1, if_neg hcond, show (y : Int) + 1 = ((y + 1 : Nat) : Int) by omega, w64t (by omega)]
  | d + 1, c, hc => by
    have ih := mirror_l1 hl hw hh hy a b acc ha r hnext d (c + 1) (by omega)
    have hcond : ((w : Int) - 1 - c ≥ 0) := by omega
    have hlt : y * w + (w - 1 - c) < cs.length := by rw [hl]; exact place_lt (by omega) hy
    have hmul : y * w ≤ 10000 := Nat.le_trans (Nat.mul_le_mul (show y ≤ 100 by omega) hw) (by decide)
    have e1 : (y : Int) * w = ((y * w : Nat) : Int) := by rw [Int.natCast_mul]
    have e2 : ((y * w : Nat) : Int) + ((w : Int) - 1 - c) = ((y * w + (w - 1 - c) : Nat) : Int) := by omega
    have hlen : (acc ++ (List.range c).map fun c => at_ w cs (w - 1 - c) y).length < 140737488355328 := by rw [List.length_append, List.length_map, List.length_range]; omega
    refine Ev.step (fun k => ?_) ih
    rw [spec_tyMirror.l1, if_pos hcond, e1, w64t (by omega), e2, w64t (by omega), if_pos (by omega), if_pos (by omega), if_pos hlen, rd_at hl, show wrap64 ((w : Int) - 1 - c - 1) = (w : Int) - 1 - ((c + 1 : Nat) : Int) by rw [w64 (by omega) (by omega)]; omega, List.append_assoc, ← map_snoc (fun c => at_ w cs (w - 1 - c) y) c]
theorem mirror_l0 {w h : Nat} {cs : List Int} (hl : cs.length = w * h) (hw : w ≤ 100) (hh : h ≤ 100) (a b : Int) :
    ∀ (d y : Nat), y + d = h → Ev (fun k => spec_tyMirror.l0 k y w h cs a b (((List.range y).map fun y => (List.range w).map fun c => at_ w cs (w - 1 - c) y).flatten)) (a, b, mirrorL w h cs)
  | 0, y, hx => by
    obtain rfl : y = h := by omega
    refine Ev.step (f := fun _ => some (a, b, mirrorL w y cs)) (fun k => ?_) (Ev.now _)
    rw [spec_tyMirror.l0, if_neg (by omega), mirrorL, gridOf_rows]
  | d + 1, y, hx => by
    have ih := mirror_l0 hl hw hh a b d (y + 1) (by omega)
    rw [flatten_snoc] at ih
    have hal : (((List.range y).map fun y => (List.range w).map fun c => at_ w cs (w - 1 - c) y).flatten).length = w * y := by
      rw [← gridOf_rows w y fun c y => at_ w cs (w - 1 - c) y]; exact gridOf_length _ _ _
    have hb : w * y ≤ 10000 := Nat.le_trans (Nat.mul_le_mul hw (show y ≤ 100 by omega)) (by decide)
    have h1 := mirror_l1 hl hw hh (show y < h by omega) a b _ (by rw [hal]; exact hb) _ ih w 0 (by omega)
    simp only [List.range_zero, List.map_nil, List.append_nil] at h1
    refine Ev.step (fun k => ?_) h1
    rw [spec_tyMirror.l0, if_pos (by omega), show wrap64 ((w : Int) - 1) = (w : Int) - 1 - ((0 : Nat) : Int) by rw [w64 (by omega) (by omega)]; omega]
theorem spec_mirror_ev {w h : Nat} {cs : List Int} (hl : cs.length = w * h) (hw : w ≤ 100) (hh : h ≤ 100) : Ev (fun k => spec_tyMirror.f k w h cs) ((w : Int), (h : Int), mirrorL w h cs) := by
  have h1 := mirror_l0 hl hw hh w h h 0 (by omega)
  exact Ev.congr (fun k => by rfl) h1
def srcT (w h i : Nat) : Nat := (h - 1 - i % h) * w + i / h
def partT (w h : Nat) (cs : List Int) (k : Nat) : List Int := (List.range (h * w)).map fun i => if srcT w h i < k then cs.getD (srcT w h i) 0 else 0
theorem partT_zero (w h : Nat) (cs : List Int) : partT w h cs 0 = List.replicate (h * w) 0 := by
  unfold partT
  apply List.ext_getElem
  · simp
  · intro i a b; simp
theorem partT_all {w h : Nat} {cs : List Int} : partT w h cs (w * h) = turnL w h cs := by
  unfold partT turnL gridOf
  apply List.map_congr_left
  intro i hi
  obtain ⟨h1, h2, h3⟩ := place_of (List.mem_range.1 hi)
  have : srcT w h i < w * h := by
    unfold srcT
    generalize i / h = q at *
    generalize i % h = r at *
    exact place_lt h2 (by omega)
  rw [if_pos this]; rfl
theorem partT_set {w h : Nat} {cs : List Int} {k : Nat} (hk : k < w * h) : (partT w h cs k).set ((k % w) * h + (h - 1 - k / w)) (cs.getD k 0) = partT w h cs (k + 1) := by
  unfold partT
  apply List.ext_getElem
  · simp
  · intro i a b
    have hi : i < h * w := by simpa using b
    obtain ⟨i1, i2, i3⟩ := place_of hi
    obtain ⟨k1, k2, k3⟩ := place_of hk
    have hsi : srcT w h i = k ↔ (k % w) * h + (h - 1 - k / w) = i := by
      unfold srcT
      constructor
      · intro e
        rw [← e]
        generalize i / h = q at *
        generalize i % h = r at *
        rw [place_mod i2, place_div i2, show h - 1 - (h - 1 - r) = r by omega]; exact i3
      · intro e
        rw [← e]
        generalize k / w = q at *
        generalize k % w = r at *
        rw [place_mod (by omega), place_div (by omega), show h - 1 - (h - 1 - q) = q by omega]; exact k3
    rw [List.getElem_set]
    simp only [List.getElem_map, List.getElem_range]
    by_cases e : srcT w h i = k
    · rw [if_pos (hsi.1 e), e, if_pos (by omega)]
    · rw [if_neg (fun h' => e (hsi.2 h'))]
      by_cases h1 : srcT w h i < k
      · rw [if_pos h1, if_pos (by omega)]
      · rw [if_neg h1, if_neg (by omega)]
theorem impl_turn_l0 {w h : Nat} {cs : List Int} (hl : cs.length = w * h) (hw : 1 ≤ w ∧ w ≤ 100) (hh : h ≤ 100) :
    ∀ (d i : Nat), i + d = w * h → Ev (fun k => impl_tray_turned.l0 k cs ((w * h : Nat) : Int) i w h cs h w (partT w h cs i)) ((h : Int), (w : Int), turnL w h cs)
  | 0, i, hi => by
    obtain rfl : i = w * h := by omega
    refine Ev.step (f := fun _ => some ((h : Int), (w : Int), turnL w h cs)) (fun k => ?_) (Ev.now _)
    rw [impl_tray_turned.l0, if_neg (by omega), partT_all]
  | d + 1, i, hi => by
    have ih := impl_turn_l0 hl hw hh d (i + 1) (by omega)
    have hik : i < w * h := by omega
    have hwh : w * h ≤ 10000 := Nat.le_trans (Nat.mul_le_mul hw.2 hh) (by decide)
    obtain ⟨k1, k2, k3⟩ := place_of hik
    have hset := partT_set (cs := cs) hik
    have hpl : (partT w h cs i).length = h * w := by simp [partT]
    have hnum : (i % w) * h + (h - 1 - i / w) < h * w := place_lt (by generalize i / w = q at *; omega) k1
    have ed : Int.tdiv (i : Int) (w : Int) = ((i / w : Nat) : Int) := by rw [Int.ofNat_tdiv]
    have em : Int.tmod (i : Int) (w : Int) = ((i % w : Nat) : Int) := by rw [Int.ofNat_tmod]
    have hq : ((h : Int) - 1 - ((i / w : Nat) : Int)) = ((h - 1 - i / w : Nat) : Int) := by generalize i / w = q at *; omega
    have hmul : (i % w) * h ≤ 10000 := Nat.le_trans (Nat.mul_le_mul (show i % w ≤ 100 by generalize i % w = r at *; omega) hh) (by decide)
    have hrd : rd cs (i : Int) = cs.getD i 0 := by unfold rd; rw [Int.toNat_natCast]
    have hq2 : h - 1 - i / w ≤ 100 := by generalize i / w = q at *; omega
    refine Ev.step (fun k => ?_) ih
    rw [impl_tray_turned.l0, if_pos (by omega), if_pos (by omega), if_pos (by rw [hl]; omega), if_neg (by omega), ed, em, w64t (by generalize i / w = q at *; omega), w64 (show -9223372036854775808 ≤ (h : Int) - 1 by omega) (by omega), hq, w64t (by generalize i / w = q at *; omega), impl_tray_number.f, ← Int.natCast_mul, w64t (by omega), ← Int.natCast_add, w64t (by omega), Option.bind_some, if_pos (by omega), if_pos (by rw [hpl]; omega), Int.toNat_natCast, hrd, hset, show (i : Int) + 1 = ((i + 1 : Nat) : Int) by omega, w64t (by omega)]
theorem impl_turn_ev {w h : Nat} {cs : List Int} (hl : cs.length = w * h) (hw : 1 ≤ w ∧ w ≤ 100) (hh : h ≤ 100) : Ev (fun k => impl_tray_turned.f k w h cs) ((h : Int), (w : Int), turnL w h cs) := by
  have h1 := impl_turn_l0 hl hw hh (w * h) 0 (by omega)
  have hwh : w * h ≤ 10000 := Nat.le_trans (Nat.mul_le_mul hw.2 hh) (by decide)
  refine Ev.congr (fun k => ?_) h1
  rw [impl_tray_turned.f, if_pos (by omega), Int.toNat_natCast, if_pos (by omega), hl, partT_zero, Nat.mul_comm h w]
  rfl
theorem mirrorL_rows {w h : Nat} {cs : List Int} (hl : cs.length = w * h) : mirrorL w h cs = ((List.range h).map fun y => ((cs.drop (y * w)).take w).reverse).flatten := by
  rw [mirrorL, gridOf_rows]
  congr 1
  apply List.map_congr_left
  intro y hy
  have hy' := List.mem_range.1 hy
  have hb : y * w + w ≤ cs.length := by
    rw [hl, Nat.mul_comm w h, ← Nat.succ_mul]; exact Nat.mul_le_mul_right w hy'
  apply List.ext_getElem
  · simp; omega
  · intro i a b
    have hi : i < w := by simpa using a
    simp only [List.getElem_map, List.getElem_range, List.getElem_reverse, List.getElem_take, List.getElem_drop, List.length_take, List.length_drop]
    unfold at_
    rw [List.getD_eq_getElem?_getD, List.getElem?_eq_getElem (by omega), Option.getD_some]
    congr 1
    omega
theorem revRows_part {w h : Nat} {cs : List Int} (hl : cs.length = w * h) : ∀ k, k ≤ h → revRows w (List.range k) cs = ((List.range k).map fun y => ((cs.drop (y * w)).take w).reverse).flatten ++ cs.drop (k * w)
  | 0, _ => by simp [revRows]
  | k + 1, hk => by
    have ih := revRows_part hl k (by omega)
    have hb : k * w + w ≤ cs.length := by
      rw [hl, Nat.mul_comm w h, ← Nat.succ_mul]; exact Nat.mul_le_mul_right w hk
    have hfl : (((List.range k).map fun y => ((cs.drop (y * w)).take w).reverse).flatten).length = k * w := by
      have h1 := revRows_length w (List.range k) cs
      rw [ih, List.length_append, List.length_drop] at h1
      omega
    rw [List.range_succ, revRows_snoc, ih, ← List.range_succ, flatten_snoc]
    unfold revRow
    rw [← List.drop_drop, List.take_left' hfl, List.drop_left' hfl, List.drop_drop, Nat.succ_mul, List.append_assoc]
theorem impl_mirror_eq {w h : Nat} {cs : List Int} (hl : cs.length = w * h) (hw : 1 ≤ w ∧ w ≤ 100) (hh : 1 ≤ h ∧ h ≤ 100) : impl_tray_mirrored.f w h cs = some ((w : Int), (h : Int), mirrorL w h cs) := by
  have hwh : w * h ≤ 10000 := Nat.le_trans (Nat.mul_le_mul hw.2 hh.2) (by decide)
  have h0 : 0 < w * h := Nat.mul_pos hw.1 hh.1
  have hd : cs.length / w = h := by rw [hl, Nat.mul_div_cancel_left h (by omega)]
  unfold impl_tray_mirrored.f
  rw [if_pos ⟨by omega, by omega, by omega, by rw [Int.toNat_natCast, hl]; exact Nat.mul_mod_right w h, by omega⟩, Int.toNat_natCast, hd, revRows_part hl h (Nat.le_refl _), mirrorL_rows hl, List.drop_eq_nil_of_le (by rw [hl, Nat.mul_comm]; exact Nat.le_refl _), List.append_nil]
def textB (g : (Nat × Nat × List Int)) : ByteArray := strOfNums (textG g)
theorem strOfNums_app (a b : List Int) : strOfNums (a ++ b) = strOfNums a ++ strOfNums b := by
  apply ByteArray.ext
  rw [ByteArray.data_append]
  unfold strOfNums
  simp
theorem strOfNums_len (l : List Int) : (strOfNums l).size = l.length := by
  show ((l.map fun n => UInt8.ofNat n.toNat).toArray).size = _
  simp
theorem bytesOf_str {l : List Int} (h : ∀ c ∈ l, 0 ≤ c ∧ c < 256) : bytesOf (strOfNums l) = l := by
  unfold bytesOf strOfNums
  simp only [List.map_map]
  apply List.ext_getElem
  · simp
  · intro i a b
    have := h _ (List.getElem_mem b)
    simp only [List.getElem_map, Function.comp, UInt8.toNat_ofNat']
    omega
theorem joinI_snoc : ∀ (rs : List (List Int)) (r : List Int), rs ≠ [] → joinI (rs ++ [r]) = joinI rs ++ 47 :: r
  | [], r, h => absurd rfl h
  | [a], r, _ => rfl
  | a :: b :: rs, r, _ => by
    have ih := joinI_snoc (b :: rs) r (by simp)
    show a ++ 47 :: joinI ((b :: rs) ++ [r]) = (a ++ 47 :: joinI (b :: rs)) ++ 47 :: r
    rw [ih]; simp
theorem joinI_mem : ∀ (rs : List (List Int)) {c : Int}, c ∈ joinI rs → c = 47 ∨ ∃ r ∈ rs, c ∈ r
  | [], c, h => by cases h
  | [a], c, h => .inr ⟨a, by simp, h⟩
  | a :: b :: rs, c, h => by
    rw [joinI] at h
    rcases List.mem_append.1 h with h | h
    · exact .inr ⟨a, by simp, h⟩
    · rcases List.mem_cons.1 h with h | h
      · exact .inl h
      · rcases joinI_mem (b :: rs) h with h | ⟨r, hr, hc⟩
        · exact .inl h
        · exact .inr ⟨r, List.mem_cons_of_mem _ hr, hc⟩
theorem cell_byte {c : Int} (h : isCellC c = true) : 0 ≤ c ∧ c < 256 := by
  unfold isCellC isBallC isNameC at h
  simp at h
  omega
theorem textG_byte {g : (Nat × Nat × List Int)} (v : Vg g) : ∀ c ∈ textG g, 0 ≤ c ∧ c < 256 := by
  intro c hc
  rcases joinI_mem _ hc with h | ⟨r, hr, hcr⟩
  · omega
  · exact cell_byte (v.cell c ((rowsOf_mem v.len hr).2 c hcr))
theorem bytesOf_textB {g : (Nat × Nat × List Int)} (v : Vg g) : bytesOf (textB g) = textG g := bytesOf_str (textG_byte v)
theorem textB_inj {g k : (Nat × Nat × List Int)} (hg : Vg g) (hk : Vg k) (h : textB g = textB k) : g = k :=
  textG_inj hg hk (by rw [← bytesOf_textB hg, ← bytesOf_textB hk, h])
theorem grid_textB {g : (Nat × Nat × List Int)} (v : Vg g) : tyGrid (bytesOf (textB g)) = some g := by rw [bytesOf_textB v]; exact tyGrid_text v
theorem textB_grid {s : ByteArray} {g : (Nat × Nat × List Int)} (h : tyGrid (bytesOf s) = some g) : Vg g ∧ textB g = s := by
  obtain ⟨w, hh, cs⟩ := g
  obtain ⟨v, e⟩ := tyGrid_VG h
  exact ⟨v, bytesOf_inj (by rw [bytesOf_textB (g := (w, hh, cs)) v]; exact e)⟩
theorem textG_small {g : (Nat × Nat × List Int)} (v : Vg g) : (textG g).length ≤ 42 := by
  have h1 := joinI_length (rowsOf g.1 g.2.1 g.2.2) (rowsOf_ne v.h1)
  rw [rowsOf_flatten _ _ _ v.len, rowsOf_length, v.len] at h1
  have := v.small
  have := v.h7
  show (joinI (rowsOf g.1 g.2.1 g.2.2)).length ≤ 42
  omega
theorem textB_small {g : (Nat × Nat × List Int)} (v : Vg g) : (textB g).size ≤ 42 := by
  rw [textB, strOfNums_len]; exact textG_small v
theorem flat_len (w : Nat) (cs : List Int) : ∀ i, (rowsOf w i cs).flatten.length ≤ i * w
  | 0 => by simp [rowsOf]
  | i + 1 => by
    have ih := flat_len w cs i
    unfold rowsOf at ih ⊢
    rw [flatten_snoc, List.length_append, List.length_take, Nat.succ_mul]
    omega
theorem text_ev_l0 {w h : Nat} {cs : List Int} (hw : w ≤ 20) (hh : h ≤ 20) (hl : cs.length = w * h) : ∀ (d i : Nat), i + d = h →
    Ev (fun k => spec_tyText.l0 k (strOfNums (joinI (rowsOf w i cs))) i w h cs) (strOfNums (joinI (rowsOf w h cs)))
  | 0, i, hi => by
    obtain rfl : i = h := by omega
    refine Ev.step (f := fun _ => some _) (fun k => ?_) (Ev.now _)
    rw [spec_tyText.l0, if_neg (by omega)]
  | d + 1, i, hi => by
    have ih := text_ev_l0 hw hh hl d (i + 1) (by omega)
    have hwh : w * h ≤ 400 := Nat.mul_le_mul hw hh
    have hi2 : (i + 1) * w ≤ w * h := by rw [Nat.mul_comm w h]; exact Nat.mul_le_mul_right w (by omega)
    have hi3 : (i + 1) * w = i * w + w := by rw [Nat.add_mul, Nat.one_mul]
    have hrow : (cs.take ((i + 1) * w)).drop (i * w) = (cs.drop (i * w)).take w := by rw [List.drop_take]; congr 1; omega
    have hrl : (strOfNums ((cs.drop (i * w)).take w)).size = w := by rw [strOfNums_len, List.length_take, List.length_drop]; omega
    have hsz : (strOfNums (joinI (rowsOf w i cs))).size ≤ 1000 := by
      rw [strOfNums_len]
      rcases Nat.eq_zero_or_pos i with h0 | h0
      · subst h0; simp [rowsOf, joinI]
      · have h1 := joinI_length (rowsOf w i cs) (rowsOf_ne h0)
        have h2 : (rowsOf w i cs).flatten.length ≤ 400 := by
          exact Nat.le_trans (flat_len w cs i) (Nat.le_trans (Nat.mul_le_mul (show i ≤ 20 by omega) hw) (by decide))
        rw [rowsOf_length] at h1
        omega
    have hnext : strOfNums (joinI (rowsOf w (i + 1) cs)) = if 0 < i then (strOfNums (joinI (rowsOf w i cs)) ++ (⟨#[47]⟩ : ByteArray)) ++ strOfNums ((cs.drop (i * w)).take w) else strOfNums (joinI (rowsOf w i cs)) ++ strOfNums ((cs.drop (i * w)).take w) := by
      have hs : rowsOf w (i + 1) cs = rowsOf w i cs ++ [(cs.drop (i * w)).take w] := map_snoc _ i
      rw [hs]
      rcases Nat.eq_zero_or_pos i with h0 | h0
      · subst h0
        rw [if_neg (by omega)]
        rw [← strOfNums_app]; rfl
      · rw [if_pos h0, joinI_snoc _ _ (rowsOf_ne h0), show (47 :: (cs.drop (i * w)).take w : List Int) = [47] ++ (cs.drop (i * w)).take w from rfl, ← List.append_assoc, strOfNums_app, strOfNums_app]; rfl
    rw [hnext] at ih
    refine Ev.step (fun k => ?_) ih
    have e1 : wrap64 ((i : Int) * w) = ((i * w : Nat) : Int) := by rw [← Int.natCast_mul]; exact w64t (by omega)
    have e2 : wrap64 ((((i + 1 : Nat) : Int)) * w) = (((i + 1) * w : Nat) : Int) := by rw [← Int.natCast_mul]; exact w64t (by clear e1; omega)
    have e3 : wrap64 ((i : Int) + 1) = ((i + 1 : Nat) : Int) := w64t (n := i + 1) (by clear e1 e2; omega)
    rw [spec_tyText.l0, e3, e1, e2]
    clear e1 e2 e3
    rw [if_pos (by omega)]
    by_cases h0 : (i : Int) > 0
    · rw [if_pos h0, if_pos (by omega), if_pos (by omega), if_pos (by omega), if_pos (by omega), Int.toNat_natCast, Int.toNat_natCast, hrow, if_pos, if_pos (show 0 < i by omega)]
      rw [ByteArray.size_append, hrl]
      show (strOfNums (joinI (rowsOf w i cs))).size + 1 + w ≤ _
      omega
    · rw [if_neg h0, if_pos (by omega), if_pos (by omega), if_pos (by omega), Int.toNat_natCast, Int.toNat_natCast, hrow, if_pos, if_neg (show ¬ 0 < i by omega)]
      rw [hrl]; omega
theorem spec_text_ev {w h : Nat} {cs : List Int} (hw : w ≤ 20) (hh : h ≤ 20) (hl : cs.length = w * h) : Ev (fun k => spec_tyText.f k w h cs) (textB (w, h, cs)) := by
  have h1 := text_ev_l0 hw hh hl h 0 (by omega)
  exact Ev.congr (fun k => by rfl) h1
theorem join_strs : ∀ rs : List (List Int), Lib.join ((rs.map strOfNums).map (·.data.toList)) [47] = (joinI rs).map fun n => UInt8.ofNat n.toNat
  | [] => rfl
  | [a] => by simp [Lib.join, joinI, strOfNums]
  | a :: b :: rs => by
    have ih := join_strs (b :: rs)
    rw [joinI]
    unfold Lib.join List.intercalate at ih ⊢
    simp only [List.map_cons] at ih ⊢
    rw [List.intersperse, List.flatten_cons, List.flatten_cons, ih]
    · simp [strOfNums]
    all_goals simp
theorem impl_text_eq {g : (Nat × Nat × List Int)} (v : Vg g) : impl_tray_text.f g.1 g.2.1 g.2.2 = some (textB g) := by
  obtain ⟨w, h, cs⟩ := g
  have hl : cs.length = w * h := v.len
  have hw1 : 1 ≤ w := v.w1
  have hw7 : w ≤ 7 := v.w7
  have hh1 : 1 ≤ h := v.h1
  have hs : w * h ≤ 36 := v.small
  have h0 : 0 < w * h := Nat.mul_pos hw1 hh1
  have hd : cs.length / w = h := by rw [hl, Nat.mul_div_cancel_left h (by omega)]
  have hck : chunksB w cs = (rowsOf w h cs).map strOfNums := by
    unfold chunksB rowsOf
    rw [hd, List.map_map]; rfl
  have htl := textG_small v
  have hj := join_strs (rowsOf w h cs)
  have hjl : (joinI (rowsOf w h cs)).length ≤ 42 := htl
  show impl_tray_text.f w h cs = _
  unfold impl_tray_text.f
  rw [if_pos ⟨by omega, by omega, by omega, by rw [Int.toNat_natCast, hl]; exact Nat.mul_mod_right w h, by omega⟩, Int.toNat_natCast, hck]
  unfold strings_Join.f
  rw [if_pos]
  · unfold joinB
    show some (⟨(Lib.join (((rowsOf w h cs).map strOfNums).map (·.data.toList)) [47]).toArray⟩ : ByteArray) = _
    rw [hj]; rfl
  · refine ⟨by rw [List.length_map, rowsOf_length]; have := v.h7; simp only at this; omega, ?_⟩
    show (Lib.join (((rowsOf w h cs).map strOfNums).map (·.data.toList)) [47]).length ≤ _
    rw [hj, List.length_map]
    omega
end Go.Proofs.YtipjmlcbbimfpaaGreatDoor.F

namespace Go.Proofs.YtipjmlcbbimfpaaGreatDoor.F
open Go.RowKit Go.Proofs.YtipjmlcbbimfpaaGreatDoor Go.Proofs.YtipjmlcbbimfpaaGreatDoorW.PrintWords Classical
set_option linter.unusedVariables false
set_option linter.unusedSimpArgs false
theorem impl_isSize_eq (w h : Int) (hw : 0 ≤ w ∧ w ≤ 4294967296) (hh : 0 ≤ h ∧ h ≤ 4294967296) : impl_isSize.f w h = some (decide ((1 ≤ w ∧ w ≤ 7) ∧ (1 ≤ h ∧ h ≤ 7) ∧ w * h ≤ 36)) := by
  unfold impl_isSize.f impl_within.f
  by_cases h1 : 1 ≤ w
  · by_cases h2 : w ≤ 7
    · by_cases h3 : 1 ≤ h
      · by_cases h4 : h ≤ 7
        · have h5 : w * h ≤ 7 * 7 := Int.mul_le_mul h2 h4 (by omega) (by omega)
          have h6 : 0 ≤ w * h := Int.mul_nonneg (by omega) (by omega)
          simp [h1, h2, h3, h4, w64 (n := w * h) (by omega) (by omega)]
        · simp [h1, h2, h3, h4]
      · simp [h1, h2, h3]
    · simp [h1, h2]
  · simp [h1]
theorem dropWhile_nil {α : Type} (p : α → Bool) : ∀ l : List α, l.dropWhile p = [] ↔ ∀ a ∈ l, p a = true
  | [] => by simp
  | a :: l => by
    rw [List.dropWhile_cons]
    by_cases h : p a = true
    · rw [if_pos h, dropWhile_nil p l]; simp [h]
    · rw [if_neg h]; simp [h]
theorem trimS_nil_iff (l cs : List UInt8) : Lib.trimS l cs = [] ↔ ∀ b ∈ l, b ∈ cs := by
  unfold Lib.trimS Lib.trimLeftS Lib.trimRightS
  rw [dropWhile_nil]
  constructor
  · intro h b hb
    rcases Classical.em (∀ b ∈ l, cs.contains b = true) with h1 | h1
    · simpa using h1 b hb
    · exfalso
      have h2 : ¬ l.reverse.dropWhile (cs.contains ·) = [] := by
        rw [dropWhile_nil]
        intro h3; exact h1 (fun b hb => h3 b (List.mem_reverse.2 hb))
      have h3 := List.head_dropWhile_not (cs.contains ·) (l := l.reverse) h2
      have h4 := h ((l.reverse.dropWhile (cs.contains ·)).head h2) (List.mem_reverse.2 (List.head_mem h2))
      rw [h3] at h4; cases h4
  · intro h b hb
    have : b ∈ l := by
      have h1 := List.mem_reverse.1 hb
      exact List.mem_reverse.1 ((List.dropWhile_sublist _).subset h1)
    simpa using h b this
theorem toList_nil_iff (s : ByteArray) : s.toList = [] ↔ s.data.toList = [] := by rw [Lib.toList_data]
theorem trim_nil (s cut t : ByteArray) (hs : s.size ≤ 9223372036854775807) (hc : cut.size < 4294967281) (ha : asciiB cut = true) :
    ∃ t, strings_Trim.f s cut = some t ∧ (t.toList = [] ↔ ∀ c ∈ bytesOf s, c ∈ bytesOf cut) := by
  refine ⟨_, if_pos ⟨hs, hc, ha⟩, ?_⟩
  rw [toList_nil_iff]
  simp only [trimS_nil_iff]
  unfold bytesOf
  constructor
  · intro h c hcm
    obtain ⟨b, hb, rfl⟩ := List.mem_map.1 hcm
    exact List.mem_map.2 ⟨b, h b hb, rfl⟩
  · intro h b hb
    obtain ⟨b', hb', he⟩ := List.mem_map.1 (h _ (List.mem_map.2 ⟨b, hb, rfl⟩))
    have : b' = b := UInt8.toNat_inj.1 (by omega)
    rwa [← this]
theorem cellSet (c : Int) : c ∈ bytesOf (⟨#[35, 46, 111, 97, 98, 99, 100, 101, 102]⟩ : ByteArray) ↔ isCellC c = true := by
  have : bytesOf (⟨#[35, 46, 111, 97, 98, 99, 100, 101, 102]⟩ : ByteArray) = [35, 46, 111, 97, 98, 99, 100, 101, 102] := by decide
  rw [this]
  unfold isCellC isBallC isNameC
  simp
  omega
theorem count_rune (s : ByteArray) (n : Nat) (h1 : 97 ≤ n) (h2 : n ≤ 102) : strings_Count.f s (Utf8.encode n) = some (((bytesOf s).count (n : Int) : Nat) : Int) := by
  have he : Utf8.encode (n : Int) = ⟨#[UInt8.ofNat n]⟩ := by
    have : n = 97 ∨ n = 98 ∨ n = 99 ∨ n = 100 ∨ n = 101 ∨ n = 102 := by omega
    rcases this with rfl | rfl | rfl | rfl | rfl | rfl <;> rfl
  rw [he]
  have h3 : strings_Count.f s ⟨#[UInt8.ofNat n]⟩ = some ((Lib.countByte s.data.toList (UInt8.ofNat n) : Nat) : Int) := if_pos rfl
  rw [h3]
  have hco : Lib.countByte s.data.toList (UInt8.ofNat n) = (bytesOf s).count (n : Int) := ?_
  · rw [hco]
  unfold Lib.countByte bytesOf
  have hn : (UInt8.ofNat n).toNat = n := by
    rw [UInt8.toNat_ofNat']; omega
  rw [List.count_eq_countP, List.count_eq_countP, List.countP_map]
  apply List.countP_congr
  intro b _
  simp only [beq_iff_eq, Function.comp]
  constructor
  · rintro rfl; omega
  · intro h; exact UInt8.toNat_inj.1 (by omega)
theorem IsTray_l1 (s : ByteArray) : ∀ (d n : Nat), n + d = 103 → 97 ≤ n → 
    Ev (fun k => impl_IsTray.l1 k s n) (decide (∀ m : Int, n ≤ m → m ≤ 102 → (bytesOf s).count m ≤ 1)) := by
  intro d
  induction d with
  | zero =>
    intro n hn _
    rw [decide_eq_true (by intro m h1 h2; omega)]
    exact Ev.step (f := fun _ => some true) (fun k => by rw [impl_IsTray.l1, if_neg (by omega)]) (Ev.now _)
  | succ d ih =>
    intro n hn h97
    have hih := ih (n + 1) (by omega) (by omega)
    by_cases hc : (bytesOf s).count (n : Int) > 1
    · rw [decide_eq_false (by intro h; have := h n (Int.le_refl _) (by omega); omega)]
      refine Ev.step (f := fun _ => some false) (fun k => ?_) (Ev.now _)
      rw [impl_IsTray.l1, if_pos (by omega), count_rune s n h97 (by omega), Option.bind_some, if_pos (by omega)]
    · have he : (∀ m : Int, n ≤ m → m ≤ 102 → (bytesOf s).count m ≤ 1) ↔ (∀ m : Int, (n + 1 : Nat) ≤ m → m ≤ 102 → (bytesOf s).count m ≤ 1) := by
        constructor
        · intro h m h1 h2; exact h m (by omega) h2
        · intro h m h1 h2
          rcases Int.lt_or_le n m with h3 | h3
          · exact h m (by omega) h2
          · obtain rfl : m = n := by omega
            omega
      simp only [he]
      refine Ev.step (fun k => ?_) hih
      rw [impl_IsTray.l1, if_pos (by omega), count_rune s n h97 (by omega), Option.bind_some, if_neg (by omega), w32 (by omega) (by omega)]
      rfl
theorem IsTray_l0 (s : ByteArray) (rows : List ByteArray) (r0 : ByteArray) (rest : List ByteArray) (hr : rows = r0 :: rest) (hl : rows.length ≤ 4294967296) (hb : ∀ r ∈ rows, r.size ≤ 4294967296) : ∀ (d i : Nat), i + d = rows.length →
    Ev (fun k => impl_IsTray.l0 k s rows rows rows.length i) (decide ((∀ r ∈ rows.drop i, r.size = r0.size ∧ ∀ c ∈ bytesOf r, isCellC c = true) ∧ ∀ m : Int, 97 ≤ m → m ≤ 102 → (bytesOf s).count m ≤ 1)) := by
  intro d
  induction d with
  | zero =>
    intro i hi
    have hd : rows.drop i = [] := by rw [List.drop_eq_nil_iff]; omega
    have h1 := IsTray_l1 s 6 97 (by omega) (by omega)
    have he : ((∀ r ∈ rows.drop i, r.size = r0.size ∧ ∀ c ∈ bytesOf r, isCellC c = true) ∧ ∀ m : Int, 97 ≤ m → m ≤ 102 → (bytesOf s).count m ≤ 1) ↔ (∀ m : Int, (97 : Nat) ≤ m → m ≤ 102 → (bytesOf s).count m ≤ 1) := by
      rw [hd]; simp
    simp only [he]
    exact Ev.step (fun k => by rw [impl_IsTray.l0, if_neg (by omega)]; rfl) h1
  | succ d ih =>
    intro i hi
    have hih := ih (i + 1) (by omega)
    have hlt : i < rows.length := by omega
    have hd : rows.drop i = rows[i] :: rows.drop (i + 1) := List.drop_eq_getElem_cons hlt
    have hri : rdOf ByteArray.empty rows (i : Int) = rows[i] := by
      unfold rdOf; rw [Int.toNat_natCast, List.getD_eq_getElem?_getD, List.getElem?_eq_getElem hlt]; rfl
    have hr0 : rdOf ByteArray.empty rows 0 = r0 := by unfold rdOf; rw [hr]; rfl
    have hsz : rows[i].size ≤ 4294967296 := hb _ (List.getElem_mem ..)
    have hstep : ∀ k, impl_IsTray.l0 (k + 1) s rows rows rows.length i = (if ((rows[i]).size : Int) = (r0.size : Int) then ((strings_Trim.f (rows[i]) (⟨#[35, 46, 111, 97, 98, 99, 100, 101, 102]⟩ : ByteArray)).bind fun t141 => (if t141.toList = ([] : List UInt8) then (impl_IsTray.l0 k s rows rows rows.length (i + 1 : Nat)) else (some false))) else (some false)) := fun k => by
      rw [impl_IsTray.l0, if_pos (by omega), if_pos (by omega), if_pos (by omega), if_pos (by omega), hri, hr0, w64 (by omega) (by omega)]
      rfl
    refine Ev.step hstep ?_
    by_cases hz : rows[i].size = r0.size
    · simp only [if_pos (show (rows[i].size : Int) = r0.size by omega)]
      obtain ⟨t, ht, hiff⟩ := trim_nil rows[i] (⟨#[35, 46, 111, 97, 98, 99, 100, 101, 102]⟩ : ByteArray) ByteArray.empty (by omega) (by decide) (by decide)
      rw [ht]
      simp only [Option.bind_some]
      by_cases hc : ∀ c ∈ bytesOf rows[i], isCellC c = true
      · simp only [if_pos (hiff.2 fun c hcm => (cellSet c).2 (hc c hcm))]
        have he : ((∀ r ∈ rows.drop i, r.size = r0.size ∧ ∀ c ∈ bytesOf r, isCellC c = true) ∧ ∀ m : Int, 97 ≤ m → m ≤ 102 → (bytesOf s).count m ≤ 1) ↔ ((∀ r ∈ rows.drop (i + 1), r.size = r0.size ∧ ∀ c ∈ bytesOf r, isCellC c = true) ∧ ∀ m : Int, 97 ≤ m → m ≤ 102 → (bytesOf s).count m ≤ 1) := by
          rw [hd]; simp only [List.mem_cons, forall_eq_or_imp]
          constructor
          · rintro ⟨⟨_, h2⟩, h3⟩; exact ⟨h2, h3⟩
          · rintro ⟨h2, h3⟩; exact ⟨⟨⟨hz, hc⟩, h2⟩, h3⟩
        simp only [he]
        exact hih
      · simp only [if_neg (fun e => hc fun c hcm => (cellSet c).1 (hiff.1 e c hcm))]
        rw [decide_eq_false]
        · exact Ev.now _
        · rintro ⟨h1, _⟩
          exact hc (h1 rows[i] (by rw [hd]; exact List.mem_cons_self ..)).2
    · simp only [if_neg (show ¬ (rows[i].size : Int) = r0.size by omega)]
      rw [decide_eq_false]
      · exact Ev.now _
      · rintro ⟨h1, _⟩
        exact hz (h1 rows[i] (by rw [hd]; exact List.mem_cons_self ..)).1
theorem impl_IsTray_ev (s : ByteArray) (hs : s.size < 4294967281) : Ev (fun k => impl_IsTray.f k s) (tyGrid (bytesOf s)).isSome := by
  have hsp : strings_Split.f s (⟨#[47]⟩ : ByteArray) = some (rowsB 47 s) := if_pos ⟨hs, rfl⟩
  have hmap : (rowsB 47 s).map bytesOf = rowsI 47 (bytesOf s) := rowsB_bytes 47 s
  cases hr : rowsI 47 (bytesOf s) with
  | nil => exact absurd hr (rowsI_ne _ _)
  | cons q qs =>
    have hlen := rowsI_length 47 (bytesOf s) q qs hr
    rw [bytesOf_length] at hlen
    rw [hr] at hmap
    cases hrb : rowsB 47 s with
    | nil => rw [hrb] at hmap; cases hmap
    | cons r0 rest =>
      rw [hrb, List.map_cons, List.cons.injEq] at hmap
      obtain ⟨hq, hqs⟩ := hmap
      have hq0 : q.length = r0.size := by rw [← hq, bytesOf_length]
      have hql : qs.length = rest.length := by rw [← hqs, List.length_map]
      have hrow : ∀ r ∈ r0 :: rest, r.size ≤ 4294967296 := by
        intro r hm
        rcases List.mem_cons.1 hm with rfl | hm
        · omega
        · have h1 : bytesOf r ∈ qs := by rw [← hqs]; exact List.mem_map.2 ⟨r, hm, rfl⟩
          have h2 := (List.sublist_flatten_of_mem h1).length_le
          rw [bytesOf_length] at h2; omega
      have hiff : (tyGrid (bytesOf s)).isSome = decide (((1 ≤ (r0.size : Int) ∧ (r0.size : Int) ≤ 7) ∧ (1 ≤ ((r0 :: rest).length : Int) ∧ ((r0 :: rest).length : Int) ≤ 7) ∧ (r0.size : Int) * ((r0 :: rest).length : Int) ≤ 36) ∧
          (∀ r ∈ (r0 :: rest).drop 0, r.size = r0.size ∧ ∀ c ∈ bytesOf r, isCellC c = true) ∧ ∀ m : Int, 97 ≤ m → m ≤ 102 → (bytesOf s).count m ≤ 1) := by
        rw [Bool.eq_iff_iff, tyGrid_iff, decide_eq_true_iff]
        unfold rowsTray
        rw [hr]
        simp only [List.headD_cons, List.length_cons, List.drop_zero, hq0, hql]
        have hg : rowsGood r0.size (q :: qs) ↔ (∀ r ∈ r0 :: rest, r.size = r0.size ∧ ∀ c ∈ bytesOf r, isCellC c = true) := by
          unfold rowsGood
          have e : q :: qs = (r0 :: rest).map bytesOf := by rw [List.map_cons, hq, hqs]
          rw [e]
          constructor
          · intro h r hm
            have := h (bytesOf r) (List.mem_map.2 ⟨r, hm, rfl⟩)
            rwa [bytesOf_length] at this
          · intro h z hz
            obtain ⟨r, hm, rfl⟩ := List.mem_map.1 hz
            have := h r hm
            rwa [bytesOf_length]
        rw [hg]
        have hmul : (r0.size : Int) * ((rest.length + 1 : Nat) : Int) ≤ 36 ↔ r0.size * (rest.length + 1) ≤ 36 := by
          rw [← Int.natCast_mul]; omega
        rw [hmul]
        constructor
        · rintro ⟨h1, h2, h3, h4, h5⟩; exact ⟨⟨by omega, by omega, h3⟩, h4, h5⟩
        · rintro ⟨⟨h1, h2, h3⟩, h4, h5⟩; exact ⟨by omega, by omega, h3, h4, h5⟩
      rw [hiff]
      unfold impl_IsTray.f
      rw [hsp, hrb]
      simp only [Option.bind_some]
      have h00 : rdOf ByteArray.empty (r0 :: rest) 0 = r0 := rfl
      have hln : (r0 :: rest).length ≤ 4294967296 := by simp only [List.length_cons]; omega
      simp only [if_pos (show (0 : Int) < ((r0 :: rest).length : Int) by simp only [List.length_cons]; omega), h00, impl_isSize_eq (r0.size : Int) ((r0 :: rest).length : Int) (by omega) (by omega), Option.bind_some]
      by_cases hsize : (1 ≤ (r0.size : Int) ∧ (r0.size : Int) ≤ 7) ∧ (1 ≤ ((r0 :: rest).length : Int) ∧ ((r0 :: rest).length : Int) ≤ 7) ∧ (r0.size : Int) * ((r0 :: rest).length : Int) ≤ 36
      · simp only [decide_eq_true hsize, if_true]
        have h0 := IsTray_l0 s (r0 :: rest) r0 rest rfl hln hrow (r0 :: rest).length 0 (by omega)
        simp only [hsize, true_and]
        exact h0
      · simp only [decide_eq_false hsize]
        rw [decide_eq_false (fun e => hsize e.1)]
        exact Ev.now _
end Go.Proofs.YtipjmlcbbimfpaaGreatDoor.F

namespace Go.Proofs.YtipjmlcbbimfpaaGreatDoor.F
open Go.Proofs.YtipjmlcbbimfpaaGreatDoor
open Go.RowKit Go.Proofs.YtipjmlcbbimfpaaGreatDoorW.PrintWords Go.Proofs.YtipjmlcbbimfpaaGreatDoorW.PrintLast Go.Proofs.YtipjmlcbbimfpaaGreatDoorW.PrintMore
attribute [local go_sem] max2_int min2_int max_two min_two max_three min_three max_four min_four   -- for this text's walks alone
set_option linter.unusedVariables false
set_option linter.unusedSimpArgs false
def impl_SizeOf.f (k : Nat) (a0 : ByteArray) : Option (Int × Int × Bool) := (impl_IsTray.f k a0).bind fun t101 => (if t101 = true then ((impl_read.f a0).bind fun bt102 => (some (bt102.1, bt102.2.1, true))) else (some (0, 0, false)))
set_option maxHeartbeats 8000000 in
set_option maxRecDepth 100000 in
theorem impl_SizeOf.calls (k : Nat) (a0 : ByteArray) (r1 : Int) (r2 : Int) (r3 : Bool) (w : World) (h : impl_SizeOf.f k a0 = some (r1, r2, r3)) :
  Calls Tryz.prog 20 #[.string a0] w fun e w' => e = .returned (.tuple #[.int .i64 r1, .int .i64 r2, .bool r3]) ∧ Below w.heap.size w w' := by
 have hu62 := Tryz.underlying62
 have HB := Aside0.mk (Below.refl w.heap.size w)
 have H : ((impl_IsTray.f k a0).bind fun t101 => (if t101 = true then ((impl_read.f a0).bind fun bt102 => (some (bt102.1, bt102.2.1, true))) else (some (0, 0, false)))) = some (r1, r2, r3) := h
 clear h
 replace H := Option.bind_eq_some_iff.mp H
 obtain ⟨t101, A20, H⟩ := H
 replace H : (if t101 = true then ((impl_read.f a0).bind fun bt102 => (some (bt102.1, bt102.2.1, true))) else (some (0, 0, false))) = some (r1, r2, r3) := H
 have A2 := Aside0.mk A20
 clear A20
 by_cases c3 : t101 = true
 ·subst c3
  have H1 : ((impl_read.f a0).bind fun bt102 => (some (bt102.1, bt102.2.1, true))) = some (r1, r2, r3) := by rw [if_pos rfl] at H; exact H
  clear H
  have H := H1
  clear H1
  replace H := Option.bind_eq_some_iff.mp H
  obtain ⟨⟨t102, t103, t104⟩, A40, H⟩ := H
  replace H : (some (t102, t103, true)) = some (r1, r2, r3) := H
  have A4 := Aside0.mk A40
  clear A40
  simp only [Option.some.injEq, Prod.mk.injEq] at H
  obtain ⟨rfl, rfl, rfl⟩ := H
  go_enter Tryz.func20, Tryz.ntmps20
  go_wp2_with (first | (go_at_call 18; (with_reducible refine (impl_IsTray.calls k a0 true _ A2.out).mono ?_); rintro e w5 ⟨rfl, hb⟩; have n0_ := Aside0.mk (below_step aq0 hb); clear HB; have HB := n0_; clear n0_; (try clear hb); (try clear hb2); (try clear hk); (try clear hi)) | (go_at_call 70; (with_reducible refine (impl_read.calls a0 t102 t103 t104 _ A4.out).mono ?_); rintro e w6 ⟨v105, rfl, ho0, hb⟩; have n0_ := Aside0.mk (Kd.V_lower (Kd.V_mono (ok' := fun k_ => True) ho0 (fun k_ hk_ => trivial)) (below_size aq0)); have n1_ := Aside0.mk (below_step aq0 hb); clear HB; have HO106 := n0_; have HB := n1_; clear n0_ n1_; (try clear hb); (try clear hb2); (try clear hk); (try clear hi); (try clear ho0)) | ((with_reducible refine gate_dst (N := 5) rfl ?_); refine box_event ?hg (N := 5) ?hd (cs := #[.int .i64 0, .int .i64 0, .slice none 0 0]) (t := 62) ?hr ?_; (case hd => rfl); (case hg => rfl); (case hr => exact aq23); intro gb107 hg w7 hbox hb; have n0_ := Aside0.mk (Kd.V_below (Kd.V_elderB aq33 gb107 (Nat.le_of_eq hg.symm)) hb); have n1_ := Aside0.mk (below_step aq0 hb); have n2_ := Aside0.mk (hbox); have n3_ := Aside0.mk ((by rw [hg]; exact (below_size aq0) : w.heap.size ≤ gb107)); have n4_ := Aside0.mk ((by rw [hg]; exact (below_size aq0) : w.heap.size ≤ gb107)); clear HO106; clear HB; have HO106 := n0_; have HB := n1_; have BK107 := n2_; have GW107 := n3_; have GE107 := n4_; clear n0_ n1_ n2_ n3_ n4_; clear hb hbox hg; have hcz8_0 : w7.cell? ⟨gb107, 0, none⟩ = some (.int .i64 0) := (blk_cell BK107.out 0).trans rfl; have hcz8_1 : w7.cell? ⟨gb107, 1, none⟩ = some (.int .i64 0) := (blk_cell BK107.out 1).trans rfl; have hcz8_2 : w7.cell? ⟨gb107, 2, none⟩ = some (.slice none 0 0) := (blk_cell BK107.out 2).trans rfl; have hfz8_0 := blk_frozen BK107.out 0; have hfz8_1 := blk_frozen BK107.out 1; have hfz8_2 := blk_frozen BK107.out 2; obtain ⟨Ao9, co9, eo9⟩ := Kd.V_slice HO106.out; subst eo9))
  repeat (go_quiet (first | (go_at_call 18; (with_reducible refine (impl_IsTray.calls k a0 true _ A2.out).mono ?_); rintro e w5 ⟨rfl, hb⟩; have n0_ := Aside0.mk (below_step aq0 hb); clear HB; have HB := n0_; clear n0_; (try clear hb); (try clear hb2); (try clear hk); (try clear hi)) | (go_at_call 70; (with_reducible refine (impl_read.calls a0 t102 t103 t104 _ A4.out).mono ?_); rintro e w6 ⟨v105, rfl, ho0, hb⟩; have n0_ := Aside0.mk (Kd.V_lower (Kd.V_mono (ok' := fun k_ => True) ho0 (fun k_ hk_ => trivial)) (below_size aq0)); have n1_ := Aside0.mk (below_step aq0 hb); clear HB; have HO106 := n0_; have HB := n1_; clear n0_ n1_; (try clear hb); (try clear hb2); (try clear hk); (try clear hi); (try clear ho0)) | ((with_reducible refine gate_dst (N := 5) rfl ?_); refine box_event ?hg (N := 5) ?hd (cs := #[.int .i64 0, .int .i64 0, .slice none 0 0]) (t := 62) ?hr ?_; (case hd => rfl); (case hg => rfl); (case hr => exact aq23); intro gb107 hg w7 hbox hb; have n0_ := Aside0.mk (Kd.V_below (Kd.V_elderB aq33 gb107 (Nat.le_of_eq hg.symm)) hb); have n1_ := Aside0.mk (below_step aq0 hb); have n2_ := Aside0.mk (hbox); have n3_ := Aside0.mk ((by rw [hg]; exact (below_size aq0) : w.heap.size ≤ gb107)); have n4_ := Aside0.mk ((by rw [hg]; exact (below_size aq0) : w.heap.size ≤ gb107)); clear HO106; clear HB; have HO106 := n0_; have HB := n1_; have BK107 := n2_; have GW107 := n3_; have GE107 := n4_; clear n0_ n1_ n2_ n3_ n4_; clear hb hbox hg; have hcz8_0 : w7.cell? ⟨gb107, 0, none⟩ = some (.int .i64 0) := (blk_cell BK107.out 0).trans rfl; have hcz8_1 : w7.cell? ⟨gb107, 1, none⟩ = some (.int .i64 0) := (blk_cell BK107.out 1).trans rfl; have hcz8_2 : w7.cell? ⟨gb107, 2, none⟩ = some (.slice none 0 0) := (blk_cell BK107.out 2).trans rfl; have hfz8_0 := blk_frozen BK107.out 0; have hfz8_1 := blk_frozen BK107.out 1; have hfz8_2 := blk_frozen BK107.out 2; obtain ⟨Ao9, co9, eo9⟩ := Kd.V_slice HO106.out; subst eo9)); try go_wp2_with (first | (go_at_call 18; (with_reducible refine (impl_IsTray.calls k a0 true _ A2.out).mono ?_); rintro e w5 ⟨rfl, hb⟩; have n0_ := Aside0.mk (below_step aq0 hb); clear HB; have HB := n0_; clear n0_; (try clear hb); (try clear hb2); (try clear hk); (try clear hi)) | (go_at_call 70; (with_reducible refine (impl_read.calls a0 t102 t103 t104 _ A4.out).mono ?_); rintro e w6 ⟨v105, rfl, ho0, hb⟩; have n0_ := Aside0.mk (Kd.V_lower (Kd.V_mono (ok' := fun k_ => True) ho0 (fun k_ hk_ => trivial)) (below_size aq0)); have n1_ := Aside0.mk (below_step aq0 hb); clear HB; have HO106 := n0_; have HB := n1_; clear n0_ n1_; (try clear hb); (try clear hb2); (try clear hk); (try clear hi); (try clear ho0)) | ((with_reducible refine gate_dst (N := 5) rfl ?_); refine box_event ?hg (N := 5) ?hd (cs := #[.int .i64 0, .int .i64 0, .slice none 0 0]) (t := 62) ?hr ?_; (case hd => rfl); (case hg => rfl); (case hr => exact aq23); intro gb107 hg w7 hbox hb; have n0_ := Aside0.mk (Kd.V_below (Kd.V_elderB aq33 gb107 (Nat.le_of_eq hg.symm)) hb); have n1_ := Aside0.mk (below_step aq0 hb); have n2_ := Aside0.mk (hbox); have n3_ := Aside0.mk ((by rw [hg]; exact (below_size aq0) : w.heap.size ≤ gb107)); have n4_ := Aside0.mk ((by rw [hg]; exact (below_size aq0) : w.heap.size ≤ gb107)); clear HO106; clear HB; have HO106 := n0_; have HB := n1_; have BK107 := n2_; have GW107 := n3_; have GE107 := n4_; clear n0_ n1_ n2_ n3_ n4_; clear hb hbox hg; have hcz8_0 : w7.cell? ⟨gb107, 0, none⟩ = some (.int .i64 0) := (blk_cell BK107.out 0).trans rfl; have hcz8_1 : w7.cell? ⟨gb107, 1, none⟩ = some (.int .i64 0) := (blk_cell BK107.out 1).trans rfl; have hcz8_2 : w7.cell? ⟨gb107, 2, none⟩ = some (.slice none 0 0) := (blk_cell BK107.out 2).trans rfl; have hfz8_0 := blk_frozen BK107.out 0; have hfz8_1 := blk_frozen BK107.out 1; have hfz8_2 := blk_frozen BK107.out 2; obtain ⟨Ao9, co9, eo9⟩ := Kd.V_slice HO106.out; subst eo9)))
  go_ret3
  exact ⟨aq8, aq10⟩
 ·replace c3 := Bool.eq_false_iff.mpr c3
  subst c3
  have H1 : (some (0, 0, false)) = some (r1, r2, r3) := by rw [if_neg (show ¬ (false = true) by decide)] at H; exact H
  clear H
  have H := H1
  clear H1
  simp only [Option.some.injEq, Prod.mk.injEq] at H
  obtain ⟨rfl, rfl, rfl⟩ := H
  go_enter Tryz.func20, Tryz.ntmps20
  go_wp2_with (first | (go_at_call 18; (with_reducible refine (impl_IsTray.calls k a0 false _ A2.out).mono ?_); rintro e w10 ⟨rfl, hb⟩; have n0_ := Aside0.mk (below_step aq0 hb); clear HB; have HB := n0_; clear n0_; (try clear hb); (try clear hb2); (try clear hk); (try clear hi)))
  repeat (go_quiet (first | (go_at_call 18; (with_reducible refine (impl_IsTray.calls k a0 false _ A2.out).mono ?_); rintro e w10 ⟨rfl, hb⟩; have n0_ := Aside0.mk (below_step aq0 hb); clear HB; have HB := n0_; clear n0_; (try clear hb); (try clear hb2); (try clear hk); (try clear hi))); try go_wp2_with (first | (go_at_call 18; (with_reducible refine (impl_IsTray.calls k a0 false _ A2.out).mono ?_); rintro e w10 ⟨rfl, hb⟩; have n0_ := Aside0.mk (below_step aq0 hb); clear HB; have HB := n0_; clear n0_; (try clear hb); (try clear hb2); (try clear hk); (try clear hi))))
  go_ret3
  exact ⟨aq8, aq0⟩
end Go.Proofs.YtipjmlcbbimfpaaGreatDoor.F

namespace Go.Proofs.YtipjmlcbbimfpaaGreatDoor.F
open Go.RowKit Go.Proofs.YtipjmlcbbimfpaaGreatDoor Go.Proofs.YtipjmlcbbimfpaaGreatDoorW.PrintWords
set_option linter.unusedVariables false
set_option linter.unusedSimpArgs false
theorem tyGrid_some {l : List Int} {w h : Nat} {cs : List Int} (hg : tyGrid l = some (w, h, cs)) :
    (1 ≤ w ∧ w ≤ 7) ∧ (1 ≤ h ∧ h ≤ 7) ∧ cs.length = w * h ∧ w * h ≤ 36 ∧ l.length ≤ 42 ∧ cs = (rowsI 47 l).flatten ∧ w = ((rowsI 47 l).headD []).length ∧ h = (rowsI 47 l).length := by
  have hs : rowsTray l := (tyGrid_iff l).1 (by rw [hg]; rfl)
  unfold tyGrid at hg
  split at hg
  · cases hg
  rename_i h42
  cases hr : rowsI 47 l with
  | nil => exact absurd hr (rowsI_ne _ _)
  | cons r rs =>
    rw [tyGo_start l r rs hr] at hg
    unfold rowsTray at hs
    rw [hr] at hs
    by_cases hc : 0 < r.length ∧ rowsGood r.length (r :: rs)
    · rw [if_pos hc] at hg
      simp only at hg
      split at hg
      · rename_i hd
        injection hg with hg
        simp only [Prod.mk.injEq] at hg
        obtain ⟨rfl, rfl, rfl⟩ := hg
        have hf := rowsGood_flatten hc.2
        simp only [List.length_cons] at hf
        simp only [List.headD_cons, List.length_cons] at hs ⊢
        refine ⟨hs.1, hs.2.1, hf, hs.2.2.1, by omega, ?_⟩
        simp
      · cases hg
    · rw [if_neg hc] at hg
      cases hg
theorem join_nil : ∀ xs : List (List UInt8), Lib.join xs [] = xs.flatten
  | [] => rfl
  | [a] => by simp [Lib.join, List.intercalate]
  | a :: b :: l => by
    have ih := join_nil (b :: l)
    unfold Lib.join List.intercalate at ih ⊢
    rw [List.intersperse, List.flatten_cons, List.flatten_cons, ih]
    · simp
    all_goals simp
theorem impl_read_eq (s : ByteArray) {w h : Nat} {cs : List Int} (hg : tyGrid (bytesOf s) = some (w, h, cs)) : impl_read.f s = some ((w : Int), (h : Int), cs) := by
  obtain ⟨hw, hh, hl, h36, h42, hcs, hwr, hhr⟩ := tyGrid_some hg
  rw [bytesOf_length] at h42
  have hsp : strings_Split.f s (⟨#[47]⟩ : ByteArray) = some (rowsB 47 s) := if_pos ⟨by omega, rfl⟩
  have hmap : (rowsB 47 s).map bytesOf = rowsI 47 (bytesOf s) := rowsB_bytes 47 s
  have hjl : (Lib.join ((rowsB 47 s).map (·.data.toList)) []) = ((rowsB 47 s).map (·.data.toList)).flatten := join_nil _
  have hbj : bytesOf (joinB (rowsB 47 s) ⟨#[]⟩) = cs := by
    unfold joinB
    show ((Lib.join ((rowsB 47 s).map (·.data.toList)) []).map fun b : UInt8 => (b.toNat : Int)) = cs
    rw [hjl, List.map_flatten, List.map_map, hcs, ← hmap]
    rfl
  have hjs : (joinB (rowsB 47 s) ⟨#[]⟩).size = w * h := by rw [← bytesOf_length, hbj, hl]
  have hrl : (rowsB 47 s).length = h := by rw [hhr, ← hmap, List.length_map]
  have hjoin : strings_Join.f (rowsB 47 s) (⟨#[]⟩ : ByteArray) = some (joinB (rowsB 47 s) ⟨#[]⟩) := by
    refine if_pos ⟨by omega, ?_⟩
    have : (Lib.join ((rowsB 47 s).map (·.data.toList)) ([] : List UInt8)).length = w * h := by
      rw [← hjs]; rfl
    show (Lib.join ((rowsB 47 s).map (·.data.toList)) ([] : List UInt8)).length ≤ _
    omega
  have hr0 : ((rdOf ByteArray.empty (rowsB 47 s) 0).size : Int) = w := by
    rw [hwr, ← hmap]
    cases hrb : rowsB 47 s with
    | nil => rw [hrb] at hrl; simp at hrl; omega
    | cons a t =>
      show ((a.size : Nat) : Int) = _
      simp [bytesOf_length]
  rw [impl_read.f, hsp, Option.bind_some, if_pos (by omega), hjoin, Option.bind_some, conv_bytes.f, if_pos (by omega), Option.bind_some, hr0, hrl, hbj]
theorem impl_size_ev (s : ByteArray) (hs : s.size < 4294967281) : Ev (fun k => impl_SizeOf.f k s) (match tyGrid (bytesOf s) with | none => (0, 0, false) | some (w, h, _) => ((w : Int), (h : Int), true)) := by
  have h1 := impl_IsTray_ev s hs
  cases hg : tyGrid (bytesOf s) with
  | none =>
    rw [hg] at h1
    refine Ev.bind h1 ?_
    exact Ev.congr (fun k => by simp) (Ev.now _)
  | some z =>
    obtain ⟨w, h, cs⟩ := z
    rw [hg] at h1
    refine Ev.bind h1 ?_
    refine Ev.congr (fun k => ?_) (Ev.now _)
    simp [impl_read_eq s hg]
theorem count_byte (s : ByteArray) (b : UInt8) : strings_Count.f s ⟨#[b]⟩ = some (((bytesOf s).count (b.toNat : Int) : Nat) : Int) := by
  have h3 : strings_Count.f s ⟨#[b]⟩ = some ((Lib.countByte s.data.toList b : Nat) : Int) := if_pos rfl
  rw [h3]
  have hco : Lib.countByte s.data.toList b = (bytesOf s).count (b.toNat : Int) := ?_
  · rw [hco]
  unfold Lib.countByte bytesOf
  rw [List.count_eq_countP, List.count_eq_countP, List.countP_map]
  apply List.countP_congr
  intro c _
  simp only [beq_iff_eq, Function.comp]
  constructor
  · rintro rfl; rfl
  · intro h; exact UInt8.toNat_inj.1 (by omega)
end Go.Proofs.YtipjmlcbbimfpaaGreatDoor.F

namespace Go.Proofs.YtipjmlcbbimfpaaGreatDoor.F
open Go.Proofs.YtipjmlcbbimfpaaGreatDoor
open Go.RowKit Go.Proofs.YtipjmlcbbimfpaaGreatDoorW.PrintWords Go.Proofs.YtipjmlcbbimfpaaGreatDoorW.PrintLast Go.Proofs.YtipjmlcbbimfpaaGreatDoorW.PrintMore
attribute [local go_sem] max2_int min2_int max_two min_two max_three min_three max_four min_four   -- for this text's walks alone
set_option linter.unusedVariables false
set_option linter.unusedSimpArgs false
def impl_LeastTray.f (k : Nat) (a0 : ByteArray) : Option (ByteArray × Bool) := (impl_IsTray.f k a0).bind fun t101 => (if t101 = true then ((impl_read.f a0).bind fun bt102 => ((impl_tray_eight.f k bt102.1 bt102.2.1 bt102.2.2).bind fun t107 => ((slices_Min.f t107).bind fun t110 => (some (t110, true))))) else (some ((⟨#[]⟩ : ByteArray), false)))
set_option maxHeartbeats 8000000 in
set_option maxRecDepth 100000 in
theorem impl_LeastTray.calls (k : Nat) (a0 : ByteArray) (r1 : ByteArray) (r2 : Bool) (w : World) (h : impl_LeastTray.f k a0 = some (r1, r2)) :
  Calls Tryz.prog 8 #[.string a0] w fun e w' => e = .returned (.tuple #[.string r1, .bool r2]) ∧ Below w.heap.size w w' := by
 have HB := Aside0.mk (Below.refl w.heap.size w)
 have H : ((impl_IsTray.f k a0).bind fun t101 => (if t101 = true then ((impl_read.f a0).bind fun bt102 => ((impl_tray_eight.f k bt102.1 bt102.2.1 bt102.2.2).bind fun t107 => ((slices_Min.f t107).bind fun t110 => (some (t110, true))))) else (some ((⟨#[]⟩ : ByteArray), false)))) = some (r1, r2) := h
 clear h
 replace H := Option.bind_eq_some_iff.mp H
 obtain ⟨t101, A20, H⟩ := H
 replace H : (if t101 = true then ((impl_read.f a0).bind fun bt102 => ((impl_tray_eight.f k bt102.1 bt102.2.1 bt102.2.2).bind fun t107 => ((slices_Min.f t107).bind fun t110 => (some (t110, true))))) else (some ((⟨#[]⟩ : ByteArray), false))) = some (r1, r2) := H
 have A2 := Aside0.mk A20
 clear A20
 by_cases c3 : t101 = true
 ·subst c3
  have H1 : ((impl_read.f a0).bind fun bt102 => ((impl_tray_eight.f k bt102.1 bt102.2.1 bt102.2.2).bind fun t107 => ((slices_Min.f t107).bind fun t110 => (some (t110, true))))) = some (r1, r2) := by rw [if_pos rfl] at H; exact H
  clear H
  have H := H1
  clear H1
  replace H := Option.bind_eq_some_iff.mp H
  obtain ⟨⟨t102, t103, t104⟩, A40, H⟩ := H
  replace H : ((impl_tray_eight.f k t102 t103 t104).bind fun t107 => ((slices_Min.f t107).bind fun t110 => (some (t110, true)))) = some (r1, r2) := H
  have A4 := Aside0.mk A40
  clear A40
  replace H := Option.bind_eq_some_iff.mp H
  obtain ⟨t107, A50, H⟩ := H
  replace H : ((slices_Min.f t107).bind fun t110 => (some (t110, true))) = some (r1, r2) := H
  have A5 := Aside0.mk A50
  clear A50
  replace H := Option.bind_eq_some_iff.mp H
  obtain ⟨t110, A60, H⟩ := H
  replace H : (some (t110, true)) = some (r1, r2) := H
  have A6 := Aside0.mk A60
  clear A60
  simp only [Option.some.injEq, Prod.mk.injEq] at H
  obtain ⟨rfl, rfl⟩ := H
  go_enter Tryz.func8, Tryz.ntmps8
  go_wp2_with (first | ((with_reducible refine gate_callee (f := 18) rfl ?_); refine goesL_ (some 5) rfl rfl Tryz.func18 (by kernel_rfl) rfl #[.string a0] rfl aq1 ?_; (with_reducible refine (impl_IsTray.calls k a0 true _ A2.out).mono ?_); rintro e w7 ⟨rfl, hb⟩; refine ⟨_, rfl, ?_⟩; have n0_ := Aside0.mk (below_step aq0 hb); clear HB; have HB := n0_; clear n0_; (try clear hb); (try clear hb2); (try clear hk); (try clear hi)) | ((with_reducible refine gate_callee (f := 70) rfl ?_); refine goesL_ (some 8) rfl rfl Tryz.func70 (by kernel_rfl) rfl #[.string a0] rfl aq1 ?_; (with_reducible refine (impl_read.calls a0 t102 t103 t104 _ A4.out).mono ?_); rintro e w8 ⟨v105, rfl, ho0, hb⟩; refine ⟨_, rfl, ?_⟩; have n0_ := Aside0.mk (Kd.V_lower (Kd.V_mono (ok' := fun k_ => True) ho0 (fun k_ hk_ => trivial)) (below_size aq0)); have n1_ := Aside0.mk (below_step aq0 hb); clear HB; have HO106 := n0_; have HB := n1_; clear n0_ n1_; (try clear hb); (try clear hb2); (try clear hk); (try clear hi); (try clear ho0); obtain ⟨Ao9, co9, eo9⟩ := Kd.V_slice HO106.out; subst eo9) | ((with_reducible refine gate_callee (f := 71) rfl ?_); refine goesL_ (some 9) rfl rfl Tryz.func71 (by kernel_rfl) rfl #[.agg #[.int .i64 t102, .int .i64 t103, .slice Ao9 t104.length co9]] rfl aq1 ?_; (with_reducible refine (impl_tray_eight.calls k t102 t103 _ _ t104 t107 _ ?side1 ?side2 A5.out).mono ?_); (case side1 => exact aq47); (case side2 => exact (Kd.V_reads' HO106.out).2.1); rintro e w10 ⟨v108, rfl, ho0, hb⟩; refine ⟨_, rfl, ?_⟩; have n0_ := Aside0.mk (Kd.V_elder' aq33 (Kd.R_base ho0) hb); have n1_ := Aside0.mk (Kd.R_lower ho0 (below_size aq0)); have n2_ := Aside0.mk (below_step aq0 hb); clear HO106; clear HB; have HO106 := n0_; have HO109 := n1_; have HB := n2_; clear n0_ n1_ n2_; (try clear hb); (try clear hb2); (try clear hk); (try clear hi); (try clear ho0); obtain ⟨Ao11, co11, eo11⟩ := Kd.R_slice HO109.out; subst eo11) | ((with_reducible refine gate_callee (f := 69) rfl ?_); refine goesL_ (some 10) rfl rfl Tryz.func69 (by kernel_rfl) rfl #[.slice Ao11 t107.length co11] rfl aq1 ?_; (with_reducible refine (slices_Min.calls _ _ t107 t110 _ ?side1 ?side2 A6.out).mono ?_); (case side1 => repeat (first | exact (Kd.R_reads' HO109.out).2.2 | (with_reducible refine Kd.C_alloc ?_ _) | (with_reducible refine Kd.C_drewN ?_ _) | (with_reducible refine Kd.C_drew ?_))); (case side2 => exact (Kd.R_reads' HO109.out).2.1); rintro e w' ⟨rfl, ⟨nd, rfl⟩⟩; refine ⟨_, rfl, ?_⟩))
  go_ret2
  exact ⟨aq8, aq0⟩
 ·replace c3 := Bool.eq_false_iff.mpr c3
  subst c3
  have H1 : (some ((⟨#[]⟩ : ByteArray), false)) = some (r1, r2) := by rw [if_neg (show ¬ (false = true) by decide)] at H; exact H
  clear H
  have H := H1
  clear H1
  simp only [Option.some.injEq, Prod.mk.injEq] at H
  obtain ⟨rfl, rfl⟩ := H
  go_enter Tryz.func8, Tryz.ntmps8
  go_wp2_with (first | ((with_reducible refine gate_callee (f := 18) rfl ?_); refine goesL_ (some 5) rfl rfl Tryz.func18 (by kernel_rfl) rfl #[.string a0] rfl aq1 ?_; (with_reducible refine (impl_IsTray.calls k a0 false _ A2.out).mono ?_); rintro e w12 ⟨rfl, hb⟩; refine ⟨_, rfl, ?_⟩; have n0_ := Aside0.mk (below_step aq0 hb); clear HB; have HB := n0_; clear n0_; (try clear hb); (try clear hb2); (try clear hk); (try clear hi)))
  go_ret2
  exact ⟨aq8, aq0⟩
end Go.Proofs.YtipjmlcbbimfpaaGreatDoor.F
