/- The proof that the law's row holds, part 3: the kit's words, the printed walks and the plain law. No conditions beyond the card's own. -/
import Derived.Deep.RegionHeld3
import Derived.Test.YtdffgeoegdkiaaaGreatDoorM0
import Derived.Test.YtdffgeoegdkiaaaGreatDoorM1
import Derived.Test.YtdffgeoegdkiaaaGreatDoorM2
set_option linter.unusedVariables false
set_option linter.unusedSimpArgs false
namespace Go.Proofs.YtdffgeoegdkiaaaGreatDoor.F
open Go.Proofs.YtdffgeoegdkiaaaGreatDoor
open Go.RowKit Go.Proofs.YtdffgeoegdkiaaaGreatDoorW.PrintWords Go.Proofs.YtdffgeoegdkiaaaGreatDoorW.PrintLast Go.Proofs.YtdffgeoegdkiaaaGreatDoorW.PrintMore
attribute [local go_sem] max2_int min2_int max_two min_two max_three min_three max_four min_four
def spec_tiAhead.f (a0_0 : Int) (a0_1 : Int) (l0_2 : List Int) (a1 : Int) (a2 : Int) : Option (Int) := if a0_0 = 0 then (none) else (if a2 = 0 then ((spec_tyCell.f a0_0 a0_1 l0_2 (Int.tmod a1 a0_0) (wrap64 ((wrap64 (Int.tdiv a1 a0_0)) - 1))).bind fun t102 => (if t102 = true then (if 0 ≤ (wrap64 ((wrap64 ((wrap64 ((wrap64 (Int.tdiv a1 a0_0)) - 1)) * a0_0)) + (Int.tmod a1 a0_0))) then (if (wrap64 ((wrap64 ((wrap64 ((wrap64 (Int.tdiv a1 a0_0)) - 1)) * a0_0)) + (Int.tmod a1 a0_0))) < (l0_2.length : Int) then (if (rd l0_2 (wrap64 ((wrap64 ((wrap64 ((wrap64 (Int.tdiv a1 a0_0)) - 1)) * a0_0)) + (Int.tmod a1 a0_0)))) = 35 then (some (-1)) else (some (wrap64 ((wrap64 ((wrap64 ((wrap64 (Int.tdiv a1 a0_0)) - 1)) * a0_0)) + (Int.tmod a1 a0_0))))) else (none)) else (none)) else (some (-1)))) else (if a2 = 1 then ((spec_tyCell.f a0_0 a0_1 l0_2 (wrap64 ((Int.tmod a1 a0_0) + 1)) (wrap64 (Int.tdiv a1 a0_0))).bind fun t104 => (if t104 = true then (if 0 ≤ (wrap64 ((wrap64 ((wrap64 (Int.tdiv a1 a0_0)) * a0_0)) + (wrap64 ((Int.tmod a1 a0_0) + 1)))) then (if (wrap64 ((wrap64 ((wrap64 (Int.tdiv a1 a0_0)) * a0_0)) + (wrap64 ((Int.tmod a1 a0_0) + 1)))) < (l0_2.length : Int) then (if (rd l0_2 (wrap64 ((wrap64 ((wrap64 (Int.tdiv a1 a0_0)) * a0_0)) + (wrap64 ((Int.tmod a1 a0_0) + 1))))) = 35 then (some (-1)) else (some (wrap64 ((wrap64 ((wrap64 (Int.tdiv a1 a0_0)) * a0_0)) + (wrap64 ((Int.tmod a1 a0_0) + 1)))))) else (none)) else (none)) else (some (-1)))) else (if a2 = 2 then ((spec_tyCell.f a0_0 a0_1 l0_2 (Int.tmod a1 a0_0) (wrap64 ((wrap64 (Int.tdiv a1 a0_0)) + 1))).bind fun t106 => (if t106 = true then (if 0 ≤ (wrap64 ((wrap64 ((wrap64 ((wrap64 (Int.tdiv a1 a0_0)) + 1)) * a0_0)) + (Int.tmod a1 a0_0))) then (if (wrap64 ((wrap64 ((wrap64 ((wrap64 (Int.tdiv a1 a0_0)) + 1)) * a0_0)) + (Int.tmod a1 a0_0))) < (l0_2.length : Int) then (if (rd l0_2 (wrap64 ((wrap64 ((wrap64 ((wrap64 (Int.tdiv a1 a0_0)) + 1)) * a0_0)) + (Int.tmod a1 a0_0)))) = 35 then (some (-1)) else (some (wrap64 ((wrap64 ((wrap64 ((wrap64 (Int.tdiv a1 a0_0)) + 1)) * a0_0)) + (Int.tmod a1 a0_0))))) else (none)) else (none)) else (some (-1)))) else ((spec_tyCell.f a0_0 a0_1 l0_2 (wrap64 ((Int.tmod a1 a0_0) - 1)) (wrap64 (Int.tdiv a1 a0_0))).bind fun t108 => (if t108 = true then (if 0 ≤ (wrap64 ((wrap64 ((wrap64 (Int.tdiv a1 a0_0)) * a0_0)) + (wrap64 ((Int.tmod a1 a0_0) - 1)))) then (if (wrap64 ((wrap64 ((wrap64 (Int.tdiv a1 a0_0)) * a0_0)) + (wrap64 ((Int.tmod a1 a0_0) - 1)))) < (l0_2.length : Int) then (if (rd l0_2 (wrap64 ((wrap64 ((wrap64 (Int.tdiv a1 a0_0)) * a0_0)) + (wrap64 ((Int.tmod a1 a0_0) - 1))))) = 35 then (some (-1)) else (some (wrap64 ((wrap64 ((wrap64 (Int.tdiv a1 a0_0)) * a0_0)) + (wrap64 ((Int.tmod a1 a0_0) - 1)))))) else (none)) else (none)) else (some (-1)))))))
set_option maxHeartbeats 8000000 in
set_option maxRecDepth 100000 in
theorem spec_tiAhead.calls (a0_0 : Int) (a0_1 : Int) (A0_2 : Option Addr) (c0_2 : Nat) (l0_2 : List Int) (a1 : Int) (a2 : Int) (r : Int) (w : World) (hr0_2 : Kd.C (Kd.int .u8) w A0_2 l0_2.length l0_2) (hc0_2 : l0_2.length ≤ c0_2) (h : spec_tiAhead.f a0_0 a0_1 l0_2 a1 a2 = some r) :
  Calls Tryz.prog 165 #[.agg #[.int .i64 a0_0, .int .i64 a0_1, .slice A0_2 l0_2.length c0_2], .int .i64 a1, .int .i64 a2] w fun e w' => e = .returned (.int .i64 r) ∧ Below w.heap.size w w' := by
 have hu62 := Tryz.underlying62
 have HR0_2 := am hr0_2
 have HC0_2 := am hc0_2
 clear hr0_2 hc0_2
 have HB := am (Below.refl w.heap.size w)
 have H : (if a0_0 = 0 then (none) else (if a2 = 0 then ((spec_tyCell.f a0_0 a0_1 l0_2 (Int.tmod a1 a0_0) (wrap64 ((wrap64 (Int.tdiv a1 a0_0)) - 1))).bind fun t102 => (if t102 = true then (if 0 ≤ (wrap64 ((wrap64 ((wrap64 ((wrap64 (Int.tdiv a1 a0_0)) - 1)) * a0_0)) + (Int.tmod a1 a0_0))) then (if (wrap64 ((wrap64 ((wrap64 ((wrap64 (Int.tdiv a1 a0_0)) - 1)) * a0_0)) + (Int.tmod a1 a0_0))) < (l0_2.length : Int) then (if (rd l0_2 (wrap64 ((wrap64 ((wrap64 ((wrap64 (Int.tdiv a1 a0_0)) - 1)) * a0_0)) + (Int.tmod a1 a0_0)))) = 35 then (some (-1)) else (some (wrap64 ((wrap64 ((wrap64 ((wrap64 (Int.tdiv a1 a0_0)) - 1)) * a0_0)) + (Int.tmod a1 a0_0))))) else (none)) else (none)) else (some (-1)))) else (if a2 = 1 then ((spec_tyCell.f a0_0 a0_1 l0_2 (wrap64 ((Int.tmod a1 a0_0) + 1)) (wrap64 (Int.tdiv a1 a0_0))).bind fun t104 => (if t104 = true then (if 0 ≤ (wrap64 ((wrap64 ((wrap64 (Int.tdiv a1 a0_0)) * a0_0)) + (wrap64 ((Int.tmod a1 a0_0) + 1)))) then (if (wrap64 ((wrap64 ((wrap64 (Int.tdiv a1 a0_0)) * a0_0)) + (wrap64 ((Int.tmod a1 a0_0) + 1)))) < (l0_2.length : Int) then (if (rd l0_2 (wrap64 ((wrap64 ((wrap64 (Int.tdiv a1 a0_0)) * a0_0)) + (wrap64 ((Int.tmod a1 a0_0) + 1))))) = 35 then (some (-1)) else (some (wrap64 ((wrap64 ((wrap64 (Int.tdiv a1 a0_0)) * a0_0)) + (wrap64 ((Int.tmod a1 a0_0) + 1)))))) else (none)) else (none)) else (some (-1)))) else (if a2 = 2 then ((spec_tyCell.f a0_0 a0_1 l0_2 (Int.tmod a1 a0_0) (wrap64 ((wrap64 (Int.tdiv a1 a0_0)) + 1))).bind fun t106 => (if t106 = true then (if 0 ≤ (wrap64 ((wrap64 ((wrap64 ((wrap64 (Int.tdiv a1 a0_0)) + 1)) * a0_0)) + (Int.tmod a1 a0_0))) then (if (wrap64 ((wrap64 ((wrap64 ((wrap64 (Int.tdiv a1 a0_0)) + 1)) * a0_0)) + (Int.tmod a1 a0_0))) < (l0_2.length : Int) then (if (rd l0_2 (wrap64 ((wrap64 ((wrap64 ((wrap64 (Int.tdiv a1 a0_0)) + 1)) * a0_0)) + (Int.tmod a1 a0_0)))) = 35 then (some (-1)) else (some (wrap64 ((wrap64 ((wrap64 ((wrap64 (Int.tdiv a1 a0_0)) + 1)) * a0_0)) + (Int.tmod a1 a0_0))))) else (none)) else (none)) else (some (-1)))) else ((spec_tyCell.f a0_0 a0_1 l0_2 (wrap64 ((Int.tmod a1 a0_0) - 1)) (wrap64 (Int.tdiv a1 a0_0))).bind fun t108 => (if t108 = true then (if 0 ≤ (wrap64 ((wrap64 ((wrap64 (Int.tdiv a1 a0_0)) * a0_0)) + (wrap64 ((Int.tmod a1 a0_0) - 1)))) then (if (wrap64 ((wrap64 ((wrap64 (Int.tdiv a1 a0_0)) * a0_0)) + (wrap64 ((Int.tmod a1 a0_0) - 1)))) < (l0_2.length : Int) then (if (rd l0_2 (wrap64 ((wrap64 ((wrap64 (Int.tdiv a1 a0_0)) * a0_0)) + (wrap64 ((Int.tmod a1 a0_0) - 1))))) = 35 then (some (-1)) else (some (wrap64 ((wrap64 ((wrap64 (Int.tdiv a1 a0_0)) * a0_0)) + (wrap64 ((Int.tmod a1 a0_0) - 1)))))) else (none)) else (none)) else (some (-1)))))))) = some r := h
 clear h
 by_cases c4 : a0_0 = 0
 ·rw [if_pos c4] at H
  exact absurd H (by simp)
 ·rw [if_neg c4] at H
  have c4b0 := beq_eq_false_iff_ne.mpr c4
  have c4b1 := bne_iff_ne.mpr c4
  by_cases c5 : a2 = 0
  ·rw [if_pos c5] at H
   have c5b0 := beq_iff_eq.mpr c5
   have c5b1 := bne_eq_false_iff_eq.mpr c5
   clear c5
   obtain ⟨t102, A60, H⟩ := Option.bind_eq_some_iff.mp H
   have A6 := am A60
   clear A60
   by_cases c7 : t102 = true
   ·subst c7
    rw [if_pos rfl] at H
    obtain ⟨ji8, hji8⟩ : ∃ j_ : Int, (wrap64 ((wrap64 ((wrap64 ((wrap64 (Int.tdiv a1 a0_0)) - 1)) * a0_0)) + (Int.tmod a1 a0_0))) = j_ := ⟨_, rfl⟩
    first | rw [hji8] at H | simp only [hji8] at H
    (try rw [hji8] at A6)
    have hji8w : (IntKind.i64.wrap ((wrap64 ((wrap64 ((wrap64 (Int.tdiv a1 a0_0)) - 1)) * a0_0)) + (Int.tmod a1 a0_0))) = ji8 := (i64_w _).trans hji8
    by_cases c9 : 0 ≤ (ji8)
    ·rw [if_pos c9] at H
     have c9b0 := decide_eq_true c9
     clear c9
     by_cases c10 : (ji8) < (l0_2.length : Int)
     ·rw [if_pos c10] at H
      have c10b0 := decide_eq_true c10
      clear c10
      by_cases c11 : (rd l0_2 (ji8)) = 35
      ·rw [if_pos c11] at H
       have c11b0 := beq_iff_eq.mpr c11
       have c11b1 := bne_eq_false_iff_eq.mpr c11
       clear c11
       obtain rfl := Option.some.inj H
       go_enter Tryz.func165, Tryz.ntmps165
       go_wp2_with (first | ((with_reducible refine gate_dst (N := 3) rfl ?_); refine box_event ?hg (N := 3) ?hd (cs := #[.int .i64 a0_0, .int .i64 a0_1, .slice A0_2 l0_2.length c0_2]) (t := 62) ?hr ?_; (case hd => rfl); (case hg => rfl); (case hr => exact aq16); intro gb101 hg w12 hbox hb; have n0_ := am (below_step aq1 hb); have n1_ := am (hbox); have n2_ := am ((by rw [hg]; exact (below_size aq1) : w.heap.size ≤ gb101)); have n3_ := am ((by rw [hg]; exact (below_size aq1) : w.heap.size ≤ gb101)); clear HB; have HB := n0_; have BK101 := n1_; have GW101 := n2_; have GE101 := n3_; clear n0_ n1_ n2_ n3_; clear hb hbox hg; obtain ⟨hcz13_0, hcz13_1, hcz13_2, hfz13_0, hfz13_1, hfz13_2⟩ := blk3_ BK101.out))
       repeat (go_quiet (fail); try go_wp2_with (first | (go_at_call 192; (with_reducible refine (spec_tyCell.calls a0_0 a0_1 _ _ l0_2 (Int.tmod a1 a0_0) (wrap64 ((wrap64 (Int.tdiv a1 a0_0)) - 1)) true _ ?side1 ?side2 A6.out).mono ?_); (case side1 => exact aq9); (case side2 => exact HC0_2.out); rintro e w14 ⟨rfl, hb⟩; have n0_ := am (blk_below (g := gb101) (o := .cells #[.int .i64 a0_0, .int .i64 a0_1, .slice A0_2 l0_2.length c0_2] 62 (0, 0)) aq2 hb); have n1_ := am (below_step aq0 hb); clear BK101; clear HB; have BK101 := n0_; have HB := n1_; clear n0_ n1_; (try clear hb); (try clear hb2); (try clear hk); (try clear hi); obtain ⟨hcz15_0, hcz15_1, hcz15_2, hfz15_0, hfz15_1, hfz15_2⟩ := blk3_ BK101.out; have p103 : 0 ≤ ((ji8) : Int) := of_decide_eq_true aq4; have q103 : (ji8) < (l0_2.length : Int) := of_decide_eq_true aq4; obtain ⟨ad103, e103, hx103_0⟩ := Kd.at_int HR0_2.out (ji8) p103 q103; cases e103; replace hx103_0 := (HB.out.cell (World.block_lt_of_cell? w _ hx103_0)).trans hx103_0; replace p103 := eq_true p103; replace q103 := eq_true q103)))
       go_ret
       exact ⟨aq87, aq0⟩
      ·rw [if_neg c11] at H
       have c11b0 := beq_eq_false_iff_ne.mpr c11
       have c11b1 := bne_iff_ne.mpr c11
       obtain rfl := Option.some.inj H
       go_enter Tryz.func165, Tryz.ntmps165
       go_wp2_with (first | ((with_reducible refine gate_dst (N := 3) rfl ?_); refine box_event ?hg (N := 3) ?hd (cs := #[.int .i64 a0_0, .int .i64 a0_1, .slice A0_2 l0_2.length c0_2]) (t := 62) ?hr ?_; (case hd => rfl); (case hg => rfl); (case hr => exact aq16); intro gb101 hg w16 hbox hb; have n0_ := am (below_step aq1 hb); have n1_ := am (hbox); have n2_ := am ((by rw [hg]; exact (below_size aq1) : w.heap.size ≤ gb101)); have n3_ := am ((by rw [hg]; exact (below_size aq1) : w.heap.size ≤ gb101)); clear HB; have HB := n0_; have BK101 := n1_; have GW101 := n2_; have GE101 := n3_; clear n0_ n1_ n2_ n3_; clear hb hbox hg; obtain ⟨hcz17_0, hcz17_1, hcz17_2, hfz17_0, hfz17_1, hfz17_2⟩ := blk3_ BK101.out))
       repeat (go_quiet (fail); try go_wp2_with (first | (go_at_call 192; (with_reducible refine (spec_tyCell.calls a0_0 a0_1 _ _ l0_2 (Int.tmod a1 a0_0) (wrap64 ((wrap64 (Int.tdiv a1 a0_0)) - 1)) true _ ?side1 ?side2 A6.out).mono ?_); (case side1 => exact aq9); (case side2 => exact HC0_2.out); rintro e w18 ⟨rfl, hb⟩; have n0_ := am (blk_below (g := gb101) (o := .cells #[.int .i64 a0_0, .int .i64 a0_1, .slice A0_2 l0_2.length c0_2] 62 (0, 0)) aq2 hb); have n1_ := am (below_step aq0 hb); clear BK101; clear HB; have BK101 := n0_; have HB := n1_; clear n0_ n1_; (try clear hb); (try clear hb2); (try clear hk); (try clear hi); obtain ⟨hcz19_0, hcz19_1, hcz19_2, hfz19_0, hfz19_1, hfz19_2⟩ := blk3_ BK101.out; have p103 : 0 ≤ ((ji8) : Int) := of_decide_eq_true aq4; have q103 : (ji8) < (l0_2.length : Int) := of_decide_eq_true aq4; obtain ⟨ad103, e103, hx103_0⟩ := Kd.at_int HR0_2.out (ji8) p103 q103; cases e103; replace hx103_0 := (HB.out.cell (World.block_lt_of_cell? w _ hx103_0)).trans hx103_0; replace p103 := eq_true p103; replace q103 := eq_true q103)))
       go_ret
       exact ⟨aq87, aq0⟩
     ·rw [if_neg c10] at H
      exact absurd H (by simp)
    ·rw [if_neg c9] at H
     exact absurd H (by simp)
   ·replace c7 := Bool.eq_false_iff.mpr c7
    subst c7
    rw [if_neg Bool.false_ne_true] at H
    obtain rfl := Option.some.inj H
    go_enter Tryz.func165, Tryz.ntmps165
    go_wp2_with (first | ((with_reducible refine gate_dst (N := 3) rfl ?_); refine box_event ?hg (N := 3) ?hd (cs := #[.int .i64 a0_0, .int .i64 a0_1, .slice A0_2 l0_2.length c0_2]) (t := 62) ?hr ?_; (case hd => rfl); (case hg => rfl); (case hr => exact aq16); intro gb101 hg w20 hbox hb; have n0_ := am (below_step aq1 hb); have n1_ := am (hbox); have n2_ := am ((by rw [hg]; exact (below_size aq1) : w.heap.size ≤ gb101)); have n3_ := am ((by rw [hg]; exact (below_size aq1) : w.heap.size ≤ gb101)); clear HB; have HB := n0_; have BK101 := n1_; have GW101 := n2_; have GE101 := n3_; clear n0_ n1_ n2_ n3_; clear hb hbox hg; obtain ⟨hcz21_0, hcz21_1, hcz21_2, hfz21_0, hfz21_1, hfz21_2⟩ := blk3_ BK101.out))
    repeat (go_quiet (fail); try go_wp2_with (first | (go_at_call 192; (with_reducible refine (spec_tyCell.calls a0_0 a0_1 _ _ l0_2 (Int.tmod a1 a0_0) (wrap64 ((wrap64 (Int.tdiv a1 a0_0)) - 1)) false _ ?side1 ?side2 A6.out).mono ?_); (case side1 => exact aq9); (case side2 => exact HC0_2.out); rintro e w22 ⟨rfl, hb⟩; have n0_ := am (blk_below (g := gb101) (o := .cells #[.int .i64 a0_0, .int .i64 a0_1, .slice A0_2 l0_2.length c0_2] 62 (0, 0)) aq2 hb); have n1_ := am (below_step aq0 hb); clear BK101; clear HB; have BK101 := n0_; have HB := n1_; clear n0_ n1_; (try clear hb); (try clear hb2); (try clear hk); (try clear hi))))
    go_ret
    exact ⟨aq8, aq0⟩
  ·rw [if_neg c5] at H
   have c5b0 := beq_eq_false_iff_ne.mpr c5
   have c5b1 := bne_iff_ne.mpr c5
   by_cases c23 : a2 = 1
   ·rw [if_pos c23] at H
    have c23b0 := beq_iff_eq.mpr c23
    have c23b1 := bne_eq_false_iff_eq.mpr c23
    clear c23
    obtain ⟨t104, A240, H⟩ := Option.bind_eq_some_iff.mp H
    have A24 := am A240
    clear A240
    by_cases c25 : t104 = true
    ·subst c25
     rw [if_pos rfl] at H
     obtain ⟨ji26, hji26⟩ : ∃ j_ : Int, (wrap64 ((wrap64 ((wrap64 (Int.tdiv a1 a0_0)) * a0_0)) + (wrap64 ((Int.tmod a1 a0_0) + 1)))) = j_ := ⟨_, rfl⟩
     first | rw [hji26] at H | simp only [hji26] at H
     (try rw [hji26] at A24)
     have hji26w : (IntKind.i64.wrap ((wrap64 ((wrap64 (Int.tdiv a1 a0_0)) * a0_0)) + (wrap64 ((Int.tmod a1 a0_0) + 1)))) = ji26 := (i64_w _).trans hji26
     by_cases c27 : 0 ≤ (ji26)
     ·rw [if_pos c27] at H
      have c27b0 := decide_eq_true c27
      clear c27
      by_cases c28 : (ji26) < (l0_2.length : Int)
      ·rw [if_pos c28] at H
       have c28b0 := decide_eq_true c28
       clear c28
       by_cases c29 : (rd l0_2 (ji26)) = 35
       ·rw [if_pos c29] at H
        have c29b0 := beq_iff_eq.mpr c29
        have c29b1 := bne_eq_false_iff_eq.mpr c29
        clear c29
        obtain rfl := Option.some.inj H
        go_enter Tryz.func165, Tryz.ntmps165
        go_wp2_with (first | ((with_reducible refine gate_dst (N := 3) rfl ?_); refine box_event ?hg (N := 3) ?hd (cs := #[.int .i64 a0_0, .int .i64 a0_1, .slice A0_2 l0_2.length c0_2]) (t := 62) ?hr ?_; (case hd => rfl); (case hg => rfl); (case hr => exact aq16); intro gb101 hg w30 hbox hb; have n0_ := am (below_step aq1 hb); have n1_ := am (hbox); have n2_ := am ((by rw [hg]; exact (below_size aq1) : w.heap.size ≤ gb101)); have n3_ := am ((by rw [hg]; exact (below_size aq1) : w.heap.size ≤ gb101)); clear HB; have HB := n0_; have BK101 := n1_; have GW101 := n2_; have GE101 := n3_; clear n0_ n1_ n2_ n3_; clear hb hbox hg; obtain ⟨hcz31_0, hcz31_1, hcz31_2, hfz31_0, hfz31_1, hfz31_2⟩ := blk3_ BK101.out))
        repeat (go_quiet (fail); try go_wp2_with (first | (go_at_call 192; (with_reducible refine (spec_tyCell.calls a0_0 a0_1 _ _ l0_2 (wrap64 ((Int.tmod a1 a0_0) + 1)) (wrap64 (Int.tdiv a1 a0_0)) true _ ?side1 ?side2 A24.out).mono ?_); (case side1 => exact aq9); (case side2 => exact HC0_2.out); rintro e w32 ⟨rfl, hb⟩; have n0_ := am (blk_below (g := gb101) (o := .cells #[.int .i64 a0_0, .int .i64 a0_1, .slice A0_2 l0_2.length c0_2] 62 (0, 0)) aq2 hb); have n1_ := am (below_step aq0 hb); clear BK101; clear HB; have BK101 := n0_; have HB := n1_; clear n0_ n1_; (try clear hb); (try clear hb2); (try clear hk); (try clear hi); obtain ⟨hcz33_0, hcz33_1, hcz33_2, hfz33_0, hfz33_1, hfz33_2⟩ := blk3_ BK101.out; have p105 : 0 ≤ ((ji26) : Int) := of_decide_eq_true aq4; have q105 : (ji26) < (l0_2.length : Int) := of_decide_eq_true aq4; obtain ⟨ad105, e105, hx105_0⟩ := Kd.at_int HR0_2.out (ji26) p105 q105; cases e105; replace hx105_0 := (HB.out.cell (World.block_lt_of_cell? w _ hx105_0)).trans hx105_0; replace p105 := eq_true p105; replace q105 := eq_true q105)))
        go_ret
        exact ⟨aq86, aq0⟩
       ·rw [if_neg c29] at H
        have c29b0 := beq_eq_false_iff_ne.mpr c29
        have c29b1 := bne_iff_ne.mpr c29
        obtain rfl := Option.some.inj H
        go_enter Tryz.func165, Tryz.ntmps165
        go_wp2_with (first | ((with_reducible refine gate_dst (N := 3) rfl ?_); refine box_event ?hg (N := 3) ?hd (cs := #[.int .i64 a0_0, .int .i64 a0_1, .slice A0_2 l0_2.length c0_2]) (t := 62) ?hr ?_; (case hd => rfl); (case hg => rfl); (case hr => exact aq16); intro gb101 hg w34 hbox hb; have n0_ := am (below_step aq1 hb); have n1_ := am (hbox); have n2_ := am ((by rw [hg]; exact (below_size aq1) : w.heap.size ≤ gb101)); have n3_ := am ((by rw [hg]; exact (below_size aq1) : w.heap.size ≤ gb101)); clear HB; have HB := n0_; have BK101 := n1_; have GW101 := n2_; have GE101 := n3_; clear n0_ n1_ n2_ n3_; clear hb hbox hg; obtain ⟨hcz35_0, hcz35_1, hcz35_2, hfz35_0, hfz35_1, hfz35_2⟩ := blk3_ BK101.out))
        repeat (go_quiet (fail); try go_wp2_with (first | (go_at_call 192; (with_reducible refine (spec_tyCell.calls a0_0 a0_1 _ _ l0_2 (wrap64 ((Int.tmod a1 a0_0) + 1)) (wrap64 (Int.tdiv a1 a0_0)) true _ ?side1 ?side2 A24.out).mono ?_); (case side1 => exact aq9); (case side2 => exact HC0_2.out); rintro e w36 ⟨rfl, hb⟩; have n0_ := am (blk_below (g := gb101) (o := .cells #[.int .i64 a0_0, .int .i64 a0_1, .slice A0_2 l0_2.length c0_2] 62 (0, 0)) aq2 hb); have n1_ := am (below_step aq0 hb); clear BK101; clear HB; have BK101 := n0_; have HB := n1_; clear n0_ n1_; (try clear hb); (try clear hb2); (try clear hk); (try clear hi); obtain ⟨hcz37_0, hcz37_1, hcz37_2, hfz37_0, hfz37_1, hfz37_2⟩ := blk3_ BK101.out; have p105 : 0 ≤ ((ji26) : Int) := of_decide_eq_true aq4; have q105 : (ji26) < (l0_2.length : Int) := of_decide_eq_true aq4; obtain ⟨ad105, e105, hx105_0⟩ := Kd.at_int HR0_2.out (ji26) p105 q105; cases e105; replace hx105_0 := (HB.out.cell (World.block_lt_of_cell? w _ hx105_0)).trans hx105_0; replace p105 := eq_true p105; replace q105 := eq_true q105)))
        go_ret
        exact ⟨aq86, aq0⟩
      ·rw [if_neg c28] at H
       exact absurd H (by simp)
     ·rw [if_neg c27] at H
      exact absurd H (by simp)
    ·replace c25 := Bool.eq_false_iff.mpr c25
     subst c25
     rw [if_neg Bool.false_ne_true] at H
     obtain rfl := Option.some.inj H
     go_enter Tryz.func165, Tryz.ntmps165
     go_wp2_with (first | ((with_reducible refine gate_dst (N := 3) rfl ?_); refine box_event ?hg (N := 3) ?hd (cs := #[.int .i64 a0_0, .int .i64 a0_1, .slice A0_2 l0_2.length c0_2]) (t := 62) ?hr ?_; (case hd => rfl); (case hg => rfl); (case hr => exact aq16); intro gb101 hg w38 hbox hb; have n0_ := am (below_step aq1 hb); have n1_ := am (hbox); have n2_ := am ((by rw [hg]; exact (below_size aq1) : w.heap.size ≤ gb101)); have n3_ := am ((by rw [hg]; exact (below_size aq1) : w.heap.size ≤ gb101)); clear HB; have HB := n0_; have BK101 := n1_; have GW101 := n2_; have GE101 := n3_; clear n0_ n1_ n2_ n3_; clear hb hbox hg; obtain ⟨hcz39_0, hcz39_1, hcz39_2, hfz39_0, hfz39_1, hfz39_2⟩ := blk3_ BK101.out))
     repeat (go_quiet (fail); try go_wp2_with (first | (go_at_call 192; (with_reducible refine (spec_tyCell.calls a0_0 a0_1 _ _ l0_2 (wrap64 ((Int.tmod a1 a0_0) + 1)) (wrap64 (Int.tdiv a1 a0_0)) false _ ?side1 ?side2 A24.out).mono ?_); (case side1 => exact aq9); (case side2 => exact HC0_2.out); rintro e w40 ⟨rfl, hb⟩; have n0_ := am (blk_below (g := gb101) (o := .cells #[.int .i64 a0_0, .int .i64 a0_1, .slice A0_2 l0_2.length c0_2] 62 (0, 0)) aq2 hb); have n1_ := am (below_step aq0 hb); clear BK101; clear HB; have BK101 := n0_; have HB := n1_; clear n0_ n1_; (try clear hb); (try clear hb2); (try clear hk); (try clear hi))))
     go_ret
     exact ⟨aq8, aq0⟩
   ·rw [if_neg c23] at H
    have c23b0 := beq_eq_false_iff_ne.mpr c23
    have c23b1 := bne_iff_ne.mpr c23
    by_cases c41 : a2 = 2
    ·rw [if_pos c41] at H
     have c41b0 := beq_iff_eq.mpr c41
     have c41b1 := bne_eq_false_iff_eq.mpr c41
     clear c41
     obtain ⟨t106, A420, H⟩ := Option.bind_eq_some_iff.mp H
     have A42 := am A420
     clear A420
     by_cases c43 : t106 = true
     ·subst c43
      rw [if_pos rfl] at H
      obtain ⟨ji44, hji44⟩ : ∃ j_ : Int, (wrap64 ((wrap64 ((wrap64 ((wrap64 (Int.tdiv a1 a0_0)) + 1)) * a0_0)) + (Int.tmod a1 a0_0))) = j_ := ⟨_, rfl⟩
      first | rw [hji44] at H | simp only [hji44] at H
      (try rw [hji44] at A42)
      have hji44w : (IntKind.i64.wrap ((wrap64 ((wrap64 ((wrap64 (Int.tdiv a1 a0_0)) + 1)) * a0_0)) + (Int.tmod a1 a0_0))) = ji44 := (i64_w _).trans hji44
      by_cases c45 : 0 ≤ (ji44)
      ·rw [if_pos c45] at H
       have c45b0 := decide_eq_true c45
       clear c45
       by_cases c46 : (ji44) < (l0_2.length : Int)
       ·rw [if_pos c46] at H
        have c46b0 := decide_eq_true c46
        clear c46
        by_cases c47 : (rd l0_2 (ji44)) = 35
        ·rw [if_pos c47] at H
         have c47b0 := beq_iff_eq.mpr c47
         have c47b1 := bne_eq_false_iff_eq.mpr c47
         clear c47
         obtain rfl := Option.some.inj H
         go_enter Tryz.func165, Tryz.ntmps165
         go_wp2_with (first | ((with_reducible refine gate_dst (N := 3) rfl ?_); refine box_event ?hg (N := 3) ?hd (cs := #[.int .i64 a0_0, .int .i64 a0_1, .slice A0_2 l0_2.length c0_2]) (t := 62) ?hr ?_; (case hd => rfl); (case hg => rfl); (case hr => exact aq16); intro gb101 hg w48 hbox hb; have n0_ := am (below_step aq1 hb); have n1_ := am (hbox); have n2_ := am ((by rw [hg]; exact (below_size aq1) : w.heap.size ≤ gb101)); have n3_ := am ((by rw [hg]; exact (below_size aq1) : w.heap.size ≤ gb101)); clear HB; have HB := n0_; have BK101 := n1_; have GW101 := n2_; have GE101 := n3_; clear n0_ n1_ n2_ n3_; clear hb hbox hg; obtain ⟨hcz49_0, hcz49_1, hcz49_2, hfz49_0, hfz49_1, hfz49_2⟩ := blk3_ BK101.out))
         repeat (go_quiet (fail); try go_wp2_with (first | (go_at_call 192; (with_reducible refine (spec_tyCell.calls a0_0 a0_1 _ _ l0_2 (Int.tmod a1 a0_0) (wrap64 ((wrap64 (Int.tdiv a1 a0_0)) + 1)) true _ ?side1 ?side2 A42.out).mono ?_); (case side1 => exact aq9); (case side2 => exact HC0_2.out); rintro e w50 ⟨rfl, hb⟩; have n0_ := am (blk_below (g := gb101) (o := .cells #[.int .i64 a0_0, .int .i64 a0_1, .slice A0_2 l0_2.length c0_2] 62 (0, 0)) aq2 hb); have n1_ := am (below_step aq0 hb); clear BK101; clear HB; have BK101 := n0_; have HB := n1_; clear n0_ n1_; (try clear hb); (try clear hb2); (try clear hk); (try clear hi); obtain ⟨hcz51_0, hcz51_1, hcz51_2, hfz51_0, hfz51_1, hfz51_2⟩ := blk3_ BK101.out; have p107 : 0 ≤ ((ji44) : Int) := of_decide_eq_true aq4; have q107 : (ji44) < (l0_2.length : Int) := of_decide_eq_true aq4; obtain ⟨ad107, e107, hx107_0⟩ := Kd.at_int HR0_2.out (ji44) p107 q107; cases e107; replace hx107_0 := (HB.out.cell (World.block_lt_of_cell? w _ hx107_0)).trans hx107_0; replace p107 := eq_true p107; replace q107 := eq_true q107)))
         go_ret
         exact ⟨aq85, aq0⟩
        ·rw [if_neg c47] at H
         have c47b0 := beq_eq_false_iff_ne.mpr c47
         have c47b1 := bne_iff_ne.mpr c47
         obtain rfl := Option.some.inj H
         go_enter Tryz.func165, Tryz.ntmps165
         go_wp2_with (first | ((with_reducible refine gate_dst (N := 3) rfl ?_); refine box_event ?hg (N := 3) ?hd (cs := #[.int .i64 a0_0, .int .i64 a0_1, .slice A0_2 l0_2.length c0_2]) (t := 62) ?hr ?_; (case hd => rfl); (case hg => rfl); (case hr => exact aq16); intro gb101 hg w52 hbox hb; have n0_ := am (below_step aq1 hb); have n1_ := am (hbox); have n2_ := am ((by rw [hg]; exact (below_size aq1) : w.heap.size ≤ gb101)); have n3_ := am ((by rw [hg]; exact (below_size aq1) : w.heap.size ≤ gb101)); clear HB; have HB := n0_; have BK101 := n1_; have GW101 := n2_; have GE101 := n3_; clear n0_ n1_ n2_ n3_; clear hb hbox hg; obtain ⟨hcz53_0, hcz53_1, hcz53_2, hfz53_0, hfz53_1, hfz53_2⟩ := blk3_ BK101.out))
         repeat (go_quiet (fail); try go_wp2_with (first | (go_at_call 192; (with_reducible refine (spec_tyCell.calls a0_0 a0_1 _ _ l0_2 (Int.tmod a1 a0_0) (wrap64 ((wrap64 (Int.tdiv a1 a0_0)) + 1)) true _ ?side1 ?side2 A42.out).mono ?_); (case side1 => exact aq9); (case side2 => exact HC0_2.out); rintro e w54 ⟨rfl, hb⟩; have n0_ := am (blk_below (g := gb101) (o := .cells #[.int .i64 a0_0, .int .i64 a0_1, .slice A0_2 l0_2.length c0_2] 62 (0, 0)) aq2 hb); have n1_ := am (below_step aq0 hb); clear BK101; clear HB; have BK101 := n0_; have HB := n1_; clear n0_ n1_; (try clear hb); (try clear hb2); (try clear hk); (try clear hi); obtain ⟨hcz55_0, hcz55_1, hcz55_2, hfz55_0, hfz55_1, hfz55_2⟩ := blk3_ BK101.out; have p107 : 0 ≤ ((ji44) : Int) := of_decide_eq_true aq4; have q107 : (ji44) < (l0_2.length : Int) := of_decide_eq_true aq4; obtain ⟨ad107, e107, hx107_0⟩ := Kd.at_int HR0_2.out (ji44) p107 q107; cases e107; replace hx107_0 := (HB.out.cell (World.block_lt_of_cell? w _ hx107_0)).trans hx107_0; replace p107 := eq_true p107; replace q107 := eq_true q107)))
         go_ret
         exact ⟨aq85, aq0⟩
       ·rw [if_neg c46] at H
        exact absurd H (by simp)
      ·rw [if_neg c45] at H
       exact absurd H (by simp)
     ·replace c43 := Bool.eq_false_iff.mpr c43
      subst c43
      rw [if_neg Bool.false_ne_true] at H
      obtain rfl := Option.some.inj H
      go_enter Tryz.func165, Tryz.ntmps165
      go_wp2_with (first | ((with_reducible refine gate_dst (N := 3) rfl ?_); refine box_event ?hg (N := 3) ?hd (cs := #[.int .i64 a0_0, .int .i64 a0_1, .slice A0_2 l0_2.length c0_2]) (t := 62) ?hr ?_; (case hd => rfl); (case hg => rfl); (case hr => exact aq16); intro gb101 hg w56 hbox hb; have n0_ := am (below_step aq1 hb); have n1_ := am (hbox); have n2_ := am ((by rw [hg]; exact (below_size aq1) : w.heap.size ≤ gb101)); have n3_ := am ((by rw [hg]; exact (below_size aq1) : w.heap.size ≤ gb101)); clear HB; have HB := n0_; have BK101 := n1_; have GW101 := n2_; have GE101 := n3_; clear n0_ n1_ n2_ n3_; clear hb hbox hg; obtain ⟨hcz57_0, hcz57_1, hcz57_2, hfz57_0, hfz57_1, hfz57_2⟩ := blk3_ BK101.out))
      repeat (go_quiet (fail); try go_wp2_with (first | (go_at_call 192; (with_reducible refine (spec_tyCell.calls a0_0 a0_1 _ _ l0_2 (Int.tmod a1 a0_0) (wrap64 ((wrap64 (Int.tdiv a1 a0_0)) + 1)) false _ ?side1 ?side2 A42.out).mono ?_); (case side1 => exact aq9); (case side2 => exact HC0_2.out); rintro e w58 ⟨rfl, hb⟩; have n0_ := am (blk_below (g := gb101) (o := .cells #[.int .i64 a0_0, .int .i64 a0_1, .slice A0_2 l0_2.length c0_2] 62 (0, 0)) aq2 hb); have n1_ := am (below_step aq0 hb); clear BK101; clear HB; have BK101 := n0_; have HB := n1_; clear n0_ n1_; (try clear hb); (try clear hb2); (try clear hk); (try clear hi))))
      go_ret
      exact ⟨aq8, aq0⟩
    ·rw [if_neg c41] at H
     have c41b0 := beq_eq_false_iff_ne.mpr c41
     have c41b1 := bne_iff_ne.mpr c41
     obtain ⟨t108, A590, H⟩ := Option.bind_eq_some_iff.mp H
     have A59 := am A590
     clear A590
     by_cases c60 : t108 = true
     ·subst c60
      rw [if_pos rfl] at H
      obtain ⟨ji61, hji61⟩ : ∃ j_ : Int, (wrap64 ((wrap64 ((wrap64 (Int.tdiv a1 a0_0)) * a0_0)) + (wrap64 ((Int.tmod a1 a0_0) - 1)))) = j_ := ⟨_, rfl⟩
      first | rw [hji61] at H | simp only [hji61] at H
      (try rw [hji61] at A59)
      have hji61w : (IntKind.i64.wrap ((wrap64 ((wrap64 (Int.tdiv a1 a0_0)) * a0_0)) + (wrap64 ((Int.tmod a1 a0_0) - 1)))) = ji61 := (i64_w _).trans hji61
      by_cases c62 : 0 ≤ (ji61)
      ·rw [if_pos c62] at H
       have c62b0 := decide_eq_true c62
       clear c62
       by_cases c63 : (ji61) < (l0_2.length : Int)
       ·rw [if_pos c63] at H
        have c63b0 := decide_eq_true c63
        clear c63
        by_cases c64 : (rd l0_2 (ji61)) = 35
        ·rw [if_pos c64] at H
         have c64b0 := beq_iff_eq.mpr c64
         have c64b1 := bne_eq_false_iff_eq.mpr c64
         clear c64
         obtain rfl := Option.some.inj H
         go_enter Tryz.func165, Tryz.ntmps165
         go_wp2_with (first | ((with_reducible refine gate_dst (N := 3) rfl ?_); refine box_event ?hg (N := 3) ?hd (cs := #[.int .i64 a0_0, .int .i64 a0_1, .slice A0_2 l0_2.length c0_2]) (t := 62) ?hr ?_; (case hd => rfl); (case hg => rfl); (case hr => exact aq16); intro gb101 hg w65 hbox hb; have n0_ := am (below_step aq1 hb); have n1_ := am (hbox); have n2_ := am ((by rw [hg]; exact (below_size aq1) : w.heap.size ≤ gb101)); have n3_ := am ((by rw [hg]; exact (below_size aq1) : w.heap.size ≤ gb101)); clear HB; have HB := n0_; have BK101 := n1_; have GW101 := n2_; have GE101 := n3_; clear n0_ n1_ n2_ n3_; clear hb hbox hg; obtain ⟨hcz66_0, hcz66_1, hcz66_2, hfz66_0, hfz66_1, hfz66_2⟩ := blk3_ BK101.out))
         repeat (go_quiet (fail); try go_wp2_with (first | (go_at_call 192; (with_reducible refine (spec_tyCell.calls a0_0 a0_1 _ _ l0_2 (wrap64 ((Int.tmod a1 a0_0) - 1)) (wrap64 (Int.tdiv a1 a0_0)) true _ ?side1 ?side2 A59.out).mono ?_); (case side1 => exact aq9); (case side2 => exact HC0_2.out); rintro e w67 ⟨rfl, hb⟩; have n0_ := am (blk_below (g := gb101) (o := .cells #[.int .i64 a0_0, .int .i64 a0_1, .slice A0_2 l0_2.length c0_2] 62 (0, 0)) aq2 hb); have n1_ := am (below_step aq0 hb); clear BK101; clear HB; have BK101 := n0_; have HB := n1_; clear n0_ n1_; (try clear hb); (try clear hb2); (try clear hk); (try clear hi); obtain ⟨hcz68_0, hcz68_1, hcz68_2, hfz68_0, hfz68_1, hfz68_2⟩ := blk3_ BK101.out; have p109 : 0 ≤ ((ji61) : Int) := of_decide_eq_true aq4; have q109 : (ji61) < (l0_2.length : Int) := of_decide_eq_true aq4; obtain ⟨ad109, e109, hx109_0⟩ := Kd.at_int HR0_2.out (ji61) p109 q109; cases e109; replace hx109_0 := (HB.out.cell (World.block_lt_of_cell? w _ hx109_0)).trans hx109_0; replace p109 := eq_true p109; replace q109 := eq_true q109)))
         go_ret
         exact ⟨aq84, aq0⟩
        ·rw [if_neg c64] at H
         have c64b0 := beq_eq_false_iff_ne.mpr c64
         have c64b1 := bne_iff_ne.mpr c64
         obtain rfl := Option.some.inj H
         go_enter Tryz.func165, Tryz.ntmps165
         go_wp2_with (first | ((with_reducible refine gate_dst (N := 3) rfl ?_); refine box_event ?hg (N := 3) ?hd (cs := #[.int .i64 a0_0, .int .i64 a0_1, .slice A0_2 l0_2.length c0_2]) (t := 62) ?hr ?_; (case hd => rfl); (case hg => rfl); (case hr => exact aq16); intro gb101 hg w69 hbox hb; have n0_ := am (below_step aq1 hb); have n1_ := am (hbox); have n2_ := am ((by rw [hg]; exact (below_size aq1) : w.heap.size ≤ gb101)); have n3_ := am ((by rw [hg]; exact (below_size aq1) : w.heap.size ≤ gb101)); clear HB; have HB := n0_; have BK101 := n1_; have GW101 := n2_; have GE101 := n3_; clear n0_ n1_ n2_ n3_; clear hb hbox hg; obtain ⟨hcz70_0, hcz70_1, hcz70_2, hfz70_0, hfz70_1, hfz70_2⟩ := blk3_ BK101.out))
         repeat (go_quiet (fail); try go_wp2_with (first | (go_at_call 192; (with_reducible refine (spec_tyCell.calls a0_0 a0_1 _ _ l0_2 (wrap64 ((Int.tmod a1 a0_0) - 1)) (wrap64 (Int.tdiv a1 a0_0)) true _ ?side1 ?side2 A59.out).mono ?_); (case side1 => exact aq9); (case side2 => exact HC0_2.out); rintro e w71 ⟨rfl, hb⟩; have n0_ := am (blk_below (g := gb101) (o := .cells #[.int .i64 a0_0, .int .i64 a0_1, .slice A0_2 l0_2.length c0_2] 62 (0, 0)) aq2 hb); have n1_ := am (below_step aq0 hb); clear BK101; clear HB; have BK101 := n0_; have HB := n1_; clear n0_ n1_; (try clear hb); (try clear hb2); (try clear hk); (try clear hi); obtain ⟨hcz72_0, hcz72_1, hcz72_2, hfz72_0, hfz72_1, hfz72_2⟩ := blk3_ BK101.out; have p109 : 0 ≤ ((ji61) : Int) := of_decide_eq_true aq4; have q109 : (ji61) < (l0_2.length : Int) := of_decide_eq_true aq4; obtain ⟨ad109, e109, hx109_0⟩ := Kd.at_int HR0_2.out (ji61) p109 q109; cases e109; replace hx109_0 := (HB.out.cell (World.block_lt_of_cell? w _ hx109_0)).trans hx109_0; replace p109 := eq_true p109; replace q109 := eq_true q109)))
         go_ret
         exact ⟨aq84, aq0⟩
       ·rw [if_neg c63] at H
        exact absurd H (by simp)
      ·rw [if_neg c62] at H
       exact absurd H (by simp)
     ·replace c60 := Bool.eq_false_iff.mpr c60
      subst c60
      rw [if_neg Bool.false_ne_true] at H
      obtain rfl := Option.some.inj H
      go_enter Tryz.func165, Tryz.ntmps165
      go_wp2_with (first | ((with_reducible refine gate_dst (N := 3) rfl ?_); refine box_event ?hg (N := 3) ?hd (cs := #[.int .i64 a0_0, .int .i64 a0_1, .slice A0_2 l0_2.length c0_2]) (t := 62) ?hr ?_; (case hd => rfl); (case hg => rfl); (case hr => exact aq16); intro gb101 hg w73 hbox hb; have n0_ := am (below_step aq1 hb); have n1_ := am (hbox); have n2_ := am ((by rw [hg]; exact (below_size aq1) : w.heap.size ≤ gb101)); have n3_ := am ((by rw [hg]; exact (below_size aq1) : w.heap.size ≤ gb101)); clear HB; have HB := n0_; have BK101 := n1_; have GW101 := n2_; have GE101 := n3_; clear n0_ n1_ n2_ n3_; clear hb hbox hg; obtain ⟨hcz74_0, hcz74_1, hcz74_2, hfz74_0, hfz74_1, hfz74_2⟩ := blk3_ BK101.out))
      repeat (go_quiet (fail); try go_wp2_with (first | (go_at_call 192; (with_reducible refine (spec_tyCell.calls a0_0 a0_1 _ _ l0_2 (wrap64 ((Int.tmod a1 a0_0) - 1)) (wrap64 (Int.tdiv a1 a0_0)) false _ ?side1 ?side2 A59.out).mono ?_); (case side1 => exact aq9); (case side2 => exact HC0_2.out); rintro e w75 ⟨rfl, hb⟩; have n0_ := am (blk_below (g := gb101) (o := .cells #[.int .i64 a0_0, .int .i64 a0_1, .slice A0_2 l0_2.length c0_2] 62 (0, 0)) aq2 hb); have n1_ := am (below_step aq0 hb); clear BK101; clear HB; have BK101 := n0_; have HB := n1_; clear n0_ n1_; (try clear hb); (try clear hb2); (try clear hk); (try clear hi))))
      go_ret
      exact ⟨aq8, aq0⟩
def spec_l1Least.f (a0 : Int) (a1 : Int) : Option (Int) := if a0 < a1 then (some a0) else (some a1)
set_option maxHeartbeats 8000000 in
set_option maxRecDepth 100000 in
theorem spec_l1Least.calls (a0 : Int) (a1 : Int) (r : Int) (w : World) (h : spec_l1Least.f a0 a1 = some r) :
  Calls Tryz.prog 193 #[.int .i64 a0, .int .i64 a1] w fun e w' => e = .returned (.int .i64 r) ∧ Drawn0 w w' := by
 have H : (if a0 < a1 then (some a0) else (some a1)) = some r := h
 clear h
 by_cases c3 : a0 < a1
 ·rw [if_pos c3] at H
  have c3b0 := decide_eq_true c3
  clear c3
  obtain rfl := Option.some.inj H
  go_enter Tryz.func193, Tryz.ntmps193
  go_wp2
  go_ret
  exact ⟨aq7, aq11⟩
 ·rw [if_neg c3] at H
  have c3b0 := decide_eq_false c3
  clear c3
  obtain rfl := Option.some.inj H
  go_enter Tryz.func193, Tryz.ntmps193
  go_wp2
  go_ret
  exact ⟨aq7, aq11⟩
def spec_tiFirst.l0 : Nat → Int → List Int → Int → Int → Option (Int)
 | 0, _, _, _, _ => none
 | k + 1, x3, x9, x10, x11 => if x11 < x10 then (if 0 ≤ x11 then (if x11 < (x9.length : Int) then ((spec_l1Least.f x3 (rd x9 x11)).bind fun t103 => (spec_tiFirst.l0 k t103 x9 x10 (wrap64 (x11 + 1)))) else (none)) else (none)) else (some x3)
def spec_tiFirst.f (k : Nat) (l0 : List Int) : Option (Int) := if 0 < (l0.length : Int) then (spec_tiFirst.l0 k (rd l0 0) l0 (l0.length : Int) 0) else (none)
theorem spec_tiFirst.mono_l : ∀ k, (∀ y0 y1 y2 y3, LeO (spec_tiFirst.l0 k y0 y1 y2 y3) (spec_tiFirst.l0 (k + 1) y0 y1 y2 y3))
 | 0 => fun _ _ _ _ r h => by simp [spec_tiFirst.l0] at h
 | k + 1 => by
  have ih0 := spec_tiFirst.mono_l k
  ·intro y0 y1 y2 y3
   unfold spec_tiFirst.l0
   exact mo
theorem spec_tiFirst.mono : ∀ a0 k, LeO (spec_tiFirst.f k a0) (spec_tiFirst.f (k + 1) a0) := by
 intro a0 k
 have ih0 := spec_tiFirst.mono_l k
 unfold spec_tiFirst.f
 exact mo
set_option maxHeartbeats 8000000 in
set_option maxRecDepth 100000 in
theorem spec_tiFirst.calls (k : Nat) (A0 : Option Addr) (c0 : Nat) (l0 : List Int) (r : Int) (w : World) (hr0 : Kd.C (Kd.int .i64) w A0 l0.length l0) (hc0 : l0.length ≤ c0) (h : spec_tiFirst.f k l0 = some r) :
  Calls Tryz.prog 166 #[.slice A0 l0.length c0] w fun e w' => e = .returned (.int .i64 r) ∧ Drawn0 w w' := by
 have HR0 := am hr0
 have HC0 := am hc0
 clear hr0 hc0
 have H : (if 0 < (l0.length : Int) then (spec_tiFirst.l0 k (rd l0 0) l0 (l0.length : Int) 0) else (none)) = some r := h
 clear h
 by_cases c2 : 0 < (l0.length : Int)
 ·rw [if_pos c2] at H
  have c2b0 := decide_eq_true c2
  have c2b1 : decide (0 < l0.length) = true := decide_eq_true (by omega)
  clear c2
  have H' := am H
  clear H
  have p101 : 0 ≤ (0 : Int) := (by omega)
  have q101 : 0 < (l0.length : Int) := of_decide_eq_true aq4
  obtain ⟨ad101, e101, hx101_0⟩ := Kd.at_int HR0.out 0 p101 q101
  cases e101
  have qi101 : (0 < l0.length) = True := eq_true (by omega)
  (try rw [show ((0 : Int)).toNat = 0 from rfl] at hx101_0)
  (try rw [Addr.add_zero'] at hx101_0)
  replace p101 := eq_true p101
  replace q101 := eq_true q101
  go_enter Tryz.func166, Tryz.ntmps166
  go_wp2
  go_loopg [3, 11] k (fun kq v3 v11 w' => ∃ (x3_1 : Int) (x11_1 : Int), v3 = .int .i64 x3_1 ∧ v11 = .int .i64 x11_1 ∧ Aside0 (spec_tiFirst.l0 kq x3_1 l0 (l0.length : Int) x11_1 = some r) ∧ Aside0 (kq ≤ k) ∧ Drawn0 w w')
  case atStart => exact ⟨(rd l0 0), (0), aq7, aq7, H', ⟨Nat.le_refl _⟩, aq11⟩
  case round =>
   clear H'
   try clear c1
   try clear p1
   try clear q1
   try clear hx1
   try clear qi1
   try clear c2
   try clear c2b0
   try clear c2b1
   try clear p2
   try clear hx101_0
   try clear p101
   try clear q101
   obtain ⟨x3_1, x11_1, rfl, rfl, HA, HK1, ⟨m1, rfl⟩⟩ := hrel
   cases gk with
   | zero => exact absurd HA.out (by simp [spec_tiFirst.l0])
   | succ k1 =>
    have H := HA.out
    clear HA
    simp only [spec_tiFirst.l0] at H
    by_cases c3 : x11_1 < (l0.length : Int)
    ·rw [if_pos c3] at H
     have c3b0 := decide_eq_true c3
     clear c3
     by_cases c4 : 0 ≤ x11_1
     ·rw [if_pos c4] at H
      have c4b0 := decide_eq_true c4
      clear c4
      by_cases c5 : x11_1 < (l0.length : Int)
      ·rw [if_pos c5] at H
       have c5b0 := decide_eq_true c5
       clear c5
       obtain ⟨t103, A60, H⟩ := Option.bind_eq_some_iff.mp H
       have A6 := am A60
       clear A60
       have H' := am H
       clear H
       have p102 : 0 ≤ (x11_1 : Int) := of_decide_eq_true aq4
       have q102 : x11_1 < (l0.length : Int) := of_decide_eq_true aq4
       obtain ⟨ad102, e102, hx102_0⟩ := Kd.at_int HR0.out x11_1 p102 q102
       obtain rfl : ad101 = ad102 := (by injection e102)
       replace p102 := eq_true p102
       replace q102 := eq_true q102
       go_wp2_with (first | ((with_reducible refine gate_callee (f := 193) rfl ?_); refine goesL_ (some 17) rfl rfl Tryz.func193 (by kernel_rfl) rfl #[.int .i64 x3_1, .int .i64 (rd l0 x11_1)] rfl aq5 ?_; (with_reducible refine (spec_l1Least.calls x3_1 (rd l0 x11_1) t103 _ A6.out).mono ?_); rintro e w' ⟨rfl, ⟨nd, rfl⟩⟩; refine ⟨_, rfl, ?_⟩))
       go_roundg k1
       case measure => have := HK1.out; omega
       case rel => exact ⟨(t103), (wrap64 (x11_1 + 1)), aq7, aq7, H', ⟨aq73⟩, aq11⟩
      ·rw [if_neg c5] at H
       exact absurd H (by simp)
     ·rw [if_neg c4] at H
      exact absurd H (by simp)
    ·rw [if_neg c3] at H
     have c3b0 := decide_eq_false c3
     clear c3
     obtain rfl := Option.some.inj H
     go_wp2
     go_ret
     exact ⟨aq7, aq11⟩
 ·rw [if_neg c2] at H
  exact absurd H (by simp)
mutual
def spec_tiStretches.l0 : Nat → Int → List (List Int) → List Int → Int → Int → Int → Int → List Int → Option ((List (List Int)))
 | 0, _, _, _, _, _, _, _, _ => none
 | k + 1, x1, x5, x13, x14, x15, x102000, x102001, x102002 => if x15 < x14 then (if 0 ≤ x15 then (if x15 < (x13.length : Int) then (if (rd x13 x15) = 35 then (spec_tiStretches.j1 k x1 x5 x15 x13 x14 x15 true x102000 x102001 x102002) else ((spec_tiAhead.f x102000 x102001 x102002 x15 x1).bind fun t103 => (spec_tiStretches.j1 k x1 x5 x15 x13 x14 x15 (decide (t103 ≥ 0)) x102000 x102001 x102002))) else (none)) else (none)) else (some x5)
def spec_tiStretches.j1 : Nat → Int → List (List Int) → Int → List Int → Int → Int → Bool → Int → Int → List Int → Option ((List (List Int)))
 | 0, _, _, _, _, _, _, _, _, _, _ => none
 | k + 1, x1, x5, x6, x13, x14, x15, x28, x102000, x102001, x102002 => if x28 = true then (spec_tiStretches.l0 k x1 x5 x13 x14 (wrap64 (x15 + 1)) x102000 x102001 x102002) else ((spec_tiAhead.f x102000 x102001 x102002 x6 (Int.tmod (wrap64 (x1 + 2)) 4)).bind fun t107 => (spec_tiStretches.l1 k x1 x5 (([x6] : List Int)) t107 x13 x14 x15 x102000 x102001 x102002))
def spec_tiStretches.l1 : Nat → Int → List (List Int) → List Int → Int → List Int → Int → Int → Int → Int → List Int → Option ((List (List Int)))
 | 0, _, _, _, _, _, _, _, _, _, _ => none
 | k + 1, x1, x5, x8, x9, x13, x14, x15, x102000, x102001, x102002 => if x9 ≥ 0 then (if x8.length < 17592186044416 then ((spec_tiAhead.f x102000 x102001 x102002 x9 (Int.tmod (wrap64 (x1 + 2)) 4)).bind fun t111 => (spec_tiStretches.l1 k x1 x5 (x8 ++ [x9]) t111 x13 x14 x15 x102000 x102001 x102002)) else (none)) else (spec_tiStretches.l2 k x1 x5 x8 0 x13 x14 x15 x102000 x102001 x102002)
def spec_tiStretches.l2 : Nat → Int → List (List Int) → List Int → Int → List Int → Int → Int → Int → Int → List Int → Option ((List (List Int)))
 | 0, _, _, _, _, _, _, _, _, _, _ => none
 | k + 1, x1, x5, x8, x10, x13, x14, x15, x102000, x102001, x102002 => if x10 < (x5.length : Int) then (if 0 ≤ x10 then ((spec_tiFirst.f k (rd_L3 x5 x10)).bind fun t113 => ((spec_tiFirst.f k x8).bind fun t114 => (if t113 < t114 then (spec_tiStretches.l2 k x1 x5 x8 (wrap64 (x10 + 1)) x13 x14 x15 x102000 x102001 x102002) else ((some (([] : List (List Int)) : List (List Int))).bind fun y115 => (if x10 ≤ (x5.length : Int) then ((some (x5.take (x10 : Int).toNat : List (List Int))).bind fun y118 => (if y115.length + y118.length < 5864062014805 then ((some (y115 ++ y118 : List (List Int))).bind fun y123 => (if y123.length < 5864062014805 then ((some (y123 ++ [x8] : List (List Int))).bind fun y126 => ((some (x5.drop (x10 : Int).toNat : List (List Int))).bind fun y129 => (if y126.length + y129.length < 5864062014805 then (spec_tiStretches.l0 k x1 (y126 ++ y129) x13 x14 (wrap64 (x15 + 1)) x102000 x102001 x102002) else (none)))) else (none))) else (none))) else (none)))))) else (none)) else ((some (([] : List (List Int)) : List (List Int))).bind fun y137 => (if 0 ≤ x10 then (if x10 ≤ (x5.length : Int) then ((some (x5.take (x10 : Int).toNat : List (List Int))).bind fun y140 => (if y137.length + y140.length < 5864062014805 then ((some (y137 ++ y140 : List (List Int))).bind fun y145 => (if y145.length < 5864062014805 then ((some (y145 ++ [x8] : List (List Int))).bind fun y148 => ((some (x5.drop (x10 : Int).toNat : List (List Int))).bind fun y151 => (if y148.length + y151.length < 5864062014805 then (spec_tiStretches.l0 k x1 (y148 ++ y151) x13 x14 (wrap64 (x15 + 1)) x102000 x102001 x102002) else (none)))) else (none))) else (none))) else (none)) else (none)))
end
def spec_tiStretches.f (k : Nat) (a0_0 : Int) (a0_1 : Int) (l0_2 : List Int) (a1 : Int) : Option ((List (List Int))) := spec_tiStretches.l0 k a1 ([] : List (List Int)) l0_2 (l0_2.length : Int) 0 a0_0 a0_1 l0_2
theorem spec_tiStretches.mono_l : ∀ k, (∀ y0 y1 y2 y3 y4 y5 y6 y7, LeO (spec_tiStretches.l0 k y0 y1 y2 y3 y4 y5 y6 y7) (spec_tiStretches.l0 (k + 1) y0 y1 y2 y3 y4 y5 y6 y7)) ∧ (∀ y0 y1 y2 y3 y4 y5 y6 y7 y8 y9, LeO (spec_tiStretches.j1 k y0 y1 y2 y3 y4 y5 y6 y7 y8 y9) (spec_tiStretches.j1 (k + 1) y0 y1 y2 y3 y4 y5 y6 y7 y8 y9)) ∧ (∀ y0 y1 y2 y3 y4 y5 y6 y7 y8 y9, LeO (spec_tiStretches.l1 k y0 y1 y2 y3 y4 y5 y6 y7 y8 y9) (spec_tiStretches.l1 (k + 1) y0 y1 y2 y3 y4 y5 y6 y7 y8 y9)) ∧ (∀ y0 y1 y2 y3 y4 y5 y6 y7 y8 y9, LeO (spec_tiStretches.l2 k y0 y1 y2 y3 y4 y5 y6 y7 y8 y9) (spec_tiStretches.l2 (k + 1) y0 y1 y2 y3 y4 y5 y6 y7 y8 y9))
 | 0 => ⟨fun _ _ _ _ _ _ _ _ r h => by simp [spec_tiStretches.l0] at h, fun _ _ _ _ _ _ _ _ _ _ r h => by simp [spec_tiStretches.j1] at h, fun _ _ _ _ _ _ _ _ _ _ r h => by simp [spec_tiStretches.l1] at h, fun _ _ _ _ _ _ _ _ _ _ r h => by simp [spec_tiStretches.l2] at h⟩
 | k + 1 => by
  obtain ⟨ih0, ih1, ih2, ih3⟩ := spec_tiStretches.mono_l k
  refine ⟨?_, ?_, ?_, ?_⟩
  ·intro y0 y1 y2 y3 y4 y5 y6 y7
   unfold spec_tiStretches.l0
   have im0 := @spec_tiFirst.mono; exact mo
  ·intro y0 y1 y2 y3 y4 y5 y6 y7 y8 y9
   unfold spec_tiStretches.j1
   have im0 := @spec_tiFirst.mono; exact mo
  ·intro y0 y1 y2 y3 y4 y5 y6 y7 y8 y9
   unfold spec_tiStretches.l1
   have im0 := @spec_tiFirst.mono; exact mo
  ·intro y0 y1 y2 y3 y4 y5 y6 y7 y8 y9
   unfold spec_tiStretches.l2
   have im0 := @spec_tiFirst.mono; exact mo
set_option maxHeartbeats 8000000 in
set_option maxRecDepth 100000 in
theorem spec_tiStretches.calls (k : Nat) (a0_0 : Int) (a0_1 : Int) (A0_2 : Option Addr) (c0_2 : Nat) (l0_2 : List Int) (a1 : Int) (r : List (List Int)) (w : World) (hr0_2 : Kd.C (Kd.int .u8) w A0_2 l0_2.length l0_2) (hc0_2 : l0_2.length ≤ c0_2) (h : spec_tiStretches.f k a0_0 a0_1 l0_2 a1 = some r) :
  Calls Tryz.prog 125 #[.agg #[.int .i64 a0_0, .int .i64 a0_1, .slice A0_2 l0_2.length c0_2], .int .i64 a1] w fun e w' => ∃ v0_ : Value, e = .returned (v0_) ∧ Kd.N (Kd.slice 3 (Kd.int .i64)) 28 w' w.heap.size (fun k_ => (w.heap.size ≤ k_)) v0_ r ∧ Below w.heap.size w w' := by
 have hu62 := Tryz.underlying62
 have HR0_2 := am hr0_2
 have HC0_2 := am hc0_2
 clear hr0_2 hc0_2
 have HB := am (Below.refl w.heap.size w)
 have H : (spec_tiStretches.l0 k a1 ([] : List (List Int)) l0_2 (l0_2.length : Int) 0 a0_0 a0_1 l0_2) = some r := h
 clear h
 have H' := am H
 clear H
 go_enter Tryz.func125, Tryz.ntmps125
 go_wp2_with (first | ((with_reducible refine gate_dst (N := 2) rfl ?_); refine box_event ?hg (N := 2) ?hd (cs := #[.int .i64 a0_0, .int .i64 a0_1, .slice A0_2 l0_2.length c0_2]) (t := 62) ?hr ?_; (case hd => rfl); (case hg => rfl); (case hr => exact aq16); intro gb101 hg w3 hbox hb; have n0_ := am (below_step aq1 hb); have n1_ := am (hbox); have n2_ := am ((by rw [hg]; exact (below_size aq1) : w.heap.size ≤ gb101)); have n3_ := am ((by rw [hg]; exact (below_size aq1) : w.heap.size ≤ gb101)); clear HB; have HB := n0_; have BK101 := n1_; have GW101 := n2_; have GE101 := n3_; clear n0_ n1_ n2_ n3_; clear hb hbox hg; obtain ⟨hcz4_0, hcz4_1, hcz4_2, hfz4_0, hfz4_1, hfz4_2⟩ := blk3_ BK101.out))
 go_loopg [5, 15] k (fun kq v5 v15 w' => ∃ (x5_1 : List (List Int)) (x15_1 : Int), v15 = .int .i64 x15_1 ∧ Aside0 (spec_tiStretches.l0 kq a1 x5_1 l0_2 (l0_2.length : Int) x15_1 a0_0 a0_1 l0_2 = some r) ∧ Aside0 (kq ≤ k) ∧ Aside0 (Kd.N (Kd.slice 3 (Kd.int .i64)) 28 w' w.heap.size (fun k_ => (w.heap.size ≤ k_) ∧ k_ ≠ gb101) v5 x5_1) ∧ Aside0 (w'.heap[gb101]? = some (.cells #[.int .i64 a0_0, .int .i64 a0_1, (.slice A0_2 l0_2.length c0_2)] 62 (0, 0))) ∧ Aside0 (Below w.heap.size w w'))
 case atStart => exact ⟨(([] : List (List Int))), (0), aq7, H', ⟨Nat.le_refl _⟩, ⟨by first | exact Kd.S_nil _ _ _ _ _ | exact Kd.N_nil _ _ _ _ _ | exact Kd.V_nil _ _ _ _ _ | exact Kd.Q_nil _ _ _ _ _ | exact Kd.R_nil _ _ _ _ _⟩, ⟨aq2⟩, ⟨aq0⟩⟩
 case round =>
  clear H'
  try clear c1
  try clear p2
  try clear hcz4_0
  try clear hcz4_1
  try clear hcz4_2
  try clear hfz4_0
  try clear hfz4_1
  try clear hfz4_2
  obtain ⟨x5_1, x15_1, rfl, HA, HK1, HO_5, BK101, HB⟩ := hrel
  cases gk with
  | zero => exact absurd HA.out (by simp [spec_tiStretches.l0])
  | succ k1 =>
   have H := HA.out
   clear HA
   simp only [spec_tiStretches.l0] at H
   by_cases c5 : x15_1 < (l0_2.length : Int)
   ·rw [if_pos c5] at H
    have c5b0 := decide_eq_true c5
    clear c5
    by_cases c6 : 0 ≤ x15_1
    ·rw [if_pos c6] at H
     have c6b0 := decide_eq_true c6
     clear c6
     by_cases c7 : x15_1 < (l0_2.length : Int)
     ·rw [if_pos c7] at H
      have c7b0 := decide_eq_true c7
      clear c7
      have HC8 := am H
      clear H
      have p102 : 0 ≤ (x15_1 : Int) := of_decide_eq_true aq4
      have q102 : x15_1 < (l0_2.length : Int) := of_decide_eq_true aq4
      obtain ⟨ad102, e102, hx102_0⟩ := Kd.at_int HR0_2.out x15_1 p102 q102
      cases e102
      try replace hx102_0 := (HB.out.cell (World.block_lt_of_cell? w _ hx102_0)).trans hx102_0
      replace p102 := eq_true p102
      replace q102 := eq_true q102
      go_upto_region 5 with (fail)
      go_cut [28] (fun v28 wc => ∃ (kq : Nat) (x28_7 : Bool), v28 = .bool x28_7 ∧ Aside0 (spec_tiStretches.j1 kq a1 x5_1 x15_1 l0_2 (l0_2.length : Int) x15_1 x28_7 a0_0 a0_1 l0_2 = some r) ∧ Aside0 (kq ≤ k1) ∧ Aside0 (Kd.N (Kd.slice 3 (Kd.int .i64)) 28 wc w.heap.size (fun k_ => (w.heap.size ≤ k_) ∧ k_ ≠ gb101) u5 x5_1) ∧ Aside0 (wc.heap[gb101]? = some (.cells #[.int .i64 a0_0, .int .i64 a0_1, (.slice (some ad102) l0_2.length c0_2)] 62 (0, 0))) ∧ Aside0 (Below w.heap.size w wc))
      case first =>
       have H := HC8.out
       clear HC8
       by_cases c9 : (rd l0_2 x15_1) = 35
       ·rw [if_pos c9] at H
        have c9b0 := beq_iff_eq.mpr c9
        have c9b1 := bne_eq_false_iff_eq.mpr c9
        clear c9
        (first | rw [c9b0] | (simp only [i64_w, i32_w]; rw [c9b0]) | skip)
        have H' := am H
        clear H
        go_wp2
        go_meet
        case rel => exact ⟨_, (true), aq7, H', ⟨aq72⟩, ⟨aq19⟩, ⟨aq2⟩, ⟨aq0⟩⟩
       ·rw [if_neg c9] at H
        have c9b0 := beq_eq_false_iff_ne.mpr c9
        have c9b1 := bne_iff_ne.mpr c9
        (first | rw [c9b0] | (simp only [i64_w, i32_w]; rw [c9b0]) | skip)
        obtain ⟨t103, A100, H⟩ := Option.bind_eq_some_iff.mp H
        have A10 := am A100
        clear A100
        have H' := am H
        clear H
        obtain ⟨hcz11_0, hcz11_1, hcz11_2, hfz11_0, hfz11_1, hfz11_2⟩ := blk3_ BK101.out
        go_wp2_with (first | (go_at_call 165; (with_reducible refine (spec_tiAhead.calls a0_0 a0_1 _ _ l0_2 x15_1 a1 t103 _ ?side1 ?side2 A10.out).mono ?_); (case side1 => exact aq9); (case side2 => exact HC0_2.out); rintro e w12 ⟨rfl, hb⟩; have n0_ := am (Kd.N_below aq19 hb); have n1_ := am (blk_below (g := gb101) (o := .cells #[.int .i64 a0_0, .int .i64 a0_1, .slice (some ad102) l0_2.length c0_2] 62 (0, 0)) aq2 hb); have n2_ := am (below_step aq0 hb); clear HO_5; clear BK101; clear HB; have HO_5 := n0_; have BK101 := n1_; have HB := n2_; clear n0_ n1_ n2_; (try clear hb); (try clear hb2); (try clear hk); (try clear hi)))
        go_meet
        case rel => exact ⟨_, (decide (t103 ≥ 0)), aq7, H', ⟨aq72⟩, ⟨aq19⟩, ⟨aq2⟩, ⟨aq0⟩⟩
      case rest =>
       clear HC8
       try clear c1
       try clear p1
       try clear q1
       try clear hx1
       try clear p2
       try clear c5
       try clear c5b0
       try clear c6
       try clear c6b0
       try clear c7
       try clear c7b0
       try clear c9
       try clear c9b0
       try clear c9b1
       try clear p10
       try clear q10
       try clear hx10
       try clear c12
       try clear hcz11_0
       try clear hcz11_1
       try clear hcz11_2
       try clear hcz4_0
       try clear hcz4_1
       try clear hcz4_2
       try clear hfz11_0
       try clear hfz11_1
       try clear hfz11_2
       try clear hfz4_0
       try clear hfz4_1
       try clear hfz4_2
       try clear hx102_0
       try clear p102
       try clear p2
       try clear q102
       obtain ⟨kq, x28_7, rfl, HA, HJ7, HO_5, BK101, HB⟩ := hcut
       cases kq with
       | zero => exact absurd HA.out (by simp [spec_tiStretches.j1])
       | succ kj7 =>
        have H := HA.out
        clear HA
        simp only [spec_tiStretches.j1] at H
        by_cases c13 : x28_7 = true
        ·subst c13
         rw [if_pos rfl] at H
         have H' := am H
         clear H
         go_wp2
         go_roundg kj7
         case measure => have := HK1.out; have := HJ7.out; omega
         case rel => exact ⟨(x5_1), (wrap64 (x15_1 + 1)), aq7, H', ⟨by have := HK1.out; have := HJ7.out; omega⟩, ⟨aq19⟩, ⟨aq2⟩, ⟨aq0⟩⟩
        ·replace c13 := Bool.eq_false_iff.mpr c13
         subst c13
         rw [if_neg Bool.false_ne_true] at H
         obtain ⟨y104, hy_⟩ : ∃ y_ : List Int, y_ = (([x15_1] : List Int)) := ⟨_, rfl⟩
         replace H : ((spec_tiAhead.f a0_0 a0_1 l0_2 x15_1 (Int.tmod (wrap64 (a1 + 2)) 4)).bind fun t107 => (spec_tiStretches.l1 kj7 a1 x5_1 y104 t107 l0_2 (l0_2.length : Int) x15_1 a0_0 a0_1 l0_2)) = some r := aq3
         have Ny104 := am hy_
         clear hy_
         obtain ⟨t107, A140, H⟩ := Option.bind_eq_some_iff.mp H
         have A14 := am A140
         clear A140
         have H' := am H
         clear H
         go_wp2_with (first | ((with_reducible refine gate_dst (N := 30) rfl ?_); refine Kd.R_lit (Kd.int .i64) _ 3 ?hg (N := 30) ?hd (xs := ([x15_1] : List Int)) (inner := [.int .i64 x15_1]) (ok := fun _ => True) (okp := fun _ => True) ?hr ?hp (fun _ hk => hk) trivial (Below.refl _ _) (Nat.le_refl _) (by simp) ?_; (case hd => rfl); (case hg => rfl); (case hr => exact aq16); (case hp => exact (Reps.one (show Kd.M (Kd.int .i64) _ _ _ x15_1 [.int .i64 x15_1] from rfl) (Reps.none _ _))); intro v105 w15 ho16 hb hg_ hnew_; clear hg_ hnew_; (first | rw [← Ny104.out] at ho16 | (simp only [Int.reduceToNat] at ho16; rw [← Ny104.out] at ho16)); have n0_ := am (Kd.N_elder' aq19 (Kd.R_base ho16) hb); have n1_ := am (Kd.R_lower (Kd.R_newM (M := fun k_ => (w.heap.size ≤ k_)) ho16 (below_size aq0) (fun k_ h_ => h_)) (below_size aq0)); have n2_ := am (blk_below (g := gb101) (o := .cells #[.int .i64 a0_0, .int .i64 a0_1, .slice (some ad102) l0_2.length c0_2] 62 (0, 0)) aq2 hb); have n3_ := am (below_step aq0 hb); clear HO_5; clear BK101; clear HB; have HO_5 := n0_; have HO106 := n1_; have BK101 := n2_; have HB := n3_; clear n0_ n1_ n2_ n3_; clear hb ho16; obtain ⟨hcz17_0, hcz17_1, hcz17_2, hfz17_0, hfz17_1, hfz17_2⟩ := blk3_ BK101.out) | ((with_reducible refine gate_callee (f := 165) rfl ?_); refine goesL_ (some 36) rfl rfl Tryz.func165 (by kernel_rfl) rfl #[.agg #[.int .i64 a0_0, .int .i64 a0_1, .slice (some ad102) l0_2.length c0_2], .int .i64 x15_1, .int .i64 (Int.tmod (wrap64 (a1 + 2)) 4)] rfl aq5 ?_; (with_reducible refine (spec_tiAhead.calls a0_0 a0_1 _ _ l0_2 x15_1 (Int.tmod (wrap64 (a1 + 2)) 4) t107 _ ?side1 ?side2 A14.out).mono ?_); (case side1 => exact aq9); (case side2 => exact HC0_2.out); rintro e w18 ⟨rfl, hb⟩; refine ⟨_, rfl, ?_⟩; have n0_ := am (Kd.N_below aq19 hb); have n1_ := am (Kd.R_below aq29 hb); have n2_ := am (blk_below (g := gb101) (o := .cells #[.int .i64 a0_0, .int .i64 a0_1, .slice (some ad102) l0_2.length c0_2] 62 (0, 0)) aq2 hb); have n3_ := am (below_step aq0 hb); clear HO_5; clear HO106; clear BK101; clear HB; have HO_5 := n0_; have HO106 := n1_; have BK101 := n2_; have HB := n3_; clear n0_ n1_ n2_ n3_; (try clear hb); (try clear hb2); (try clear hk); (try clear hi)))
         go_loopg [8, 9] kj7 (fun kq v8 v9 w' => ∃ (x8_3 : List Int) (x9_3 : Int), v9 = .int .i64 x9_3 ∧ Aside0 (spec_tiStretches.l1 kq a1 x5_1 x8_3 x9_3 l0_2 (l0_2.length : Int) x15_1 a0_0 a0_1 l0_2 = some r) ∧ Aside0 (kq ≤ kj7) ∧ Aside0 (Kd.N (Kd.slice 3 (Kd.int .i64)) 28 w' w.heap.size (fun k_ => (w.heap.size ≤ k_) ∧ some k_ ≠ (v8 : Value).ownBlock ∧ k_ ≠ gb101) u5 x5_1) ∧ Aside0 (Kd.R (Kd.int .i64) 3 w' w.heap.size (fun k_ => (w.heap.size ≤ k_)) v8 x8_3) ∧ Aside0 (w'.heap[gb101]? = some (.cells #[.int .i64 a0_0, .int .i64 a0_1, (.slice (some ad102) l0_2.length c0_2)] 62 (0, 0))) ∧ Aside0 (Below w.heap.size w w'))
         case atStart => exact ⟨(y104), (t107), aq7, H', ⟨Nat.le_refl _⟩, ⟨aq100⟩, ⟨by (with_reducible repeat (first | apply Kd.R_alloc | apply Kd.R_drewN | apply Kd.R_drew)); exact Kd.R_mono HO106.out (fun _ hk => hk.1)⟩, ⟨aq2⟩, ⟨aq0⟩⟩
         case round =>
          clear H'
          try clear c1
          try clear p1
          try clear q1
          try clear hx1
          try clear p2
          try clear c5
          try clear c5b0
          try clear c6
          try clear c6b0
          try clear p6
          try clear c7
          try clear c7b0
          try clear c9
          try clear c9b0
          try clear c9b1
          try clear p10
          try clear q10
          try clear hx10
          try clear c12
          try clear c13
          try clear c16
          try clear hcz11_0
          try clear hcz11_1
          try clear hcz11_2
          try clear hcz17_0
          try clear hcz17_1
          try clear hcz17_2
          try clear hcz4_0
          try clear hcz4_1
          try clear hcz4_2
          try clear hfz11_0
          try clear hfz11_1
          try clear hfz11_2
          try clear hfz17_0
          try clear hfz17_1
          try clear hfz17_2
          try clear hfz4_0
          try clear hfz4_1
          try clear hfz4_2
          try clear hx102_0
          try clear p1
          try clear p10
          try clear p102
          try clear p2
          try clear q1
          try clear q10
          try clear q102
          obtain ⟨x8_3, x9_3, rfl, HA, HK3, HO_5, HO_8, BK101, HB⟩ := hrel
          cases gk with
          | zero => exact absurd HA.out (by simp [spec_tiStretches.l1])
          | succ k3 =>
           have H := HA.out
           clear HA
           simp only [spec_tiStretches.l1] at H
           by_cases c19 : x9_3 ≥ 0
           ·rw [if_pos c19] at H
            have c19b0 := decide_eq_true c19
            clear c19
            by_cases c20 : x8_3.length < 17592186044416
            ·rw [if_pos c20] at H
             have LMc20 := am c20
             clear c20
             obtain ⟨y108, hy_⟩ : ∃ y_ : List Int, y_ = (x8_3 ++ [x9_3]) := ⟨_, rfl⟩
             replace H : ((spec_tiAhead.f a0_0 a0_1 l0_2 x9_3 (Int.tmod (wrap64 (a1 + 2)) 4)).bind fun t111 => (spec_tiStretches.l1 k3 a1 x5_1 y108 t111 l0_2 (l0_2.length : Int) x15_1 a0_0 a0_1 l0_2)) = some r := aq3
             have Ny108 := am hy_
             clear hy_
             obtain ⟨t111, A210, H⟩ := Option.bind_eq_some_iff.mp H
             have A21 := am A210
             clear A210
             have H' := am H
             clear H
             go_wp2_with (first | ((with_reducible refine gate_builtin (b := .append) (xs := #[.tmp 45, .tmp 47]) rfl ?_); at_builtin; refine Kd.R_append (Kd.int .i64) (w0 := w) w.heap.size rfl (.tmp 45) (.tmp 47) 28 3 (.int .i64 0) 8 rfl Tryz.underlying28 info3 rfl (by decide) (by omega) u8 x8_3 x9_3 [.int .i64 x9_3] (fun k_ => (w.heap.size ≤ k_)) (fun _ => False) rfl rfl ?aP (fun _ hk => hk.elim) ?aF ?aO ?aB ?aS ?aL ?_; (case aP => exact rfl); (case aB => exact aq0); (case aF => exact (fun k_ hk => (Nat.le_trans (below_size aq0) hk))); (case aO => exact aq25); (case aS => exact aq78); (case aL => have := LMc20.out; omega); intro v109 w22 ho hb hg hat; rw [← Ny108.out] at ho; have n0_ := am (Kd.N_afterv (ok := (fun k_ => (w.heap.size ≤ k_) ∧ k_ ≠ gb101)) (by (with_reducible repeat (first | apply Kd.N_alloc | apply Kd.N_drewN | apply Kd.N_drew)); exact Kd.N_mono HO_5.out (fun _ hk => ⟨⟨hk.1, hk.2.2⟩, hk.2.1⟩)) hg hat); have n1_ := am (blk_grown (g := gb101) (o := .cells #[.int .i64 a0_0, .int .i64 a0_1, .slice (some ad102) l0_2.length c0_2] 62 (0, 0)) aq2 hg (Kd.R_ne HO_8.out BK101.out (by decide))); have n2_ := am (hb); have n3_ := am (ho); clear HO_5; clear BK101; clear HB; clear HO_8; have HO_5 := n0_; have BK101 := n1_; have HB := n2_; have HO110 := n3_; clear n0_ n1_ n2_ n3_; clear ho hb hg hat; obtain ⟨hcz23_0, hcz23_1, hcz23_2, hfz23_0, hfz23_1, hfz23_2⟩ := blk3_ BK101.out) | ((with_reducible refine gate_callee (f := 165) rfl ?_); refine goesL_ (some 44) rfl rfl Tryz.func165 (by kernel_rfl) rfl #[.agg #[.int .i64 a0_0, .int .i64 a0_1, .slice (some ad102) l0_2.length c0_2], .int .i64 x9_3, .int .i64 (Int.tmod (wrap64 (a1 + 2)) 4)] rfl aq5 ?_; (with_reducible refine (spec_tiAhead.calls a0_0 a0_1 _ _ l0_2 x9_3 (Int.tmod (wrap64 (a1 + 2)) 4) t111 _ ?side1 ?side2 A21.out).mono ?_); (case side1 => exact aq9); (case side2 => exact HC0_2.out); rintro e w24 ⟨rfl, hb⟩; refine ⟨_, rfl, ?_⟩; have n0_ := am (Kd.N_below aq19 hb); have n1_ := am (Kd.R_below (by (with_reducible repeat (first | apply Kd.R_alloc | apply Kd.R_drewN | apply Kd.R_drew)); exact HO110.out) hb); have n2_ := am (blk_below (g := gb101) (o := .cells #[.int .i64 a0_0, .int .i64 a0_1, .slice (some ad102) l0_2.length c0_2] 62 (0, 0)) aq2 hb); have n3_ := am (below_step aq0 hb); clear HO_5; clear HO110; clear BK101; clear HB; have HO_5 := n0_; have HO110 := n1_; have BK101 := n2_; have HB := n3_; clear n0_ n1_ n2_ n3_; (try clear hb); (try clear hb2); (try clear hk); (try clear hi)))
             go_roundg k3
             case measure => have := HK1.out; have := HJ7.out; have := HK3.out; omega
             case rel => exact ⟨(y108), (t111), aq7, H', ⟨by have := HK1.out; have := HJ7.out; have := HK3.out; omega⟩, ⟨aq100⟩, ⟨by (with_reducible repeat (first | apply Kd.R_alloc | apply Kd.R_drewN | apply Kd.R_drew)); exact HO110.out⟩, ⟨aq2⟩, ⟨aq0⟩⟩
            ·rw [if_neg c20] at H
             exact absurd H (by simp)
           ·rw [if_neg c19] at H
            have c19b0 := decide_eq_false c19
            clear c19
            have H' := am H
            clear H
            go_wp2
            go_loopg [10] k3 (fun kq v10 w' => ∃ (x10_4 : Int), v10 = .int .i64 x10_4 ∧ Aside0 (spec_tiStretches.l2 kq a1 x5_1 x8_3 x10_4 l0_2 (l0_2.length : Int) x15_1 a0_0 a0_1 l0_2 = some r) ∧ Aside0 (kq ≤ k3) ∧ Aside0 (Kd.N (Kd.slice 3 (Kd.int .i64)) 28 w' w.heap.size (fun k_ => (w.heap.size ≤ k_) ∧ some k_ ≠ (u8 : Value).ownBlock ∧ k_ ≠ gb101) u5 x5_1) ∧ Aside0 (Kd.R (Kd.int .i64) 3 w' w.heap.size (fun k_ => (w.heap.size ≤ k_)) u8 x8_3) ∧ Aside0 (w'.heap[gb101]? = some (.cells #[.int .i64 a0_0, .int .i64 a0_1, (.slice (some ad102) l0_2.length c0_2)] 62 (0, 0))) ∧ Aside0 (Below w.heap.size w w'))
            case atStart => exact ⟨(0), aq7, H', ⟨Nat.le_refl _⟩, ⟨aq19⟩, ⟨aq25⟩, ⟨aq2⟩, ⟨aq0⟩⟩
            case round =>
             clear H'
             try clear c1
             try clear p1
             try clear q1
             try clear hx1
             try clear c2
             try clear p2
             try clear c5
             try clear c5b0
             try clear c6
             try clear c6b0
             try clear p6
             try clear c7
             try clear c7b0
             try clear c9
             try clear c9b0
             try clear c9b1
             try clear p10
             try clear q10
             try clear hx10
             try clear c12
             try clear c13
             try clear c16
             try clear c19
             try clear c19b0
             try clear c20
             try clear hcz11_0
             try clear hcz11_1
             try clear hcz11_2
             try clear hcz17_0
             try clear hcz17_1
             try clear hcz17_2
             try clear hcz23_0
             try clear hcz23_1
             try clear hcz23_2
             try clear hcz4_0
             try clear hcz4_1
             try clear hcz4_2
             try clear hfz11_0
             try clear hfz11_1
             try clear hfz11_2
             try clear hfz17_0
             try clear hfz17_1
             try clear hfz17_2
             try clear hfz23_0
             try clear hfz23_1
             try clear hfz23_2
             try clear hfz4_0
             try clear hfz4_1
             try clear hfz4_2
             try clear hx102_0
             try clear p1
             try clear p10
             try clear p102
             try clear p2
             try clear p6
             try clear q1
             try clear q10
             try clear q102
             obtain ⟨x10_4, rfl, HA, HK4, HO_5, HO_8, BK101, HB⟩ := hrel
             cases gk with
             | zero => exact absurd HA.out (by simp [spec_tiStretches.l2])
             | succ k4 =>
              have H := HA.out
              clear HA
              simp only [spec_tiStretches.l2] at H
              by_cases c25 : x10_4 < (x5_1.length : Int)
              ·rw [if_pos c25] at H
               have c25b0 := decide_eq_true c25
               clear c25
               by_cases c26 : 0 ≤ x10_4
               ·rw [if_pos c26] at H
                have c26b0 := decide_eq_true c26
                clear c26
                obtain ⟨t113, A270, H⟩ := Option.bind_eq_some_iff.mp H
                have A27 := am A270
                clear A270
                obtain ⟨t114, A280, H⟩ := Option.bind_eq_some_iff.mp H
                have A28 := am A280
                clear A280
                by_cases c29 : t113 < t114
                ·rw [if_pos c29] at H
                 have c29b0 := decide_eq_true c29
                 clear c29
                 have H' := am H
                 clear H
                 obtain ⟨Ao30, co30, eo30⟩ := Kd.N_slice HO_5.out
                 subst eo30
                 have p112 : 0 ≤ (x10_4 : Int) := of_decide_eq_true aq4
                 have q112 : x10_4 < (x5_1.length : Int) := of_decide_eq_true aq4
                 obtain ⟨ad112, A112_0, c112_0, e112, hx112_0, hl112_0, hi112_0⟩ := at_L3 (Kd.N_reads' HO_5.out).2.2 x10_4 p112 q112
                 cases e112
                 obtain ⟨ce112, hce112, hMe112, hcc112⟩ := Kd.N_get HO_5.out [] x10_4 p112 (by first | exact q112 | exact of_decide_eq_true aq4 | (have e_ := (Kd.N_reads' HO_5.out).1; omega))
                 obtain ⟨ua112_0, uc112_0, rfl, ul112_0, ge112_0⟩ := Kd.FK_slice_open hMe112
                 have hv112_0 := hcc112 0 _ rfl
                 rw [Nat.add_zero, show ((Kd.slice 3 (Kd.int .i64))).sz = 1 from rfl, Nat.mul_one] at hv112_0
                 replace hv112_0 := Option.some.inj (hv112_0.symm.trans hx112_0)
                 injection hv112_0 with hva_ hvn_ hvc_
                 rw [hva_] at ge112_0
                 rw [hvc_] at ul112_0
                 have HL112_0 := am (show Kd.V (Kd.int .i64) 3 _ w.heap.size _ _ (rd_L3 x5_1 x10_4) from Kd.V_mk ul112_0 ge112_0)
                 clear hva_ hvn_ hvc_ ge112_0 ul112_0
                 clear hcc112 hce112
                 have HR112_0 := am hi112_0
                 have HC112_0 := am hl112_0
                 clear hi112_0 hl112_0
                 replace p112 := eq_true p112
                 replace q112 := eq_true q112
                 go_wp2_with (first | (go_at_call 166; (with_reducible refine (spec_tiFirst.calls k4 _ _ (rd_L3 x5_1 x10_4) t113 _ ?side1 ?side2 A27.out).mono ?_); (case side1 => exact aq106); (case side2 => exact HC112_0.out); rintro e w' ⟨rfl, ⟨nd, rfl⟩⟩; obtain ⟨Ao31, co31, eo31⟩ := Kd.R_slice HO_8.out; subst eo31) | (go_at_call 166; (with_reducible refine (spec_tiFirst.calls k4 _ _ x8_3 t114 _ ?side1 ?side2 A28.out).mono ?_); (case side1 => exact aq93); (case side2 => exact (Kd.R_reads' HO_8.out).2.1); rintro e w' ⟨rfl, ⟨nd, rfl⟩⟩))
                 go_roundg k4
                 case measure => have := HK1.out; have := HJ7.out; have := HK3.out; have := HK4.out; omega
                 case rel => exact ⟨(wrap64 (x10_4 + 1)), aq7, H', ⟨aq97⟩, ⟨aq19⟩, ⟨aq25⟩, ⟨aq2⟩, ⟨aq0⟩⟩
                ·rw [if_neg c29] at H
                 have c29b0 := decide_eq_false c29
                 clear c29
                 obtain ⟨y115, hy_⟩ : ∃ y_ : List (List Int), y_ = (([] : List (List Int))) := ⟨_, rfl⟩
                 replace H : (if x10_4 ≤ (x5_1.length : Int) then ((some (x5_1.take (x10_4 : Int).toNat : List (List Int))).bind fun y118 => (if y115.length + y118.length < 5864062014805 then ((some (y115 ++ y118 : List (List Int))).bind fun y123 => (if y123.length < 5864062014805 then ((some (y123 ++ [x8_3] : List (List Int))).bind fun y126 => ((some (x5_1.drop (x10_4 : Int).toNat : List (List Int))).bind fun y129 => (if y126.length + y129.length < 5864062014805 then (spec_tiStretches.l0 k4 a1 (y126 ++ y129) l0_2 (l0_2.length : Int) (wrap64 (x15_1 + 1)) a0_0 a0_1 l0_2) else (none)))) else (none))) else (none))) else (none)) = some r := aq3
                 have Ny115 := am hy_
                 clear hy_
                 have c32b0 := eq_true (of_decide_eq_true aq4 : 0 ≤ x10_4)
                 by_cases c33 : x10_4 ≤ (x5_1.length : Int)
                 ·rw [if_pos c33] at H
                  have c33b0 := eq_true c33
                  have c33b1 := decide_eq_true c33
                  clear c33
                  obtain ⟨y118, hy_⟩ : ∃ y_ : List (List Int), y_ = (x5_1.take (x10_4 : Int).toNat) := ⟨_, rfl⟩
                  replace H : (if y115.length + y118.length < 5864062014805 then ((some (y115 ++ y118 : List (List Int))).bind fun y123 => (if y123.length < 5864062014805 then ((some (y123 ++ [x8_3] : List (List Int))).bind fun y126 => ((some (x5_1.drop (x10_4 : Int).toNat : List (List Int))).bind fun y129 => (if y126.length + y129.length < 5864062014805 then (spec_tiStretches.l0 k4 a1 (y126 ++ y129) l0_2 (l0_2.length : Int) (wrap64 (x15_1 + 1)) a0_0 a0_1 l0_2) else (none)))) else (none))) else (none)) = some r := aq3
                  have Ny118 := am hy_
                  clear hy_
                  by_cases c34 : y115.length + y118.length < 5864062014805
                  ·rw [if_pos c34] at H
                   have LMc34 := am c34
                   clear c34
                   obtain ⟨y123, hy_⟩ : ∃ y_ : List (List Int), y_ = (y115 ++ y118) := ⟨_, rfl⟩
                   replace H : (if y123.length < 5864062014805 then ((some (y123 ++ [x8_3] : List (List Int))).bind fun y126 => ((some (x5_1.drop (x10_4 : Int).toNat : List (List Int))).bind fun y129 => (if y126.length + y129.length < 5864062014805 then (spec_tiStretches.l0 k4 a1 (y126 ++ y129) l0_2 (l0_2.length : Int) (wrap64 (x15_1 + 1)) a0_0 a0_1 l0_2) else (none)))) else (none)) = some r := aq3
                   have Ny123 := am hy_
                   clear hy_
                   by_cases c35 : y123.length < 5864062014805
                   ·rw [if_pos c35] at H
                    have LMc35 := am c35
                    clear c35
                    obtain ⟨y126, hy_⟩ : ∃ y_ : List (List Int), y_ = (y123 ++ [x8_3]) := ⟨_, rfl⟩
                    replace H : ((some (x5_1.drop (x10_4 : Int).toNat : List (List Int))).bind fun y129 => (if y126.length + y129.length < 5864062014805 then (spec_tiStretches.l0 k4 a1 (y126 ++ y129) l0_2 (l0_2.length : Int) (wrap64 (x15_1 + 1)) a0_0 a0_1 l0_2) else (none))) = some r := aq3
                    have Ny126 := am hy_
                    clear hy_
                    have c36b0 := eq_true (of_decide_eq_true aq4 : 0 ≤ x10_4)
                    have c37b0 := eq_true (of_decide_eq_true aq4 : x10_4 ≤ (x5_1.length : Int))
                    obtain ⟨y129, hy_⟩ : ∃ y_ : List (List Int), y_ = (x5_1.drop (x10_4 : Int).toNat) := ⟨_, rfl⟩
                    replace H : (if y126.length + y129.length < 5864062014805 then (spec_tiStretches.l0 k4 a1 (y126 ++ y129) l0_2 (l0_2.length : Int) (wrap64 (x15_1 + 1)) a0_0 a0_1 l0_2) else (none)) = some r := aq3
                    have Ny129 := am hy_
                    clear hy_
                    by_cases c38 : y126.length + y129.length < 5864062014805
                    ·rw [if_pos c38] at H
                     have LMc38 := am c38
                     clear c38
                     obtain ⟨y134, hy_⟩ : ∃ y_ : List (List Int), y_ = (y126 ++ y129) := ⟨_, rfl⟩
                     replace H : (spec_tiStretches.l0 k4 a1 y134 l0_2 (l0_2.length : Int) (wrap64 (x15_1 + 1)) a0_0 a0_1 l0_2) = some r := aq3
                     have Ny134 := am hy_
                     clear hy_
                     have H' := am H
                     clear H
                     obtain ⟨Ao39, co39, eo39⟩ := Kd.N_slice HO_5.out
                     subst eo39
                     have p112 : 0 ≤ (x10_4 : Int) := of_decide_eq_true aq4
                     have q112 : x10_4 < (x5_1.length : Int) := of_decide_eq_true aq4
                     obtain ⟨ad112, A112_0, c112_0, e112, hx112_0, hl112_0, hi112_0⟩ := at_L3 (Kd.N_reads' HO_5.out).2.2 x10_4 p112 q112
                     cases e112
                     obtain ⟨ce112, hce112, hMe112, hcc112⟩ := Kd.N_get HO_5.out [] x10_4 p112 (by first | exact q112 | exact of_decide_eq_true aq4 | (have e_ := (Kd.N_reads' HO_5.out).1; omega))
                     obtain ⟨ua112_0, uc112_0, rfl, ul112_0, ge112_0⟩ := Kd.FK_slice_open hMe112
                     have hv112_0 := hcc112 0 _ rfl
                     rw [Nat.add_zero, show ((Kd.slice 3 (Kd.int .i64))).sz = 1 from rfl, Nat.mul_one] at hv112_0
                     replace hv112_0 := Option.some.inj (hv112_0.symm.trans hx112_0)
                     injection hv112_0 with hva_ hvn_ hvc_
                     rw [hva_] at ge112_0
                     rw [hvc_] at ul112_0
                     have HL112_0 := am (show Kd.V (Kd.int .i64) 3 _ w.heap.size _ _ (rd_L3 x5_1 x10_4) from Kd.V_mk ul112_0 ge112_0)
                     clear hva_ hvn_ hvc_ ge112_0 ul112_0
                     clear hcc112 hce112
                     have HR112_0 := am hi112_0
                     have HC112_0 := am hl112_0
                     clear hi112_0 hl112_0
                     replace p112 := eq_true p112
                     replace q112 := eq_true q112
                     go_wp2_with (first | (go_at_call 166; (with_reducible refine (spec_tiFirst.calls k4 _ _ (rd_L3 x5_1 x10_4) t113 _ ?side1 ?side2 A27.out).mono ?_); (case side1 => exact aq106); (case side2 => exact HC112_0.out); rintro e w' ⟨rfl, ⟨nd, rfl⟩⟩; obtain ⟨Ao40, co40, eo40⟩ := Kd.R_slice HO_8.out; subst eo40) | (go_at_call 166; (with_reducible refine (spec_tiFirst.calls k4 _ _ x8_3 t114 _ ?side1 ?side2 A28.out).mono ?_); (case side1 => exact aq93); (case side2 => exact (Kd.R_reads' HO_8.out).2.1); rintro e w' ⟨rfl, ⟨nd, rfl⟩⟩) | ((with_reducible refine gate_dst (N := 65) rfl ?_); refine Kd.N_lit (Kd.slice 3 (Kd.int .i64)) _ 28 ?hg (N' := 65) ?hd (xs := ([] : List (List Int))) (inner := []) (ok := (fun k_ => (w.heap.size ≤ k_) ∧ some k_ ≠ (.slice (some ad112) x5_1.length co39 : Value).ownBlock ∧ some k_ ≠ (.slice Ao40 x8_3.length co40 : Value).ownBlock ∧ k_ ≠ gb101)) (okp := (fun k_ => (w.heap.size ≤ k_) ∧ some k_ ≠ (.slice (some ad112) x5_1.length co39 : Value).ownBlock ∧ some k_ ≠ (.slice Ao40 x8_3.length co40 : Value).ownBlock ∧ k_ ≠ gb101)) ?hr ?hp (fun _ hk => hk) ((show ∀ k_, wr.heap.size ≤ k_ → (fun k_ => (w.heap.size ≤ k_) ∧ some k_ ≠ (.slice (some ad112) x5_1.length co39 : Value).ownBlock ∧ some k_ ≠ (.slice Ao40 x8_3.length co40 : Value).ownBlock ∧ k_ ≠ gb101) k_ from fun k_ hk => ⟨(Nat.le_trans (below_size aq0) hk), Kd.fresh' (Kd.N_lt aq19) k_ hk, Kd.fresh' (Kd.R_lt aq25) k_ hk, Kd.freshB (g := gb101) (o := .cells #[.int .i64 a0_0, .int .i64 a0_1, .slice (some ad102) l0_2.length c0_2] 62 (0, 0)) aq2 k_ hk⟩) _ (Nat.le_refl _)) (Below.refl _ _) (Nat.le_refl _) (by simp) ?_; (case hd => rfl); (case hg => rfl); (case hr => exact aq16); (case hp => exact (Reps.none _ _)); intro v116 w41 ho42 hb hg_ hnew_; clear hg_ hnew_; (first | rw [← Ny115.out] at ho42 | (simp only [Int.reduceToNat] at ho42; rw [← Ny115.out] at ho42)); have n0_ := am (Kd.N_elder' aq19 (Kd.N_base ho42) hb); have n1_ := am (Kd.R_below aq25 hb); have n2_ := am (Kd.V_elder' (by (with_reducible repeat (first | apply Kd.V_alloc | apply Kd.V_drewN | apply Kd.V_drew)); exact HL112_0.out) (Kd.N_base ho42) hb); have n3_ := am (Kd.N_lower ho42 (below_size aq0)); have n4_ := am (blk_below (g := gb101) (o := .cells #[.int .i64 a0_0, .int .i64 a0_1, .slice (some ad102) l0_2.length c0_2] 62 (0, 0)) aq2 hb); have n5_ := am (Kd.C_below aq61 hb); have n6_ := am (below_step aq0 hb); clear HO_5; clear HO_8; clear HL112_0; clear BK101; clear HR112_0; clear HB; have HO_5 := n0_; have HO_8 := n1_; have HL112_0 := n2_; have HO117 := n3_; have BK101 := n4_; have HR112_0 := n5_; have HB := n6_; clear n0_ n1_ n2_ n3_ n4_ n5_ n6_; clear hb ho42; have q43 : (x10_4 : Int) ≤ ((x5_1.length : Int) : Int) := of_decide_eq_true aq4; obtain ⟨i043, hi043, _, hsz43, _⟩ := info_parts info28; have hroom43 : x5_1.length ≤ co39 := (Kd.N_reads' HO_5.out).2.1; have hC43 : Kd.F (Kd.slice 3 (Kd.int .i64)) _ _ (some ad112) x5_1.length x5_1 := (Kd.V_at (base := w.heap.size) (Kd.N_V HO_5.out)).2.2; have hcut43 := cut_to (P := Tryz.prog) 40 28 .i64 Tryz.underlying40 hi043 (some ad112) x5_1.length co39 x10_4 (of_decide_eq_true aq4) q43 hroom43; have hr43 := Kd.F_take (m := (x10_4 : Int).toNat) hC43 (by omega); have hy43 : y118.length = (x10_4 : Int).toNat := (by rw [Ny118.out, List.length_take]; omega); rw [← Ny118.out] at hr43; rw [← hy43] at hcut43; have HO122 := am (show Kd.V (Kd.slice 3 (Kd.int .i64)) 28 _ w.heap.size _ (.slice (some ad112) y118.length co39) y118 from Kd.V_mk (by omega) hr43); have HC122 := am (show y118.length ≤ co39 from by omega); clear hr43 hC43 hroom43 hi043 hsz43; have KY43 := am hy43; clear hy43; replace q43 := eq_true q43) | ((with_reducible refine gate_builtin (b := .append) (xs := #[.tmp 65, .tmp 68]) rfl ?_); at_builtin; refine Kd.N_append_rows (Kd.slice 3 (Kd.int .i64)) (w0 := w) w.heap.size rfl (.tmp 65) (.tmp 68) 40 28 (.slice none 0 0) 24 rfl Tryz.underlying40 info28 rfl (by decide) (by omega) v116 y115 y118 _ _ _ (fun k_ => (w.heap.size ≤ k_) ∧ some k_ ≠ (.slice Ao40 x8_3.length co40 : Value).ownBlock ∧ k_ ≠ gb101) (fun k_ => ((fun k_ => (w.heap.size ≤ k_) ∧ some k_ ≠ (.slice Ao40 x8_3.length co40 : Value).ownBlock ∧ k_ ≠ gb101)) k_ ∧ some k_ ≠ (v116 : Value).ownBlock) rfl rfl ?aO ?aR (fun _ hk => hk) ?aF ?aB ?aS ?aL ?_; (case aR => exact (by skip; exact Kd.V_F (Kd.V_mono (ok' := (fun k_ => ((fun k_ => (w.heap.size ≤ k_) ∧ some k_ ≠ (.slice Ao40 x8_3.length co40 : Value).ownBlock ∧ k_ ≠ gb101)) k_ ∧ some k_ ≠ (v116 : Value).ownBlock)) (HO122.out) (fun k_ hk => ⟨⟨hk.1.1, ⟨hk.1.2.1, hk.1.2.2⟩⟩, hk.2⟩)))); (case aB => exact aq0); (case aF => exact aq82); (case aO => exact (by (with_reducible repeat (first | apply Kd.N_alloc | apply Kd.N_drewN | apply Kd.N_drew)); exact Kd.N_mono HO117.out (fun _ hk => ⟨hk.1, ⟨hk.2.2.1, hk.2.2.2⟩⟩))); (case aS => exact aq78); (case aL => have := LMc34.out; omega); intro v124 w44 ho hb hg hat; rw [← Ny123.out] at ho; have n0_ := am (Kd.N_afterv (ok := (fun k_ => (w.heap.size ≤ k_) ∧ some k_ ≠ (.slice Ao40 x8_3.length co40 : Value).ownBlock ∧ k_ ≠ gb101)) aq19 hg hat); have n1_ := am (Kd.R_over' aq25 (Kd.N_typed (by (with_reducible repeat (first | apply Kd.N_alloc | apply Kd.N_drewN | apply Kd.N_drew)); exact HO117.out)) (by decide) hg); have n2_ := am (blk_grown (g := gb101) (o := .cells #[.int .i64 a0_0, .int .i64 a0_1, .slice (some ad102) l0_2.length c0_2] 62 (0, 0)) aq2 hg (Kd.N_ne HO117.out BK101.out (by decide))); have n3_ := am (Kd.V_afterv (ok := (fun k_ => (w.heap.size ≤ k_) ∧ some k_ ≠ (.slice (some ad112) x5_1.length co39 : Value).ownBlock ∧ some k_ ≠ (.slice Ao40 x8_3.length co40 : Value).ownBlock ∧ k_ ≠ gb101)) (by (with_reducible repeat (first | apply Kd.V_alloc | apply Kd.V_drewN | apply Kd.V_drew)); exact Kd.V_mono HL112_0.out (fun _ hk => ⟨⟨hk.1.1.1, ⟨hk.1.2, ⟨hk.1.1.2.1, hk.1.1.2.2⟩⟩⟩, hk.2⟩)) hg hat); have n4_ := am (Kd.V_afterv (ok := (fun k_ => (w.heap.size ≤ k_) ∧ some k_ ≠ (.slice Ao40 x8_3.length co40 : Value).ownBlock ∧ k_ ≠ gb101)) (by (with_reducible repeat (first | apply Kd.V_alloc | apply Kd.V_drewN | apply Kd.V_drew)); exact HO122.out) hg hat); have n5_ := am (hb); have n6_ := am (ho); clear HO_5; clear HO_8; clear BK101; clear HL112_0; clear HO122; clear HB; clear HO117; have HO_5 := n0_; have HO_8 := n1_; have BK101 := n2_; have HL112_0 := n3_; have HO122 := n4_; have HB := n5_; have HO125 := n6_; clear n0_ n1_ n2_ n3_ n4_ n5_ n6_; clear ho hb hg hat) | ((with_reducible refine gate_builtin (b := .append) (xs := #[.tmp 69, .tmp 71]) rfl ?_); at_builtin; refine Kd.N_append (Kd.slice 3 (Kd.int .i64)) (w0 := w) w.heap.size rfl (.tmp 69) (.tmp 71) 40 28 (.slice none 0 0) 24 rfl Tryz.underlying40 info28 rfl (by decide) (by omega) v124 y123 x8_3 [.slice Ao40 x8_3.length co40] (fun k_ => (w.heap.size ≤ k_) ∧ k_ ≠ gb101) (fun k_ => ((fun k_ => (w.heap.size ≤ k_) ∧ k_ ≠ gb101)) k_ ∧ some k_ ≠ (v124 : Value).ownBlock) rfl rfl ?aP (fun _ hk => hk) ?aF ?aO ?aB ?aS ?aL ?_; (case aP => exact (Kd.FK_slice_mk (Kd.R_reads' (Kd.R_mono (ok' := (fun k_ => ((fun k_ => (w.heap.size ≤ k_) ∧ k_ ≠ gb101)) k_ ∧ some k_ ≠ (v124 : Value).ownBlock)) (Kd.R_types (Kd.R_apart' (HO_8.out) (Kd.N_typed HO125.out) (by decide)) BK101.out (by decide)) (fun k_ hk => ⟨⟨hk.1.1, hk.2⟩, hk.1.2⟩))).2.1 (Kd.R_F (Kd.R_mono (ok' := (fun k_ => ((fun k_ => (w.heap.size ≤ k_) ∧ k_ ≠ gb101)) k_ ∧ some k_ ≠ (v124 : Value).ownBlock)) (Kd.R_types (Kd.R_apart' (HO_8.out) (Kd.N_typed HO125.out) (by decide)) BK101.out (by decide)) (fun k_ hk => ⟨⟨hk.1.1, hk.2⟩, hk.1.2⟩))))); (case aB => exact aq0); (case aF => exact aq48); (case aO => exact (by (with_reducible repeat (first | apply Kd.N_alloc | apply Kd.N_drewN | apply Kd.N_drew)); exact Kd.N_mono HO125.out (fun _ hk => ⟨hk.1, hk.2.2⟩))); (case aS => exact aq78); (case aL => have := LMc35.out; omega); intro v127 w45 ho hb hg hat; rw [← Ny126.out] at ho; have n0_ := am (Kd.N_afterv (ok := (fun k_ => (w.heap.size ≤ k_) ∧ some k_ ≠ (.slice Ao40 x8_3.length co40 : Value).ownBlock ∧ k_ ≠ gb101)) aq19 hg hat); have n1_ := am (blk_grown (g := gb101) (o := .cells #[.int .i64 a0_0, .int .i64 a0_1, .slice (some ad102) l0_2.length c0_2] 62 (0, 0)) aq2 hg (Kd.N_ne HO125.out BK101.out (by decide))); have n2_ := am (Kd.V_afterv (ok := (fun k_ => (w.heap.size ≤ k_) ∧ some k_ ≠ (.slice (some ad112) x5_1.length co39 : Value).ownBlock ∧ some k_ ≠ (.slice Ao40 x8_3.length co40 : Value).ownBlock ∧ k_ ≠ gb101)) (by (with_reducible repeat (first | apply Kd.V_alloc | apply Kd.V_drewN | apply Kd.V_drew)); exact HL112_0.out) hg hat); have n3_ := am (Kd.V_afterv (ok := (fun k_ => (w.heap.size ≤ k_) ∧ some k_ ≠ (.slice Ao40 x8_3.length co40 : Value).ownBlock ∧ k_ ≠ gb101)) (by (with_reducible repeat (first | apply Kd.V_alloc | apply Kd.V_drewN | apply Kd.V_drew)); exact HO122.out) hg hat); have n4_ := am (hb); have n5_ := am (ho); clear HO_5; clear BK101; clear HL112_0; clear HO122; clear HB; clear HO125; clear HO_8; have HO_5 := n0_; have BK101 := n1_; have HL112_0 := n2_; have HO122 := n3_; have HB := n4_; have HO128 := n5_; clear n0_ n1_ n2_ n3_ n4_ n5_; clear ho hb hg hat; have q46 : (x10_4 : Int) ≤ ((x5_1.length : Int) : Int) := of_decide_eq_true aq4; obtain ⟨i046, hi046, _, hsz46, _⟩ := info_parts info28; have hroom46 : x5_1.length ≤ co39 := (Kd.N_reads' HO_5.out).2.1; have hC46 : Kd.F (Kd.slice 3 (Kd.int .i64)) _ _ (some ad112) x5_1.length x5_1 := (Kd.V_at (base := w.heap.size) (Kd.N_V HO_5.out)).2.2; have q046 : (0 : Int) ≤ (x10_4 : Int) := of_decide_eq_true aq4; have hcut46 := cut_from (P := Tryz.prog) 40 28 .i64 Tryz.underlying40 hi046 1 hsz46 (some ad112) x5_1.length co39 x10_4 q046 q46; have hr46 := Kd.F_cut (m := (x10_4 : Int).toNat) (c := co39) hC46 (by omega) hroom46; obtain ⟨A46, hA46⟩ : ∃ A1, A1 = (if co39 = (x10_4 : Int).toNat then (some ad112) else ((some ad112) : Option Addr).map (·.add ((x10_4 : Int).toNat * 1))) := ⟨_, rfl⟩; obtain ⟨c46, hc46⟩ : ∃ c1, c1 = co39 - (x10_4 : Int).toNat := ⟨_, rfl⟩; have hy46 : y129.length = x5_1.length - (x10_4 : Int).toNat := (by rw [Ny129.out, List.length_drop] <;> omega); rw [show (x5_1).drop (x10_4 : Int).toNat = y129 from Ny129.out.symm] at hr46; replace hr46 : Kd.F (Kd.slice 3 (Kd.int .i64)) _ _ A46 y129.length y129 := (by rw [hA46]; exact hr46); rw [← hy46, ← hA46, ← hc46] at hcut46; have HO133 := am (show Kd.V (Kd.slice 3 (Kd.int .i64)) 28 _ w.heap.size _ (.slice A46 y129.length c46) y129 from Kd.V_mk (by rw [hy46, hc46]; exact Nat.sub_le_sub_right hroom46 _) hr46); have HC133 := am (show y129.length ≤ c46 from by rw [hy46, hc46]; exact Nat.sub_le_sub_right hroom46 _); clear hr46 hC46 hroom46 hi046 hsz46 hc46; have KY46 := am hy46; have KA46 := am hA46; clear hy46 hA46; replace q46 := eq_true q46) | ((with_reducible refine gate_builtin (b := .append) (xs := #[.tmp 73, .tmp 76]) rfl ?_); at_builtin; refine Kd.N_append_rows (Kd.slice 3 (Kd.int .i64)) (w0 := w) w.heap.size rfl (.tmp 73) (.tmp 76) 40 28 (.slice none 0 0) 24 rfl Tryz.underlying40 info28 rfl (by decide) (by omega) v127 y126 y129 _ _ _ (fun k_ => (w.heap.size ≤ k_) ∧ k_ ≠ gb101) (fun k_ => ((fun k_ => (w.heap.size ≤ k_) ∧ k_ ≠ gb101)) k_ ∧ some k_ ≠ (v127 : Value).ownBlock) rfl rfl ?aO ?aR (fun _ hk => hk) ?aF ?aB ?aS ?aL ?_; (case aR => exact (by skip; exact Kd.V_F (Kd.V_mono (ok' := (fun k_ => ((fun k_ => (w.heap.size ≤ k_) ∧ k_ ≠ gb101)) k_ ∧ some k_ ≠ (v127 : Value).ownBlock)) (HO133.out) (fun k_ hk => ⟨⟨hk.1.1, hk.1.2.2⟩, hk.2⟩)))); (case aB => exact aq0); (case aF => exact aq48); (case aO => exact (by (with_reducible repeat (first | apply Kd.N_alloc | apply Kd.N_drewN | apply Kd.N_drew)); exact HO128.out)); (case aS => exact aq78); (case aL => have := LMc38.out; omega); intro v135 w47 ho hb hg hat; rw [← Ny134.out] at ho; have n0_ := am (Kd.N_afterv (ok := (fun k_ => (w.heap.size ≤ k_) ∧ k_ ≠ gb101)) aq96 hg hat); have n1_ := am (blk_grown (g := gb101) (o := .cells #[.int .i64 a0_0, .int .i64 a0_1, .slice (some ad102) l0_2.length c0_2] 62 (0, 0)) aq2 hg (Kd.N_ne HO128.out BK101.out (by decide))); have n2_ := am (Kd.V_afterv (ok := (fun k_ => (w.heap.size ≤ k_) ∧ some k_ ≠ (.slice (some ad112) x5_1.length co39 : Value).ownBlock ∧ k_ ≠ gb101)) (by (with_reducible repeat (first | apply Kd.V_alloc | apply Kd.V_drewN | apply Kd.V_drew)); exact Kd.V_mono HL112_0.out (fun _ hk => ⟨⟨hk.1.1, ⟨hk.1.2.1, hk.1.2.2.2⟩⟩, hk.2⟩)) hg hat); have n3_ := am (Kd.V_afterv (ok := (fun k_ => (w.heap.size ≤ k_) ∧ k_ ≠ gb101)) (by (with_reducible repeat (first | apply Kd.V_alloc | apply Kd.V_drewN | apply Kd.V_drew)); exact Kd.V_mono HO122.out (fun _ hk => ⟨⟨hk.1.1, hk.1.2.2⟩, hk.2⟩)) hg hat); have n4_ := am (Kd.V_afterv (ok := (fun k_ => (w.heap.size ≤ k_) ∧ k_ ≠ gb101)) (by (with_reducible repeat (first | apply Kd.V_alloc | apply Kd.V_drewN | apply Kd.V_drew)); exact Kd.V_mono HO133.out (fun _ hk => ⟨⟨hk.1.1, hk.1.2.2⟩, hk.2⟩)) hg hat); have n5_ := am (hb); have n6_ := am (ho); clear HO_5; clear BK101; clear HL112_0; clear HO122; clear HO133; clear HB; clear HO128; have HO_5 := n0_; have BK101 := n1_; have HL112_0 := n2_; have HO122 := n3_; have HO133 := n4_; have HB := n5_; have HO136 := n6_; clear n0_ n1_ n2_ n3_ n4_ n5_ n6_; clear ho hb hg hat))
                     go_roundg k4
                     case measure => have := HK1.out; have := HJ7.out; have := HK3.out; have := HK4.out; omega
                     case rel => exact ⟨(y134), (wrap64 (x15_1 + 1)), aq7, H', ⟨aq97⟩, ⟨by (with_reducible repeat (first | apply Kd.N_alloc | apply Kd.N_drewN | apply Kd.N_drew)); exact HO136.out⟩, ⟨aq2⟩, ⟨aq0⟩⟩
                    ·rw [if_neg c38] at H
                     exact absurd H (by simp)
                   ·rw [if_neg c35] at H
                    exact absurd H (by simp)
                  ·rw [if_neg c34] at H
                   exact absurd H (by simp)
                 ·rw [if_neg c33] at H
                  exact absurd H (by simp)
               ·rw [if_neg c26] at H
                exact absurd H (by simp)
              ·rw [if_neg c25] at H
               have c25b0 := decide_eq_false c25
               clear c25
               obtain ⟨y137, hy_⟩ : ∃ y_ : List (List Int), y_ = (([] : List (List Int))) := ⟨_, rfl⟩
               replace H : (if 0 ≤ x10_4 then (if x10_4 ≤ (x5_1.length : Int) then ((some (x5_1.take (x10_4 : Int).toNat : List (List Int))).bind fun y140 => (if y137.length + y140.length < 5864062014805 then ((some (y137 ++ y140 : List (List Int))).bind fun y145 => (if y145.length < 5864062014805 then ((some (y145 ++ [x8_3] : List (List Int))).bind fun y148 => ((some (x5_1.drop (x10_4 : Int).toNat : List (List Int))).bind fun y151 => (if y148.length + y151.length < 5864062014805 then (spec_tiStretches.l0 k4 a1 (y148 ++ y151) l0_2 (l0_2.length : Int) (wrap64 (x15_1 + 1)) a0_0 a0_1 l0_2) else (none)))) else (none))) else (none))) else (none)) else (none)) = some r := aq3
               have Ny137 := am hy_
               clear hy_
               by_cases c48 : 0 ≤ x10_4
               ·rw [if_pos c48] at H
                have c48b0 := eq_true c48
                have c48b1 := decide_eq_true c48
                clear c48
                by_cases c49 : x10_4 ≤ (x5_1.length : Int)
                ·rw [if_pos c49] at H
                 have c49b0 := eq_true c49
                 have c49b1 := decide_eq_true c49
                 clear c49
                 obtain ⟨y140, hy_⟩ : ∃ y_ : List (List Int), y_ = (x5_1.take (x10_4 : Int).toNat) := ⟨_, rfl⟩
                 replace H : (if y137.length + y140.length < 5864062014805 then ((some (y137 ++ y140 : List (List Int))).bind fun y145 => (if y145.length < 5864062014805 then ((some (y145 ++ [x8_3] : List (List Int))).bind fun y148 => ((some (x5_1.drop (x10_4 : Int).toNat : List (List Int))).bind fun y151 => (if y148.length + y151.length < 5864062014805 then (spec_tiStretches.l0 k4 a1 (y148 ++ y151) l0_2 (l0_2.length : Int) (wrap64 (x15_1 + 1)) a0_0 a0_1 l0_2) else (none)))) else (none))) else (none)) = some r := aq3
                 have Ny140 := am hy_
                 clear hy_
                 by_cases c50 : y137.length + y140.length < 5864062014805
                 ·rw [if_pos c50] at H
                  have LMc50 := am c50
                  clear c50
                  obtain ⟨y145, hy_⟩ : ∃ y_ : List (List Int), y_ = (y137 ++ y140) := ⟨_, rfl⟩
                  replace H : (if y145.length < 5864062014805 then ((some (y145 ++ [x8_3] : List (List Int))).bind fun y148 => ((some (x5_1.drop (x10_4 : Int).toNat : List (List Int))).bind fun y151 => (if y148.length + y151.length < 5864062014805 then (spec_tiStretches.l0 k4 a1 (y148 ++ y151) l0_2 (l0_2.length : Int) (wrap64 (x15_1 + 1)) a0_0 a0_1 l0_2) else (none)))) else (none)) = some r := aq3
                  have Ny145 := am hy_
                  clear hy_
                  by_cases c51 : y145.length < 5864062014805
                  ·rw [if_pos c51] at H
                   have LMc51 := am c51
                   clear c51
                   obtain ⟨y148, hy_⟩ : ∃ y_ : List (List Int), y_ = (y145 ++ [x8_3]) := ⟨_, rfl⟩
                   replace H : ((some (x5_1.drop (x10_4 : Int).toNat : List (List Int))).bind fun y151 => (if y148.length + y151.length < 5864062014805 then (spec_tiStretches.l0 k4 a1 (y148 ++ y151) l0_2 (l0_2.length : Int) (wrap64 (x15_1 + 1)) a0_0 a0_1 l0_2) else (none))) = some r := aq3
                   have Ny148 := am hy_
                   clear hy_
                   have c52b0 := eq_true (of_decide_eq_true aq4 : 0 ≤ x10_4)
                   have c53b0 := eq_true (of_decide_eq_true aq4 : x10_4 ≤ (x5_1.length : Int))
                   obtain ⟨y151, hy_⟩ : ∃ y_ : List (List Int), y_ = (x5_1.drop (x10_4 : Int).toNat) := ⟨_, rfl⟩
                   replace H : (if y148.length + y151.length < 5864062014805 then (spec_tiStretches.l0 k4 a1 (y148 ++ y151) l0_2 (l0_2.length : Int) (wrap64 (x15_1 + 1)) a0_0 a0_1 l0_2) else (none)) = some r := aq3
                   have Ny151 := am hy_
                   clear hy_
                   by_cases c54 : y148.length + y151.length < 5864062014805
                   ·rw [if_pos c54] at H
                    have LMc54 := am c54
                    clear c54
                    obtain ⟨y156, hy_⟩ : ∃ y_ : List (List Int), y_ = (y148 ++ y151) := ⟨_, rfl⟩
                    replace H : (spec_tiStretches.l0 k4 a1 y156 l0_2 (l0_2.length : Int) (wrap64 (x15_1 + 1)) a0_0 a0_1 l0_2) = some r := aq3
                    have Ny156 := am hy_
                    clear hy_
                    have H' := am H
                    clear H
                    obtain ⟨Ao55, co55, eo55⟩ := Kd.N_slice HO_5.out
                    subst eo55
                    go_wp2_with (first | ((with_reducible refine gate_dst (N := 65) rfl ?_); refine Kd.N_lit (Kd.slice 3 (Kd.int .i64)) _ 28 ?hg (N' := 65) ?hd (xs := ([] : List (List Int))) (inner := []) (ok := (fun k_ => (w.heap.size ≤ k_) ∧ some k_ ≠ (.slice Ao55 x5_1.length co55 : Value).ownBlock ∧ some k_ ≠ (u8 : Value).ownBlock ∧ k_ ≠ gb101)) (okp := (fun k_ => (w.heap.size ≤ k_) ∧ some k_ ≠ (.slice Ao55 x5_1.length co55 : Value).ownBlock ∧ some k_ ≠ (u8 : Value).ownBlock ∧ k_ ≠ gb101)) ?hr ?hp (fun _ hk => hk) ((show ∀ k_, wr.heap.size ≤ k_ → (fun k_ => (w.heap.size ≤ k_) ∧ some k_ ≠ (.slice Ao55 x5_1.length co55 : Value).ownBlock ∧ some k_ ≠ (u8 : Value).ownBlock ∧ k_ ≠ gb101) k_ from fun k_ hk => ⟨(Nat.le_trans (below_size aq0) hk), Kd.fresh' (Kd.N_lt aq19) k_ hk, Kd.fresh' (Kd.R_lt aq25) k_ hk, Kd.freshB (g := gb101) (o := .cells #[.int .i64 a0_0, .int .i64 a0_1, .slice (some ad102) l0_2.length c0_2] 62 (0, 0)) aq2 k_ hk⟩) _ (Nat.le_refl _)) (Below.refl _ _) (Nat.le_refl _) (by simp) ?_; (case hd => rfl); (case hg => rfl); (case hr => exact aq16); (case hp => exact (Reps.none _ _)); intro v138 w56 ho57 hb hg_ hnew_; clear hg_ hnew_; (first | rw [← Ny137.out] at ho57 | (simp only [Int.reduceToNat] at ho57; rw [← Ny137.out] at ho57)); have n0_ := am (Kd.N_elder' aq19 (Kd.N_base ho57) hb); have n1_ := am (Kd.R_below aq25 hb); have n2_ := am (Kd.N_lower ho57 (below_size aq0)); have n3_ := am (blk_below (g := gb101) (o := .cells #[.int .i64 a0_0, .int .i64 a0_1, .slice (some ad102) l0_2.length c0_2] 62 (0, 0)) aq2 hb); have n4_ := am (below_step aq0 hb); clear HO_5; clear HO_8; clear BK101; clear HB; have HO_5 := n0_; have HO_8 := n1_; have HO139 := n2_; have BK101 := n3_; have HB := n4_; clear n0_ n1_ n2_ n3_ n4_; clear hb ho57; have q58 : (x10_4 : Int) ≤ ((x5_1.length : Int) : Int) := of_decide_eq_true aq4; obtain ⟨i058, hi058, _, hsz58, _⟩ := info_parts info28; have hroom58 : x5_1.length ≤ co55 := (Kd.N_reads' HO_5.out).2.1; have hC58 : Kd.F (Kd.slice 3 (Kd.int .i64)) _ _ Ao55 x5_1.length x5_1 := (Kd.V_at (base := w.heap.size) (Kd.N_V HO_5.out)).2.2; have hcut58 := cut_to (P := Tryz.prog) 40 28 .i64 Tryz.underlying40 hi058 Ao55 x5_1.length co55 x10_4 (of_decide_eq_true aq4) q58 hroom58; have hr58 := Kd.F_take (m := (x10_4 : Int).toNat) hC58 (by omega); have hy58 : y140.length = (x10_4 : Int).toNat := (by rw [Ny140.out, List.length_take]; omega); rw [← Ny140.out] at hr58; rw [← hy58] at hcut58; have HO144 := am (show Kd.V (Kd.slice 3 (Kd.int .i64)) 28 _ w.heap.size _ (.slice Ao55 y140.length co55) y140 from Kd.V_mk (by omega) hr58); have HC144 := am (show y140.length ≤ co55 from by omega); clear hr58 hC58 hroom58 hi058 hsz58; have KY58 := am hy58; clear hy58; replace q58 := eq_true q58) | ((with_reducible refine gate_builtin (b := .append) (xs := #[.tmp 65, .tmp 68]) rfl ?_); at_builtin; refine Kd.N_append_rows (Kd.slice 3 (Kd.int .i64)) (w0 := w) w.heap.size rfl (.tmp 65) (.tmp 68) 40 28 (.slice none 0 0) 24 rfl Tryz.underlying40 info28 rfl (by decide) (by omega) v138 y137 y140 _ _ _ (fun k_ => (w.heap.size ≤ k_) ∧ some k_ ≠ (u8 : Value).ownBlock ∧ k_ ≠ gb101) (fun k_ => ((fun k_ => (w.heap.size ≤ k_) ∧ some k_ ≠ (u8 : Value).ownBlock ∧ k_ ≠ gb101)) k_ ∧ some k_ ≠ (v138 : Value).ownBlock) rfl rfl ?aO ?aR (fun _ hk => hk) ?aF ?aB ?aS ?aL ?_; (case aR => exact (by skip; exact Kd.V_F (Kd.V_mono (ok' := (fun k_ => ((fun k_ => (w.heap.size ≤ k_) ∧ some k_ ≠ (u8 : Value).ownBlock ∧ k_ ≠ gb101)) k_ ∧ some k_ ≠ (v138 : Value).ownBlock)) (HO144.out) (fun k_ hk => ⟨⟨hk.1.1, ⟨hk.1.2.1, hk.1.2.2⟩⟩, hk.2⟩)))); (case aB => exact aq0); (case aF => exact aq82); (case aO => exact (by (with_reducible repeat (first | apply Kd.N_alloc | apply Kd.N_drewN | apply Kd.N_drew)); exact Kd.N_mono HO139.out (fun _ hk => ⟨hk.1, ⟨hk.2.2.1, hk.2.2.2⟩⟩))); (case aS => exact aq78); (case aL => have := LMc50.out; omega); intro v146 w59 ho hb hg hat; rw [← Ny145.out] at ho; have n0_ := am (Kd.N_afterv (ok := (fun k_ => (w.heap.size ≤ k_) ∧ some k_ ≠ (u8 : Value).ownBlock ∧ k_ ≠ gb101)) aq19 hg hat); have n1_ := am (Kd.R_over' aq25 (Kd.N_typed (by (with_reducible repeat (first | apply Kd.N_alloc | apply Kd.N_drewN | apply Kd.N_drew)); exact HO139.out)) (by decide) hg); have n2_ := am (blk_grown (g := gb101) (o := .cells #[.int .i64 a0_0, .int .i64 a0_1, .slice (some ad102) l0_2.length c0_2] 62 (0, 0)) aq2 hg (Kd.N_ne HO139.out BK101.out (by decide))); have n3_ := am (Kd.V_afterv (ok := (fun k_ => (w.heap.size ≤ k_) ∧ some k_ ≠ (u8 : Value).ownBlock ∧ k_ ≠ gb101)) (by (with_reducible repeat (first | apply Kd.V_alloc | apply Kd.V_drewN | apply Kd.V_drew)); exact HO144.out) hg hat); have n4_ := am (hb); have n5_ := am (ho); clear HO_5; clear HO_8; clear BK101; clear HO144; clear HB; clear HO139; have HO_5 := n0_; have HO_8 := n1_; have BK101 := n2_; have HO144 := n3_; have HB := n4_; have HO147 := n5_; clear n0_ n1_ n2_ n3_ n4_ n5_; clear ho hb hg hat; obtain ⟨Ao61, co61, eo61⟩ := Kd.R_slice HO_8.out; subst eo61) | ((with_reducible refine gate_builtin (b := .append) (xs := #[.tmp 69, .tmp 71]) rfl ?_); at_builtin; refine Kd.N_append (Kd.slice 3 (Kd.int .i64)) (w0 := w) w.heap.size rfl (.tmp 69) (.tmp 71) 40 28 (.slice none 0 0) 24 rfl Tryz.underlying40 info28 rfl (by decide) (by omega) v146 y145 x8_3 [.slice Ao61 x8_3.length co61] (fun k_ => (w.heap.size ≤ k_) ∧ k_ ≠ gb101) (fun k_ => ((fun k_ => (w.heap.size ≤ k_) ∧ k_ ≠ gb101)) k_ ∧ some k_ ≠ (v146 : Value).ownBlock) rfl rfl ?aP (fun _ hk => hk) ?aF ?aO ?aB ?aS ?aL ?_; (case aP => exact (Kd.FK_slice_mk (Kd.R_reads' (Kd.R_mono (ok' := (fun k_ => ((fun k_ => (w.heap.size ≤ k_) ∧ k_ ≠ gb101)) k_ ∧ some k_ ≠ (v146 : Value).ownBlock)) (Kd.R_types (Kd.R_apart' (HO_8.out) (Kd.N_typed HO147.out) (by decide)) BK101.out (by decide)) (fun k_ hk => ⟨⟨hk.1.1, hk.2⟩, hk.1.2⟩))).2.1 (Kd.R_F (Kd.R_mono (ok' := (fun k_ => ((fun k_ => (w.heap.size ≤ k_) ∧ k_ ≠ gb101)) k_ ∧ some k_ ≠ (v146 : Value).ownBlock)) (Kd.R_types (Kd.R_apart' (HO_8.out) (Kd.N_typed HO147.out) (by decide)) BK101.out (by decide)) (fun k_ hk => ⟨⟨hk.1.1, hk.2⟩, hk.1.2⟩))))); (case aB => exact aq0); (case aF => exact aq48); (case aO => exact (by (with_reducible repeat (first | apply Kd.N_alloc | apply Kd.N_drewN | apply Kd.N_drew)); exact Kd.N_mono HO147.out (fun _ hk => ⟨hk.1, hk.2.2⟩))); (case aS => exact aq78); (case aL => have := LMc51.out; omega); intro v149 w60 ho hb hg hat; rw [← Ny148.out] at ho; have n0_ := am (Kd.N_afterv (ok := (fun k_ => (w.heap.size ≤ k_) ∧ some k_ ≠ (.slice Ao61 x8_3.length co61 : Value).ownBlock ∧ k_ ≠ gb101)) aq19 hg hat); have n1_ := am (blk_grown (g := gb101) (o := .cells #[.int .i64 a0_0, .int .i64 a0_1, .slice (some ad102) l0_2.length c0_2] 62 (0, 0)) aq2 hg (Kd.N_ne HO147.out BK101.out (by decide))); have n2_ := am (Kd.V_afterv (ok := (fun k_ => (w.heap.size ≤ k_) ∧ some k_ ≠ (.slice Ao61 x8_3.length co61 : Value).ownBlock ∧ k_ ≠ gb101)) (by (with_reducible repeat (first | apply Kd.V_alloc | apply Kd.V_drewN | apply Kd.V_drew)); exact HO144.out) hg hat); have n3_ := am (hb); have n4_ := am (ho); clear HO_5; clear BK101; clear HO144; clear HB; clear HO147; clear HO_8; have HO_5 := n0_; have BK101 := n1_; have HO144 := n2_; have HB := n3_; have HO150 := n4_; clear n0_ n1_ n2_ n3_ n4_; clear ho hb hg hat; have q62 : (x10_4 : Int) ≤ ((x5_1.length : Int) : Int) := of_decide_eq_true aq4; obtain ⟨i062, hi062, _, hsz62, _⟩ := info_parts info28; have hroom62 : x5_1.length ≤ co55 := (Kd.N_reads' HO_5.out).2.1; have hC62 : Kd.F (Kd.slice 3 (Kd.int .i64)) _ _ Ao55 x5_1.length x5_1 := (Kd.V_at (base := w.heap.size) (Kd.N_V HO_5.out)).2.2; have q062 : (0 : Int) ≤ (x10_4 : Int) := of_decide_eq_true aq4; have hcut62 := cut_from (P := Tryz.prog) 40 28 .i64 Tryz.underlying40 hi062 1 hsz62 Ao55 x5_1.length co55 x10_4 q062 q62; have hr62 := Kd.F_cut (m := (x10_4 : Int).toNat) (c := co55) hC62 (by omega) hroom62; obtain ⟨A62, hA62⟩ : ∃ A1, A1 = (if co55 = (x10_4 : Int).toNat then Ao55 else (Ao55 : Option Addr).map (·.add ((x10_4 : Int).toNat * 1))) := ⟨_, rfl⟩; obtain ⟨c62, hc62⟩ : ∃ c1, c1 = co55 - (x10_4 : Int).toNat := ⟨_, rfl⟩; have hy62 : y151.length = x5_1.length - (x10_4 : Int).toNat := (by rw [Ny151.out, List.length_drop] <;> omega); rw [show (x5_1).drop (x10_4 : Int).toNat = y151 from Ny151.out.symm] at hr62; replace hr62 : Kd.F (Kd.slice 3 (Kd.int .i64)) _ _ A62 y151.length y151 := (by rw [hA62]; exact hr62); rw [← hy62, ← hA62, ← hc62] at hcut62; have HO155 := am (show Kd.V (Kd.slice 3 (Kd.int .i64)) 28 _ w.heap.size _ (.slice A62 y151.length c62) y151 from Kd.V_mk (by rw [hy62, hc62]; exact Nat.sub_le_sub_right hroom62 _) hr62); have HC155 := am (show y151.length ≤ c62 from by rw [hy62, hc62]; exact Nat.sub_le_sub_right hroom62 _); clear hr62 hC62 hroom62 hi062 hsz62 hc62; have KY62 := am hy62; have KA62 := am hA62; clear hy62 hA62; replace q62 := eq_true q62) | ((with_reducible refine gate_builtin (b := .append) (xs := #[.tmp 73, .tmp 76]) rfl ?_); at_builtin; refine Kd.N_append_rows (Kd.slice 3 (Kd.int .i64)) (w0 := w) w.heap.size rfl (.tmp 73) (.tmp 76) 40 28 (.slice none 0 0) 24 rfl Tryz.underlying40 info28 rfl (by decide) (by omega) v149 y148 y151 _ _ _ (fun k_ => (w.heap.size ≤ k_) ∧ k_ ≠ gb101) (fun k_ => ((fun k_ => (w.heap.size ≤ k_) ∧ k_ ≠ gb101)) k_ ∧ some k_ ≠ (v149 : Value).ownBlock) rfl rfl ?aO ?aR (fun _ hk => hk) ?aF ?aB ?aS ?aL ?_; (case aR => exact (by skip; exact Kd.V_F (Kd.V_mono (ok' := (fun k_ => ((fun k_ => (w.heap.size ≤ k_) ∧ k_ ≠ gb101)) k_ ∧ some k_ ≠ (v149 : Value).ownBlock)) (HO155.out) (fun k_ hk => ⟨⟨hk.1.1, hk.1.2.2⟩, hk.2⟩)))); (case aB => exact aq0); (case aF => exact aq48); (case aO => exact (by (with_reducible repeat (first | apply Kd.N_alloc | apply Kd.N_drewN | apply Kd.N_drew)); exact HO150.out)); (case aS => exact aq78); (case aL => have := LMc54.out; omega); intro v157 w63 ho hb hg hat; rw [← Ny156.out] at ho; have n0_ := am (Kd.N_afterv (ok := (fun k_ => (w.heap.size ≤ k_) ∧ k_ ≠ gb101)) aq96 hg hat); have n1_ := am (blk_grown (g := gb101) (o := .cells #[.int .i64 a0_0, .int .i64 a0_1, .slice (some ad102) l0_2.length c0_2] 62 (0, 0)) aq2 hg (Kd.N_ne HO150.out BK101.out (by decide))); have n2_ := am (Kd.V_afterv (ok := (fun k_ => (w.heap.size ≤ k_) ∧ k_ ≠ gb101)) (by (with_reducible repeat (first | apply Kd.V_alloc | apply Kd.V_drewN | apply Kd.V_drew)); exact Kd.V_mono HO144.out (fun _ hk => ⟨⟨hk.1.1, hk.1.2.2⟩, hk.2⟩)) hg hat); have n3_ := am (Kd.V_afterv (ok := (fun k_ => (w.heap.size ≤ k_) ∧ k_ ≠ gb101)) (by (with_reducible repeat (first | apply Kd.V_alloc | apply Kd.V_drewN | apply Kd.V_drew)); exact Kd.V_mono HO155.out (fun _ hk => ⟨⟨hk.1.1, hk.1.2.2⟩, hk.2⟩)) hg hat); have n4_ := am (hb); have n5_ := am (ho); clear HO_5; clear BK101; clear HO144; clear HO155; clear HB; clear HO150; have HO_5 := n0_; have BK101 := n1_; have HO144 := n2_; have HO155 := n3_; have HB := n4_; have HO158 := n5_; clear n0_ n1_ n2_ n3_ n4_ n5_; clear ho hb hg hat))
                    go_roundg k4
                    case measure => have := HK1.out; have := HJ7.out; have := HK3.out; have := HK4.out; omega
                    case rel => exact ⟨(y156), (wrap64 (x15_1 + 1)), aq7, H', ⟨aq97⟩, ⟨by (with_reducible repeat (first | apply Kd.N_alloc | apply Kd.N_drewN | apply Kd.N_drew)); exact HO158.out⟩, ⟨aq2⟩, ⟨aq0⟩⟩
                   ·rw [if_neg c54] at H
                    exact absurd H (by simp)
                  ·rw [if_neg c51] at H
                   exact absurd H (by simp)
                 ·rw [if_neg c50] at H
                  exact absurd H (by simp)
                ·rw [if_neg c49] at H
                 exact absurd H (by simp)
               ·rw [if_neg c48] at H
                exact absurd H (by simp)
     ·rw [if_neg c7] at H
      exact absurd H (by simp)
    ·rw [if_neg c6] at H
     exact absurd H (by simp)
   ·rw [if_neg c5] at H
    have c5b0 := decide_eq_false c5
    clear c5
    obtain rfl := Option.some.inj H
    go_wp2
    go_ret
    exact ⟨_, aq8, by (with_reducible repeat (first | apply Kd.N_alloc | apply Kd.N_drewN | apply Kd.N_drew)); exact Kd.N_mono HO_5.out (fun _ hk => hk.1), aq0⟩
end Go.Proofs.YtdffgeoegdkiaaaGreatDoor.F

namespace Go.Proofs.YtdffgeoegdkiaaaGreatDoor
open Go.RowKit Go.Proofs.YtdffgeoegdkiaaaGreatDoorW.PrintWords Go.Proofs.YtdffgeoegdkiaaaGreatDoorW.PrintMore Go.Proofs.YtdffgeoegdkiaaaGreatDoor.F
theorem rd_cast (l : List Nat) (i : Nat) (h : i < l.length) : rd (castsI l) (i : Int) = ((l[i]'h : Nat) : Int) := by
  unfold rd
  rw [Int.toNat_natCast, List.getD_eq_getElem?_getD, castsI_getD l i h]; rfl
theorem casts_app (a b : List Nat) : castsI (a ++ b) = castsI a ++ castsI b := by simp [castsI]
theorem casts_one (i : Nat) : castsI [i] = [((i : Nat) : Int)] := rfl
theorem least_ev (x y : Nat) : spec_l1Least.f (x : Int) (y : Int) = some ((Nat.min x y : Nat) : Int) := by
  unfold spec_l1Least.f
  by_cases h : x < y
  · rw [if_pos (by omega), show Nat.min x y = x from Nat.min_eq_left (by omega)]
  · rw [if_neg (by omega), show Nat.min x y = y from Nat.min_eq_right (by omega)]
theorem tiFirst_l0 (L : List Nat) (hL : L.length < 1000000) : ∀ (n i m : Nat), i + n = L.length → Ev (fun k => spec_tiFirst.l0 k (m : Int) (castsI L) (L.length : Int) (i : Int)) (((L.drop i).foldl Nat.min m : Nat) : Int)
  | 0, i, m, h => by
    refine Ev.step (f := fun _ => some (m : Int)) (fun k => by rw [spec_tiFirst.l0, if_neg (by omega)]) ?_
    rw [List.drop_eq_nil_of_le (by omega)]
    exact Ev.now _
  | n + 1, i, m, h => by
    have hi : i < L.length := by omega
    have hw : wrap64 ((i : Int) + 1) = ((i + 1 : Nat) : Int) := by rw [w64 (by omega) (by omega)]; rfl
    refine Ev.step (f := fun k => spec_tiFirst.l0 k ((Nat.min m (L[i]'hi) : Nat) : Int) (castsI L) (L.length : Int) ((i + 1 : Nat) : Int)) (fun k => by
      rw [spec_tiFirst.l0, if_pos (by omega), if_pos (by omega), castsI_length, if_pos (by omega), rd_cast L i hi, least_ev, Option.bind_some, hw]) ?_
    rw [List.drop_eq_getElem_cons hi, List.foldl_cons]
    exact tiFirst_l0 L hL n (i + 1) _ (by omega)
theorem tiFirst_ev {L : List Nat} (hne : L ≠ []) (hL : L.length < 1000000) : Ev (fun k => spec_tiFirst.f k (castsI L)) ((leastL L : Nat) : Int) := by
  obtain ⟨a, t, rfl⟩ : ∃ a t, L = a :: t := by cases L with | nil => exact absurd rfl hne | cons a t => exact ⟨a, t, rfl⟩
  have h0 := tiFirst_l0 (a :: t) hL (a :: t).length 0 a (by omega)
  have e : ((a :: t).drop 0).foldl Nat.min a = leastL (a :: t) := by
    rw [List.drop_zero, List.foldl_cons, show Nat.min a a = a from Nat.min_self a]; rfl
  rw [e] at h0
  refine Ev.congr (fun k => ?_) h0
  unfold spec_tiFirst.f
  rw [castsI_length, if_pos (by simp only [List.length_cons]; omega), show rd (castsI (a :: t)) 0 = (a : Int) from rfl]; rfl
theorem tyCell_eq {w h : Nat} (hw : 1 ≤ w ∧ w ≤ 7) (hh : 1 ≤ h ∧ h ≤ 7) (cs : List Int) (X Y : Int) : spec_tyCell.f w h cs X Y = some (decide ((0 ≤ X ∧ X < (w : Int)) ∧ 0 ≤ Y ∧ Y < (h : Int))) := by
  unfold spec_tyCell.f spec_l1In.f
  rw [w64 (show -9223372036854775808 ≤ (w : Int) - 1 by omega) (by omega), w64 (show -9223372036854775808 ≤ (h : Int) - 1 by omega) (by omega)]
  by_cases h1 : X ≥ 0
  · rw [if_pos h1, Option.bind_some]
    by_cases h2 : X ≤ (w : Int) - 1
    · rw [if_pos (decide_eq_true h2)]
      by_cases h3 : Y ≥ 0
      · rw [if_pos h3, Option.bind_some]
        congr 1
        rw [Bool.eq_iff_iff, decide_eq_true_iff, decide_eq_true_iff]
        omega
      · rw [if_neg h3, Option.bind_some]
        congr 1
        exact (decide_eq_false (by omega)).symm
    · rw [if_neg (by simp [h2])]
      congr 1
      exact (decide_eq_false (by omega)).symm
  · rw [if_neg h1, Option.bind_some, if_neg Bool.false_ne_true]
    congr 1
    exact (decide_eq_false (by omega)).symm
def lookI (w h : Nat) (cs : List Int) (X Y : Int) : Int := if (0 ≤ X ∧ X < (w : Int)) ∧ 0 ≤ Y ∧ Y < (h : Int) then (if openAt cs (Y.toNat * w + X.toNat) = true then ((Y.toNat * w + X.toNat : Nat) : Int) else -1) else -1
theorem look_eq {w h : Nat} (hw : 1 ≤ w ∧ w ≤ 7) (hh : 1 ≤ h ∧ h ≤ 7) {cs : List Int} (hl : cs.length = w * h) (X Y : Int) :
    ((spec_tyCell.f w h cs X Y).bind fun t => if t = true then (if 0 ≤ wrap64 (wrap64 (Y * w) + X) then (if wrap64 (wrap64 (Y * w) + X) < (cs.length : Int) then (if rd cs (wrap64 (wrap64 (Y * w) + X)) = 35 then some (-1) else some (wrap64 (wrap64 (Y * w) + X))) else none) else none) else some (-1)) = some (lookI w h cs X Y) := by
  rw [tyCell_eq hw hh, Option.bind_some]
  unfold lookI
  by_cases hc : (0 ≤ X ∧ X < (w : Int)) ∧ 0 ≤ Y ∧ Y < (h : Int)
  · rw [if_pos (decide_eq_true hc), if_pos hc]
    obtain ⟨⟨x, rfl⟩, ⟨y, rfl⟩⟩ : (∃ x : Nat, X = x) ∧ (∃ y : Nat, Y = y) := ⟨⟨X.toNat, by omega⟩, ⟨Y.toNat, by omega⟩⟩
    have hx : x < w := by omega
    have hy : y < h := by omega
    have hlt : y * w + x < w * h := (place_lt hx hy)
    have h49 : w * h ≤ 7 * 7 := Nat.mul_le_mul hw.2 hh.2
    have e1 : (y : Int) * (w : Int) = ((y * w : Nat) : Int) := by rw [Int.natCast_mul]
    have e : wrap64 (wrap64 ((y : Int) * (w : Int)) + (x : Int)) = ((y * w + x : Nat) : Int) := by
      have e0 : wrap64 ((y * w : Nat) : Int) = ((y * w : Nat) : Int) := w64 (by omega) (by omega)
      rw [e1, e0, ← Int.natCast_add]; exact w64 (by omega) (by omega)
    rw [e, if_pos (by omega), if_pos (by omega), Int.toNat_natCast, Int.toNat_natCast]
    unfold rd openAt isOpenC
    rw [Int.toNat_natCast]
    by_cases h35 : cs.getD (y * w + x) 0 = 35
    · rw [if_pos h35, h35, if_neg (by decide)]
    · rw [if_neg h35, if_pos (by simpa using h35)]
  · rw [if_neg (by simp only [decide_eq_true_eq]; exact hc), if_neg hc]
theorem tiAhead_eq {w h : Nat} (hw : 1 ≤ w ∧ w ≤ 7) (hh : 1 ≤ h ∧ h ≤ 7) {cs : List Int} (hl : cs.length = w * h) {i d : Nat} (hi : i < w * h) (hd : d < 4) : spec_tiAhead.f w h cs i d = some (aheadI w h cs i d) := by
  have h49 : w * h ≤ 7 * 7 := Nat.mul_le_mul hw.2 hh.2
  have e1 : Int.tdiv (i : Int) (w : Int) = ((i / w : Nat) : Int) := rfl
  have e2 : Int.tmod (i : Int) (w : Int) = ((i % w : Nat) : Int) := rfl
  have b1 : i / w ≤ i := Nat.div_le_self _ _
  have b2 : i % w ≤ i := Nat.mod_le _ _
  unfold spec_tiAhead.f aheadI
  rw [if_neg (by omega), e1, e2]
  generalize i / w = y at *
  generalize i % w = x at *
  rw [w64 (n := (y : Int)) (by omega) (by omega), w64 (n := (y : Int) - 1) (by omega) (by omega), w64 (n := (y : Int) + 1) (by omega) (by omega), w64 (n := (x : Int) - 1) (by omega) (by omega), w64 (n := (x : Int) + 1) (by omega) (by omega)]
  rcases dir4 hd with rfl | rfl | rfl | rfl
  · rw [if_pos (by rfl)]
    exact look_eq hw hh hl (x : Int) ((y : Int) - 1)
  · rw [if_neg (by decide), if_pos (by rfl)]
    exact look_eq hw hh hl ((x : Int) + 1) (y : Int)
  · rw [if_neg (by decide), if_neg (by decide), if_pos (by rfl)]
    exact look_eq hw hh hl (x : Int) ((y : Int) + 1)
  · rw [if_neg (by decide), if_neg (by decide), if_neg (by decide)]
    exact look_eq hw hh hl ((x : Int) - 1) (y : Int)
def nxtI (w h d : Nat) (cs : List Int) (a b : Nat) : Int := if (decide (b + 1 < lnK w h d) && openAt cs (pos w h d a (b + 1))) = true then (pos w h d a (b + 1) : Int) else -1
def restD (w h d : Nat) (cs : List Int) (a b : Nat) : List Nat := ((lineD w h d a).drop b).takeWhile (openAt cs)
theorem lineD_length (w h d a : Nat) : (lineD w h d a).length = lnK w h d := by simp [lineD]
theorem restD_end {w h d a b : Nat} {cs : List Int} (hb : lnK w h d ≤ b) : restD w h d cs a b = [] := by
  unfold restD; rw [List.drop_eq_nil_of_le (by rw [lineD_length]; exact hb)]; rfl
theorem restD_cons {w h d a b : Nat} {cs : List Int} (hb : b < lnK w h d) : restD w h d cs a b = if openAt cs (pos w h d a b) = true then pos w h d a b :: restD w h d cs a (b + 1) else [] := by
  unfold restD
  rw [List.drop_eq_getElem_cons (by rw [lineD_length]; exact hb), List.takeWhile_cons]
  have e : (lineD w h d a)[b]'(by rw [lineD_length]; exact hb) = pos w h d a b := by simp [lineD]
  rw [e]
theorem restD_length (w h d a b : Nat) (cs : List Int) : (restD w h d cs a b).length ≤ lnK w h d := by
  unfold restD
  exact Nat.le_trans (List.takeWhile_sublist _).length_le (by rw [List.length_drop, lineD_length]; omega)
theorem lnK_le {w h d : Nat} (hw : w ≤ 7) (hh : h ≤ 7) : lnK w h d ≤ 7 := by unfold lnK; split <;> omega
theorem opp_eq {d : Nat} (hd : d < 4) : Int.tmod (wrap64 ((d : Int) + 2)) 4 = (((d + 2) % 4 : Nat) : Int) := by
  rw [w64 (by omega) (by omega)]; rfl
section
variable {w h d : Nat} {cs : List Int} (hw : 1 ≤ w ∧ w ≤ 7) (hh : 1 ≤ h ∧ h ≤ 7) (hl : cs.length = w * h) (hd : d < 4)
include hw hh hl hd
theorem follow_l1 (x5 : List (List Int)) (x13 : List Int) (x14 x15 : Int) (r : List (List Int)) {a : Nat} (ha : a < lnM w h d) : ∀ (n b : Nat) (x8 : List Nat), b + n + 1 = lnK w h d → x8.length ≤ b + 1 →
    Ev (fun k => spec_tiStretches.l2 k d x5 (castsI (x8 ++ restD w h d cs a (b + 1))) 0 x13 x14 x15 w h cs) r →
    Ev (fun k => spec_tiStretches.l1 k d x5 (castsI x8) (nxtI w h d cs a b) x13 x14 x15 w h cs) r
  | 0, b, x8, hb, hx, hr => by
    have hneg : nxtI w h d cs a b = -1 := by unfold nxtI; rw [decide_eq_false (by omega), Bool.false_and, if_neg Bool.false_ne_true]
    rw [restD_end (by omega), List.append_nil] at hr
    rw [hneg]
    exact Ev.step (fun k => by rw [spec_tiStretches.l1, if_neg (by omega)]) hr
  | n + 1, b, x8, hb, hx, hr => by
    have hK := lnK_le (d := d) hw.2 hh.2
    rw [restD_cons (by omega)] at hr
    unfold nxtI
    by_cases ho : openAt cs (pos w h d a (b + 1)) = true
    · rw [if_pos ho] at hr
      rw [decide_eq_true (show b + 1 < lnK w h d by omega), ho, Bool.true_and, if_pos rfl]
      have hp := (pos_lt hd ha (show b + 1 < lnK w h d by omega)).2.2
      have hA := tiAhead_eq hw hh hl hp (d := (d + 2) % 4) (by omega)
      rw [back_pos hd ha (show b + 1 < lnK w h d by omega)] at hA
      refine Ev.step (fun k => ?_) (follow_l1 x5 x13 x14 x15 r ha n (b + 1) (x8 ++ [pos w h d a (b + 1)]) (by omega) (by rw [List.length_append]; simp; omega) (by rw [List.append_assoc]; exact hr))
      rw [spec_tiStretches.l1, if_pos (by omega), if_pos (by rw [castsI_length]; omega), opp_eq hd, hA, Option.bind_some, casts_app, casts_one]; rfl
    · rw [if_neg ho, List.append_nil] at hr
      rw [show openAt cs (pos w h d a (b + 1)) = false by simpa using ho, Bool.and_false, if_neg Bool.false_ne_true]
      exact Ev.step (fun k => by rw [spec_tiStretches.l1, if_neg (by omega)]) hr
end
theorem rows_at (L : List (List Nat)) (i : Nat) (h : i < L.length) : rd_L3 (L.map castsI) (i : Int) = castsI (L[i]'h) := by
  unfold rd_L3
  rw [Int.toNat_natCast, List.getD_eq_getElem?_getD, List.getElem?_map, List.getElem?_eq_getElem h]; rfl
theorem place_l2 {w h d : Nat} {cs : List Int} (x13 : List Int) (x14 x15 : Int) (r : List (List Int)) (st : List Nat) (hne : st ≠ []) (hst : st.length < 1000000) : ∀ (rest pre : List (List Nat)), pre.length + rest.length < 1000000 → (∀ y ∈ rest, y ≠ [] ∧ y.length < 1000000) →
    Ev (fun k => spec_tiStretches.l0 k d ((pre ++ insK st rest).map castsI) x13 x14 (wrap64 (x15 + 1)) w h cs) r →
    Ev (fun k => spec_tiStretches.l2 k d ((pre ++ rest).map castsI) (castsI st) (pre.length : Int) x13 x14 x15 w h cs) r
  | [], pre, hlen, _, hr => by
    refine Ev.step (fun k => ?_) hr
    have e1 : ((pre ++ []).map castsI).take ((pre.length : Int)).toNat = pre.map castsI := by rw [List.append_nil, Int.toNat_natCast, List.take_of_length_le (by simp)]
    have e2 : ((pre ++ []).map castsI).drop ((pre.length : Int)).toNat = [] := by rw [List.append_nil, Int.toNat_natCast, List.drop_eq_nil_of_le (by simp)]
    simp only [List.length_nil, Nat.add_zero] at hlen
    rw [spec_tiStretches.l2, if_neg (by simp), Option.bind_some, if_pos (by omega), if_pos (by simp), e1, e2, Option.bind_some, if_pos (by simp; omega), Option.bind_some, if_pos (by simp; omega), Option.bind_some, Option.bind_some, if_pos (by simp; omega)]
    simp [insK]
  | y :: ys, pre, hlen, hall, hr => by
    have hL : ((pre ++ y :: ys).map castsI).length = pre.length + ys.length + 1 := by simp; omega
    simp only [List.length_cons] at hlen
    have hy := hall y List.mem_cons_self
    have hrow : rd_L3 ((pre ++ y :: ys).map castsI) (pre.length : Int) = castsI y := by
      rw [rows_at _ _ (by simp)]
      congr 1
      simp
    have hstep : ∀ k, spec_tiStretches.l2 (k + 1) d ((pre ++ y :: ys).map castsI) (castsI st) (pre.length : Int) x13 x14 x15 w h cs =
        (spec_tiFirst.f k (castsI y)).bind fun t113 => (spec_tiFirst.f k (castsI st)).bind fun t114 => if t113 < t114 then spec_tiStretches.l2 k d ((pre ++ y :: ys).map castsI) (castsI st) ((pre.length + 1 : Nat) : Int) x13 x14 x15 w h cs else spec_tiStretches.l0 k d ((pre ++ (st :: y :: ys)).map castsI) x13 x14 (wrap64 (x15 + 1)) w h cs := by
      intro k
      have e1 : ((pre ++ y :: ys).map castsI).take ((pre.length : Int)).toNat = pre.map castsI := by rw [Int.toNat_natCast, List.map_append, List.take_left' (by simp)]
      have e2 : ((pre ++ y :: ys).map castsI).drop ((pre.length : Int)).toNat = (y :: ys).map castsI := by rw [Int.toNat_natCast, List.map_append, List.drop_left' (by simp)]
      rw [spec_tiStretches.l2, if_pos (by omega), if_pos (by omega), hrow]
      congr 1
      funext t113
      congr 1
      funext t114
      by_cases ht : t113 < t114
      · rw [if_pos ht, if_pos ht, w64 (by omega) (by omega)]; rfl
      · rw [if_neg ht, if_neg ht, Option.bind_some, if_pos (by omega), e1, e2, Option.bind_some, if_pos (by simp; omega), Option.bind_some, if_pos (by simp; omega), Option.bind_some, Option.bind_some, if_pos (by simp; omega)]
        simp
    refine Ev.step hstep (Ev.bind (tiFirst_ev hy.1 hy.2) (Ev.bind (tiFirst_ev hne hst) ?_))
    unfold insK at hr
    by_cases hlt : leastL y < leastL st
    · rw [if_pos hlt] at hr
      refine Ev.congr (fun k => if_pos (by omega)) ?_
      have := place_l2 x13 x14 x15 r st hne hst ys (pre ++ [y]) (by simp; omega) (fun z hz => hall z (List.mem_cons_of_mem _ hz)) (by rw [List.append_assoc]; exact hr)
      rw [List.append_assoc, List.length_append] at this
      exact this
    · rw [if_neg hlt] at hr
      exact Ev.congr (fun k => if_neg (by omega)) hr
theorem tail_head {w h d i : Nat} {cs : List Int} (hd : d < 4) (hi : i < w * h) (ho : openAt cs i = true) : tailD w h d cs i = i :: restD w h d cs (lnA w d i) (lnB w h d i + 1) := by
  obtain ⟨h1, h2, h3⟩ := inv_pos hd hi
  show restD w h d cs (lnA w d i) (lnB w h d i) = _
  rw [restD_cons h2, h3, if_pos ho]
section
variable {w h d : Nat} {cs : List Int} (hw : 1 ≤ w ∧ w ≤ 7) (hh : 1 ≤ h ∧ h ≤ 7) (hl : cs.length = w * h) (hd : d < 4)
include hw hh hl hd
theorem cells_l0 : ∀ (n i : Nat) (out : List (List Nat)), i + n = w * h → out.length ≤ i → (∀ y ∈ out, y ≠ [] ∧ y.length < 1000000) →
    Ev (fun k => spec_tiStretches.l0 k d (out.map castsI) cs (cs.length : Int) i w h cs) (((((List.range' i n).filter (endD w h d cs)).map (tailD w h d cs)).foldl (fun o x => insK x o) out).map castsI)
  | 0, i, out, hi, ho, hall => Ev.step (fun k => by rw [spec_tiStretches.l0, if_neg (by omega)]; rfl) (Ev.now _)
  | n + 1, i, out, hi, ho, hall => by
    have h49 : w * h ≤ 7 * 7 := Nat.mul_le_mul hw.2 hh.2
    have hil : i < w * h := by omega
    have hK := lnK_le (d := d) hw.2 hh.2
    obtain ⟨q1, q2, q3⟩ := inv_pos hd hil
    have HWR : Aside0 (wrap64 ((i : Int) + 1) = ((i + 1 : Nat) : Int)) := ⟨by rw [w64 (by omega) (by omega)]; rfl⟩
    have hrd : rd cs (i : Int) = cs.getD i 0 := by unfold rd; rw [Int.toNat_natCast]
    have hend := end_ahead hd hil cs
    have hA := tiAhead_eq hw hh hl hil hd
    have hB := tiAhead_eq hw hh hl hil (d := (d + 2) % 4) (by omega)
    have hback := back_pos hd q1 q2 cs
    rw [q3] at hback
    rw [hback] at hB
    have hskip : endD w h d cs i = false → Ev (fun k => spec_tiStretches.l0 k d (out.map castsI) cs (cs.length : Int) ((i + 1 : Nat) : Int) w h cs) (((((List.range' i (n + 1)).filter (endD w h d cs)).map (tailD w h d cs)).foldl (fun o x => insK x o) out).map castsI) := fun he => by
      rw [List.range'_succ, List.filter_cons, he, if_neg Bool.false_ne_true]
      exact cells_l0 n (i + 1) out (by omega) (by omega) hall
    by_cases h35 : cs.getD i 0 = 35
    · have hop : openAt cs i = false := by unfold openAt isOpenC; rw [h35]; rfl
      have he : endD w h d cs i = false := by rw [hend, hop, Bool.false_and]
      refine Ev.step (f := fun k => spec_tiStretches.j1 k d (out.map castsI) i cs (cs.length : Int) i true w h cs) (fun k => by rw [spec_tiStretches.l0, if_pos (by omega), if_pos (by omega), if_pos (by omega), hrd, if_pos h35]) ?_
      exact Ev.step (fun k => by rw [spec_tiStretches.j1, if_pos rfl, HWR.out]) (hskip he)
    · have hop : openAt cs i = true := by unfold openAt isOpenC; simpa using h35
      rw [hop, Bool.true_and] at hend
      refine Ev.step (f := fun k => spec_tiStretches.j1 k d (out.map castsI) i cs (cs.length : Int) i (decide (aheadI w h cs i d ≥ 0)) w h cs) (fun k => by rw [spec_tiStretches.l0, if_pos (by omega), if_pos (by omega), if_pos (by omega), hrd, if_neg h35, hA, Option.bind_some]) ?_
      by_cases hah : aheadI w h cs i d ≥ 0
      · have he : endD w h d cs i = false := by rw [hend]; exact decide_eq_false (by omega)
        rw [decide_eq_true hah]
        exact Ev.step (fun k => by rw [spec_tiStretches.j1, if_pos rfl, HWR.out]) (hskip he)
      · have he : endD w h d cs i = true := by rw [hend]; exact decide_eq_true (by omega)
        rw [decide_eq_false hah]
        refine Ev.step (f := fun k => spec_tiStretches.l1 k d (out.map castsI) (castsI [i]) (nxtI w h d cs (lnA w d i) (lnB w h d i)) cs (cs.length : Int) i w h cs) (fun k => by
          rw [spec_tiStretches.j1, if_neg Bool.false_ne_true, opp_eq hd, hB, Option.bind_some]; rfl) ?_
        refine follow_l1 hw hh hl hd (out.map castsI) cs (cs.length : Int) i _ q1 (lnK w h d - 1 - lnB w h d i) (lnB w h d i) [i] (by omega) (by simp) ?_
        have ht := tail_head hd hil hop
        rw [show [i] ++ restD w h d cs (lnA w d i) (lnB w h d i + 1) = tailD w h d cs i from ht.symm]
        have htl : (tailD w h d cs i).length < 1000000 := by
          have := restD_length w h d (lnA w d i) (lnB w h d i + 1) cs
          rw [ht, List.length_cons]; omega
        have htn : tailD w h d cs i ≠ [] := by rw [ht]; exact List.cons_ne_nil _ _
        refine place_l2 (d := d) cs (cs.length : Int) i _ (tailD w h d cs i) htn htl out [] (by simp; omega) hall ?_
        rw [List.nil_append, HWR.out, List.range'_succ, List.filter_cons, he, if_pos rfl, List.map_cons, List.foldl_cons]
        have hp := insK_perm (tailD w h d cs i) out
        refine cells_l0 n (i + 1) (insK (tailD w h d cs i) out) (by omega) (by rw [hp.length_eq, List.length_cons]; omega) (fun y hy => ?_)
        rcases List.mem_cons.1 (hp.mem_iff.1 hy) with rfl | hy
        · exact ⟨htn, htl⟩
        · exact hall y hy
theorem tiStretches_ev : Ev (fun k => spec_tiStretches.f k w h cs d) ((strD w h d cs).map castsI) := by
  have h0 := cells_l0 hw hh hl hd (w * h) 0 [] (by omega) (by simp) (fun y hy => by cases hy)
  rw [← List.range_eq_range'] at h0
  exact h0
end
end Go.Proofs.YtdffgeoegdkiaaaGreatDoor

namespace Go.Proofs.YtdffgeoegdkiaaaGreatDoor
open Go.RowKit Go.Proofs.YtdffgeoegdkiaaaGreatDoorW.PrintWords Go.Proofs.YtdffgeoegdkiaaaGreatDoorW.PrintLast Go.Proofs.YtdffgeoegdkiaaaGreatDoorW.PrintMore Go.Lib Go.Proofs.YtdffgeoegdkiaaaGreatDoor.F
def gridI (a0 a1 : Int) (l : List Int) : Prop := (1 ≤ a0 ∧ a0 ≤ 7) ∧ (1 ≤ a1 ∧ a1 ≤ 7) ∧ l.length = a0.toNat * a1.toNat
instance (a0 a1 : Int) (l : List Int) : Decidable (gridI a0 a1 l) := by unfold gridI; exact inferInstance
theorem gridI_nat {w h : Nat} {cs : List Int} (hw : 1 ≤ w ∧ w ≤ 7) (hh : 1 ≤ h ∧ h ≤ 7) (hl : cs.length = w * h) : gridI w h cs := ⟨by omega, by omega, by rw [Int.toNat_natCast, Int.toNat_natCast]; exact hl⟩
theorem strD_facts {w h d : Nat} {cs : List Int} (hw : 1 ≤ w ∧ w ≤ 7) (hh : 1 ≤ h ∧ h ≤ 7) (hl : cs.length = w * h) (hd : d < 4) :
    (0 < cs.length ∧ cs.length < 65536) ∧ (∀ st ∈ strD w h d cs, ∀ i ∈ st, i < cs.length) ∧ (strD w h d cs).flatten.length < 65536 ∧ (strD w h d cs).length < 65536 ∧ (∀ st ∈ strD w h d cs, st.length < 65536) := by
  have h49 : w * h ≤ 7 * 7 := Nat.mul_le_mul hw.2 hh.2
  have h1 : 0 < w * h := Nat.mul_pos (by omega) (by omega)
  have hf : (strD w h d cs).flatten.length ≤ w * h := by
    rw [(strD_cells hd cs).length_eq]
    exact Nat.le_trans (List.length_filter_le _ _) (by rw [List.length_range]; exact Nat.le_refl _)
  have hne := strD_ne hd (w := w) (h := h) (cs := cs)
  have len : ∀ S : List (List Nat), (∀ st ∈ S, st ≠ []) → S.length ≤ S.flatten.length ∧ ∀ st ∈ S, st.length ≤ S.flatten.length := fun S => by
    induction S with
    | nil => intro _; exact ⟨Nat.le_refl _, fun st h => by cases h⟩
    | cons a S ih =>
      intro hs
      obtain ⟨i1, i2⟩ := ih (fun st h => hs st (List.mem_cons_of_mem _ h))
      have ha : 0 < a.length := List.length_pos_iff.2 (hs a List.mem_cons_self)
      rw [List.flatten_cons, List.length_append, List.length_cons]
      refine ⟨by omega, fun st h => ?_⟩
      rcases List.mem_cons.1 h with rfl | h
      · omega
      · have := i2 st h; omega
  obtain ⟨l1, l2⟩ := len _ hne
  refine ⟨⟨by rw [hl]; exact h1, by rw [hl]; omega⟩, fun st hs i hi => by rw [hl]; exact (strD_Str hd cs).lt st hs i hi, by omega, by omega, fun st hs => ?_⟩
  have := l2 st hs
  omega
def spec_tiTilt.f (a0 a1 : Int) (l : List Int) (d : Int) : Option (Int × Int × List Int) := if gridI a0 a1 l ∧ 0 ≤ d ∧ d < 4 then some (a0, a1, tiltD a0.toNat a1.toNat d.toNat l) else none
theorem spec_tiTilt_eq {w h d : Nat} {cs : List Int} (hw : 1 ≤ w ∧ w ≤ 7) (hh : 1 ≤ h ∧ h ≤ 7) (hl : cs.length = w * h) (hd : d < 4) : spec_tiTilt.f w h cs d = some ((w : Int), (h : Int), tiltD w h d cs) := if_pos ⟨gridI_nat hw hh hl, by omega, by omega⟩
theorem spec_tiTilt.calls (a0_0 a0_1 : Int) (A0_2 : Option Addr) (c0_2 : Nat) (l0_2 : List Int) (a1 : Int) (r1 r2 : Int) (r3 : List Int) (w : World) (hr0_2 : Kd.C (Kd.int .u8) w A0_2 l0_2.length l0_2) (hc0_2 : l0_2.length ≤ c0_2) (h : spec_tiTilt.f a0_0 a0_1 l0_2 a1 = some (r1, r2, r3)) :
    Calls Tryz.prog 85 #[.agg #[.int .i64 a0_0, .int .i64 a0_1, .slice A0_2 l0_2.length c0_2], .int .i64 a1] w fun e w' => ∃ v2_ : Value, e = .returned (.agg #[.int .i64 r1, .int .i64 r2, v2_]) ∧ Kd.R (Kd.int .u8) 5 w' w.heap.size (fun _ => True) v2_ r3 ∧ Below w.heap.size w w' := by
  unfold spec_tiTilt.f at h
  split at h
  case isFalse => cases h
  rename_i hc
  obtain ⟨⟨hw, hh, hl⟩, hd0, hd4⟩ := hc
  injection h with h
  injection h with h1 h
  injection h with h2 h3
  subst h1 h2 h3
  obtain ⟨W, rfl⟩ : ∃ n : Nat, a0_0 = n := ⟨a0_0.toNat, by omega⟩
  obtain ⟨H, rfl⟩ : ∃ n : Nat, a0_1 = n := ⟨a0_1.toNat, by omega⟩
  obtain ⟨d, rfl⟩ : ∃ n : Nat, a1 = n := ⟨a1.toNat, by omega⟩
  simp only [Int.toNat_natCast] at hl ⊢
  have hw' : 1 ≤ W ∧ W ≤ 7 := by omega
  have hh' : 1 ≤ H ∧ H ≤ 7 := by omega
  have hd' : d < 4 := by omega
  obtain ⟨f1, f2, f3, f4, f5⟩ := strD_facts hw' hh' hl hd'
  obtain ⟨k, hk⟩ := Ev.rounds (tiStretches_ev hw' hh' hl hd')
  refine tiTilt_calls W H d A0_2 c0_2 l0_2 (strD W H d l0_2) w hr0_2 hc0_2 f1 f2 f4 f5 (fun W' hW => ?_)
  exact spec_tiStretches.calls k W H A0_2 c0_2 l0_2 d _ W' (Kd.C_below hr0_2 hW) hc0_2 hk
theorem rev_ev (l : List Int) (hl : l.length ≤ 7) : Ev (fun k => slices_Reverse_int_int.f k l) l.reverse := by
  refine Ev.of (fun k => slices_Reverse_int_int.mono _ _) (k := 6) ?_
  match l, hl with
  | [], _ => simp [slices_Reverse_int_int.f, slices_Reverse_int_int.l0, wrap64, rd]
  | [a], _ => simp [slices_Reverse_int_int.f, slices_Reverse_int_int.l0, wrap64, rd]
  | [a, b], _ => simp [slices_Reverse_int_int.f, slices_Reverse_int_int.l0, wrap64, rd]
  | [a, b, c], _ => simp [slices_Reverse_int_int.f, slices_Reverse_int_int.l0, wrap64, rd]
  | [a, b, c, d], _ => simp [slices_Reverse_int_int.f, slices_Reverse_int_int.l0, wrap64, rd]
  | [a, b, c, d, e], _ => simp [slices_Reverse_int_int.f, slices_Reverse_int_int.l0, wrap64, rd]
  | [a, b, c, d, e, f], _ => simp [slices_Reverse_int_int.f, slices_Reverse_int_int.l0, wrap64, rd]
  | [a, b, c, d, e, f, g], _ => simp [slices_Reverse_int_int.f, slices_Reverse_int_int.l0, wrap64, rd]
  | _ :: _ :: _ :: _ :: _ :: _ :: _ :: _ :: _, h => exact absurd h (by simp)
theorem casts_rev (l : List Nat) : (castsI l).reverse = castsI l.reverse := by unfold castsI; rw [List.map_reverse]
theorem range_rev {α : Type} (f : Nat → α) (n : Nat) : (List.range n).map (fun b => f (n - 1 - b)) = ((List.range n).map f).reverse := by
  apply List.ext_getElem
  · simp
  · intro i h1 h2
    simp [List.getElem_reverse]
theorem w100 (n : Nat) (h : n < 100) : wrap64 (n : Int) = n := w64 (by omega) (by omega)
def rawP (w d a b : Nat) : Nat := if d = 0 ∨ d = 2 then b * w + a else a * w + b
def rawL (w d a n : Nat) : List Nat := (List.range n).map (rawP w d a)
theorem rawL_succ (w d a n : Nat) : rawL w d a (n + 1) = rawL w d a n ++ [rawP w d a n] := by unfold rawL; rw [List.range_succ, List.map_append]; rfl
theorem rawL_length (w d a n : Nat) : (rawL w d a n).length = n := by simp [rawL]
theorem raw_line {w h d a : Nat} (hd : d < 4) : lineD w h d a = if d = 1 ∨ d = 2 then (rawL w d a (lnK w h d)).reverse else rawL w d a (lnK w h d) := by
  rcases dir4 hd with rfl | rfl | rfl | rfl
  · rfl
  · rw [if_pos (Or.inl rfl)]; exact range_rev (rawP w 1 a) w
  · rw [if_pos (Or.inr rfl)]; exact range_rev (rawP w 2 a) h
  · rfl
section
variable {w h d : Nat} {cs : List Int} (hw : 1 ≤ w ∧ w ≤ 7) (hh : 1 ≤ h ∧ h ≤ 7) (hd : d < 4)
include hw hh hd
omit hd in
theorem number_raw {a b : Nat} (ha : a < lnM w h d) (hb : b < lnK w h d) : (if decide (d = 0 ∨ d = 2) = true then impl_tray_number.f w h cs a b else impl_tray_number.f w h cs b a) = some ((rawP w d a b : Nat) : Int) := by
  have key : ∀ x y : Nat, x < 8 → y < 8 → impl_tray_number.f w h cs x y = some ((y * w + x : Nat) : Int) := fun x y hx hy => by
    have h49 : y * w ≤ 7 * 7 := Nat.mul_le_mul (by omega) hw.2
    have e1 : (y : Int) * (w : Int) = ((y * w : Nat) : Int) := by rw [Int.natCast_mul]
    have hb : y * w + x < 100 := by omega
    unfold impl_tray_number.f
    rw [e1, w100 (y * w) (by omega), ← Int.natCast_add, w100 _ hb]
  have hK := lnK_le (d := d) hw.2 hh.2
  have hM : lnM w h d ≤ 7 := by unfold lnM; split <;> omega
  unfold rawP
  by_cases hv : d = 0 ∨ d = 2
  · rw [if_pos (decide_eq_true hv), if_pos hv, key a b (by omega) (by omega)]
  · rw [if_neg (by simp only [decide_eq_true_eq]; exact hv), if_neg hv, key b a (by omega) (by omega)]
theorem lines_l1 (x5 : List (List Int)) (hx : x5.length < 1000) (r : List (List Int)) {a : Nat} (ha : a < lnM w h d) : ∀ (n j : Nat), j + n = lnK w h d →
    Ev (fun k => impl_tray_lines.l0 k (dirB d) (x5 ++ [castsI (lineD w h d a)]) (lnK w h d : Int) (lnM w h d : Int) ((a + 1 : Nat) : Int) w h cs) r →
    Ev (fun k => impl_tray_lines.l1 k (dirB d) x5 (lnK w h d : Int) (a : Int) (castsI (rawL w d a j)) (lnM w h d : Int) (a : Int) (lnK w h d : Int) (j : Int) w h cs) r
  | 0, j, hj, hr => by
    have hK := lnK_le (d := d) hw.2 hh.2
    have hM : lnM w h d ≤ 7 := by unfold lnM; split <;> omega
    obtain rfl : j = lnK w h d := by omega
    have hrl := raw_line (w := w) (h := h) (a := a) hd
    have hrev : Ev (fun k => slices_Reverse_int_int.f k (castsI (rawL w d a (lnK w h d)))) (castsI (rawL w d a (lnK w h d)).reverse) := by
      have := rev_ev (castsI (rawL w d a (lnK w h d))) (by rw [castsI_length, rawL_length]; exact hK)
      rwa [casts_rev] at this
    have HW : Aside0 (wrap64 ((a : Int) + 1) = ((a + 1 : Nat) : Int)) := ⟨by rw [w64 (by omega) (by omega)]; rfl⟩
    have hlen : x5.length < 5864062014805 := by omega
    rcases dir4 hd with rfl | rfl | rfl | rfl
    · rw [if_neg (by decide)] at hrl
      rw [hrl] at hr
      refine Ev.step (fun k => ?_) hr
      rw [impl_tray_lines.l1, if_neg (by omega), if_neg (by decide), if_neg (by decide), if_pos hlen, HW.out]
    · rw [if_pos (by decide)] at hrl
      rw [hrl] at hr
      refine Ev.step (fun k => ?_) (Ev.bind hrev (f := fun k t => impl_tray_lines.l0 k (dirB 1) (x5 ++ [t]) (lnK w h 1 : Int) (lnM w h 1 : Int) ((a + 1 : Nat) : Int) w h cs) hr)
      rw [impl_tray_lines.l1, if_neg (by omega), if_pos (by rfl), HW.out]
      simp only [if_pos hlen]
    · rw [if_pos (by decide)] at hrl
      rw [hrl] at hr
      refine Ev.step (fun k => ?_) (Ev.bind hrev (f := fun k t => impl_tray_lines.l0 k (dirB 2) (x5 ++ [t]) (lnK w h 2 : Int) (lnM w h 2 : Int) ((a + 1 : Nat) : Int) w h cs) hr)
      rw [impl_tray_lines.l1, if_neg (by omega), if_neg (by decide), if_pos (by rfl), HW.out]
      simp only [if_pos hlen]
    · rw [if_neg (by decide)] at hrl
      rw [hrl] at hr
      refine Ev.step (fun k => ?_) hr
      rw [impl_tray_lines.l1, if_neg (by omega), if_neg (by decide), if_neg (by decide), if_pos hlen, HW.out]
  | n + 1, j, hj, hr => by
    have hK := lnK_le (d := d) hw.2 hh.2
    have hjK : j < lnK w h d := by omega
    have ih := lines_l1 x5 hx r ha n (j + 1) (by omega) hr
    have hnum := number_raw (cs := cs) hw hh ha hjK
    have HW : Aside0 (wrap64 ((j : Int) + 1) = ((j + 1 : Nat) : Int)) := ⟨by rw [w64 (by omega) (by omega)]; rfl⟩
    have hlen : (castsI (rawL w d a j)).length < 17592186044416 := by rw [castsI_length, rawL_length]; omega
    have h1 : ∀ k, impl_tray_lines.l1 (k + 1) (dirB d) x5 (lnK w h d : Int) (a : Int) (castsI (rawL w d a j)) (lnM w h d : Int) (a : Int) (lnK w h d : Int) (j : Int) w h cs = impl_tray_lines.j4 k (dirB d) x5 (lnK w h d : Int) (a : Int) (castsI (rawL w d a j)) (j : Int) (lnM w h d : Int) (a : Int) (lnK w h d : Int) (j : Int) (decide (d = 0 ∨ d = 2)) w h cs := fun k => by
      rw [impl_tray_lines.l1, if_pos (by omega)]
      rcases dir4 hd with rfl | rfl | rfl | rfl
      · rw [if_pos (by rfl)]; rfl
      · rw [if_neg (by decide)]; rfl
      · rw [if_neg (by decide)]; rfl
      · rw [if_neg (by decide)]; rfl
    refine Ev.step h1 (Ev.step (fun k => ?_) ih)
    rw [rawL_succ, casts_app, casts_one, impl_tray_lines.j4]
    by_cases hv : decide (d = 0 ∨ d = 2) = true
    · rw [if_pos hv] at hnum ⊢
      rw [hnum, Option.bind_some, if_pos hlen, HW.out]
    · rw [if_neg hv] at hnum ⊢
      rw [hnum, Option.bind_some, if_pos hlen, HW.out]
theorem lines_l0 : ∀ (n a : Nat), a + n = lnM w h d → Ev (fun k => impl_tray_lines.l0 k (dirB d) (((List.range a).map (lineD w h d)).map castsI) (lnK w h d : Int) (lnM w h d : Int) (a : Int) w h cs) ((linesD w h d).map castsI)
  | 0, a, ha => by
    obtain rfl : a = lnM w h d := by omega
    exact Ev.step (fun k => by rw [impl_tray_lines.l0, if_neg (by omega)]; rfl) (Ev.now _)
  | n + 1, a, ha => by
    have hM : lnM w h d ≤ 7 := by unfold lnM; split <;> omega
    have ih := lines_l0 n (a + 1) (by omega)
    rw [List.range_succ, List.map_append, List.map_append] at ih
    have := lines_l1 (cs := cs) hw hh hd (((List.range a).map (lineD w h d)).map castsI) (by simp; omega) _ (show a < lnM w h d by omega) (lnK w h d) 0 (by omega) ih
    exact Ev.step (fun k => by rw [impl_tray_lines.l0, if_pos (by omega)]; rfl) this
theorem lines_ev : Ev (fun k => impl_tray_lines.f k w h cs (dirB d)) ((linesD w h d).map castsI) := by
  have h0 := lines_l0 (cs := cs) hw hh hd (lnM w h d) 0 (by omega)
  rcases dir4 hd with rfl | rfl | rfl | rfl
  · exact Ev.congr (fun k => rfl) (Ev.step (g := fun k => impl_tray_lines.j0 k 117 [] h w true w h cs) (f := fun k => impl_tray_lines.j1 k 117 [] w h w h cs) (fun k => rfl) (Ev.step (fun k => rfl) h0))
  · exact Ev.congr (fun k => rfl) (Ev.step (g := fun k => impl_tray_lines.j0 k 114 [] h w false w h cs) (f := fun k => impl_tray_lines.j1 k 114 [] h w w h cs) (fun k => rfl) (Ev.step (fun k => rfl) h0))
  · exact Ev.congr (fun k => rfl) (Ev.step (g := fun k => impl_tray_lines.j0 k 100 [] h w true w h cs) (f := fun k => impl_tray_lines.j1 k 100 [] w h w h cs) (fun k => rfl) (Ev.step (fun k => rfl) h0))
  · exact Ev.congr (fun k => rfl) (Ev.step (g := fun k => impl_tray_lines.j0 k 108 [] h w false w h cs) (f := fun k => impl_tray_lines.j1 k 108 [] h w w h cs) (fun k => rfl) (Ev.step (fun k => rfl) h0))
end
theorem open_rd {cs : List Int} {x : Nat} : openAt cs x = true ↔ ¬ rd cs (x : Int) = 35 := by
  unfold openAt isOpenC rd
  rw [Int.toNat_natCast]; simp
theorem runs_l1 {w h : Nat} {cs : List Int} (LL : List (List Int)) (a : Nat) (ha : a < 1000) (r : List (List Int)) (L : List Nat) (hL : L.length < 1000) (hlt : ∀ x ∈ L, x < cs.length) : ∀ (n j : Nat) (out : List (List Nat)) (own : List Nat), j + n = L.length → out.length + n < 100000 → own.length ≤ j →
    Ev (fun k => impl_tray_strI.l0 k ((out ++ runsF (openAt cs) own (L.drop j)).map castsI) LL (LL.length : Int) ((a + 1 : Nat) : Int) w h cs) r →
    Ev (fun k => impl_tray_strI.l1 k (out.map castsI) (castsI own) LL (LL.length : Int) (a : Int) (castsI L) (L.length : Int) (j : Int) w h cs) r
  | 0, j, out, own, hj, ho, hown, hr => by
    have HW : Aside0 (wrap64 ((a : Int) + 1) = ((a + 1 : Nat) : Int)) := ⟨by rw [w64 (by omega) (by omega)]; rfl⟩
    rw [List.drop_eq_nil_of_le (by omega)] at hr
    unfold runsF at hr
    refine Ev.step (fun k => ?_) hr
    rw [impl_tray_strI.l1, if_neg (by omega), castsI_length, HW.out]
    by_cases h0 : own = []
    · rw [if_pos h0, if_neg (by rw [h0]; decide), List.append_nil]
    · have : 0 < own.length := List.length_pos_iff.2 h0
      rw [if_neg h0, if_pos (by omega), if_pos (by simp; omega), List.map_append]; rfl
  | n + 1, j, out, own, hj, ho, hown, hr => by
    have hjl : j < L.length := by omega
    have HW : Aside0 (wrap64 ((j : Int) + 1) = ((j + 1 : Nat) : Int)) := ⟨by rw [w64 (by omega) (by omega)]; rfl⟩
    have hx := hlt _ (List.getElem_mem hjl)
    rw [List.drop_eq_getElem_cons hjl] at hr
    have hrd := rd_cast L j hjl
    have hop := open_rd (cs := cs) (x := L[j]'hjl)
    generalize L[j]'hjl = x at *
    unfold runsF at hr
    have hs : ∀ k, impl_tray_strI.l1 (k + 1) (out.map castsI) (castsI own) LL (LL.length : Int) (a : Int) (castsI L) (L.length : Int) (j : Int) w h cs =
        if rd cs (x : Int) = 35 then (if own = [] then impl_tray_strI.l1 k (out.map castsI) (castsI []) LL (LL.length : Int) (a : Int) (castsI L) (L.length : Int) ((j + 1 : Nat) : Int) w h cs else impl_tray_strI.l1 k ((out ++ [own]).map castsI) (castsI []) LL (LL.length : Int) (a : Int) (castsI L) (L.length : Int) ((j + 1 : Nat) : Int) w h cs)
        else impl_tray_strI.l1 k (out.map castsI) (castsI (own ++ [x])) LL (LL.length : Int) (a : Int) (castsI L) (L.length : Int) ((j + 1 : Nat) : Int) w h cs := fun k => by
      rw [impl_tray_strI.l1, if_pos (by omega), if_pos (by omega), castsI_length, if_pos (by omega), hrd, if_pos (by omega), if_pos (by omega), HW.out, castsI_length]
      by_cases h35 : rd cs (x : Int) = 35
      · rw [if_pos h35, if_pos h35]
        by_cases h0 : own = []
        · rw [if_neg (by rw [h0]; decide), if_pos h0, h0]
        · have : 0 < own.length := List.length_pos_iff.2 h0
          rw [if_neg h0, if_pos (by omega), if_pos (by simp; omega), List.map_append]; rfl
      · rw [if_neg h35, if_neg h35, if_pos (by omega), casts_app, casts_one]
    refine Ev.step hs ?_
    by_cases h35 : rd cs (x : Int) = 35
    · have hop' : ¬ openAt cs x = true := fun e => hop.1 e h35
      rw [if_neg hop'] at hr
      refine Ev.congr (fun k => if_pos h35) ?_
      by_cases h0 : own = []
      · rw [if_pos h0] at hr
        exact Ev.congr (fun k => if_pos h0) (runs_l1 LL a ha r L hL hlt n (j + 1) out [] (by omega) (by omega) (by simp) hr)
      · rw [if_neg h0] at hr
        refine Ev.congr (fun k => if_neg h0) (runs_l1 LL a ha r L hL hlt n (j + 1) (out ++ [own]) [] (by omega) (by simp; omega) (by simp) ?_)
        rw [List.append_assoc]; exact hr
    · rw [if_pos (hop.2 h35)] at hr
      exact Ev.congr (fun k => if_neg h35) (runs_l1 LL a ha r L hL hlt n (j + 1) out (own ++ [x]) (by omega) (by omega) (by simp; omega) hr)
theorem runsF_len (p : Nat → Bool) : ∀ (l own : List Nat), (runsF p own l).length ≤ l.length + 1
  | [], own => by unfold runsF; split <;> simp
  | k :: l, own => by
    have h1 := runsF_len p l (own ++ [k])
    have h2 := runsF_len p l []
    unfold runsF
    split
    · simp; omega
    · split
      · simp; omega
      · simp; omega
theorem runs_l0 {w h : Nat} {cs : List Int} (S : List (List Nat)) (hS : S.length < 1000) (hall : ∀ L ∈ S, L.length < 10 ∧ ∀ x ∈ L, x < cs.length) : ∀ (n a : Nat) (out : List (List Nat)), a + n = S.length → out.length ≤ 20 * a →
    Ev (fun k => impl_tray_strI.l0 k (out.map castsI) (S.map castsI) ((S.map castsI).length : Int) (a : Int) w h cs) ((out ++ (S.drop a).flatMap (runsF (openAt cs) [])).map castsI)
  | 0, a, out, ha, ho => by
    rw [List.drop_eq_nil_of_le (by omega)]
    refine Ev.step (fun k => by rw [impl_tray_strI.l0, if_neg (by simp; omega)]) (Ev.congr (fun k => ?_) (Ev.now _))
    rw [List.flatMap_nil, List.append_nil]
  | n + 1, a, out, ha, ho => by
    have hal : a < S.length := by omega
    obtain ⟨q1, q2⟩ := hall _ (List.getElem_mem hal)
    have hrow := rows_at S a hal
    have hd := List.drop_eq_getElem_cons hal
    rw [hd, List.flatMap_cons, ← List.append_assoc]
    have hl := runsF_len (openAt cs) (S[a]'hal) []
    have ih := runs_l0 (w := w) (h := h) S hS hall n (a + 1) (out ++ runsF (openAt cs) [] (S[a]'hal)) (by omega) (by simp; omega)
    have := runs_l1 (w := w) (h := h) (S.map castsI) a (by omega) _ (S[a]'hal) (by omega) q2 (S[a]'hal).length 0 out [] (by omega) (by omega) (by simp) (by rw [List.drop_zero]; exact ih)
    refine Ev.step (fun k => ?_) this
    rw [impl_tray_strI.l0, if_pos (by simp; omega), if_pos (by omega), if_pos (by simp; omega), hrow, castsI_length]; rfl
section
variable {w h d : Nat} {cs : List Int} (hw : 1 ≤ w ∧ w ≤ 7) (hh : 1 ≤ h ∧ h ≤ 7) (hl : cs.length = w * h) (hd : d < 4)
include hw hh hl hd
theorem strI_ev : Ev (fun k => impl_tray_strI.f k w h cs (dirB d)) ((strI w h d cs).map castsI) := by
  have hM : lnM w h d ≤ 7 := by unfold lnM; split <;> omega
  have hK := lnK_le (d := d) hw.2 hh.2
  refine Ev.bind (lines_ev (cs := cs) hw hh hd) ?_
  have := runs_l0 (w := w) (h := h) (cs := cs) (linesD w h d) (by simp [linesD]; omega) (fun L hL => ?_) (linesD w h d).length 0 [] (by omega) (by simp)
  · exact this
  · obtain ⟨a, ha, rfl⟩ := List.mem_map.1 hL
    exact ⟨by rw [lineD_length]; omega, fun x hx => by rw [hl]; exact (mem_lines hd).1 (List.mem_flatten.2 ⟨_, hL, hx⟩)⟩
end
theorem foldl_cast : ∀ (l : List Nat) (m : Nat), (castsI l).foldl min (m : Int) = ((l.foldl Nat.min m : Nat) : Int)
  | [], m => rfl
  | a :: l, m => by
    show (castsI l).foldl min (min (m : Int) (a : Int)) = _
    have e : min (m : Int) (a : Int) = ((Nat.min m a : Nat) : Int) := by
      rcases Nat.le_total m a with h | h
      · rw [show Nat.min m a = m from Nat.min_eq_left h]; omega
      · rw [show Nat.min m a = a from Nat.min_eq_right h]; omega
    rw [e, foldl_cast l]; rfl
theorem minOf_casts {l : List Nat} (hne : l ≠ []) : Lib.minOf (castsI l) = ((leastL l : Nat) : Int) := by
  cases l with
  | nil => exact absurd rfl hne
  | cons a l =>
    show (castsI (a :: l)).foldl min ((a : Nat) : Int) = _
    rw [foldl_cast, List.foldl_cons, show Nat.min a a = a from Nat.min_self a]; rfl
theorem nat_casts (l : List Nat) : (castsI l).map Int.toNat = l := by
  unfold castsI
  rw [List.map_map]
  exact (List.map_congr_left fun x _ => rfl).trans (List.map_id l)
theorem sorted_back {S : List (List Nat)} (hne : ∀ st ∈ S, st ≠ []) {ys : List (List Int)} (hp : ys.Perm (S.map castsI)) (hs : ys.Pairwise fun a b => Lib.minOf a ≤ Lib.minOf b) :
    ∃ T : List (List Nat), ys = T.map castsI ∧ T.Perm S ∧ T.Pairwise fun a b => leastL a ≤ leastL b := by
  have hT : (ys.map fun y => y.map Int.toNat).Perm S := by
    refine (hp.map _).trans (List.Perm.of_eq ?_)
    rw [List.map_map]
    exact (List.map_congr_left fun x _ => nat_casts x).trans (List.map_id S)
  have hY : ys = (ys.map fun y => y.map Int.toNat).map castsI := by
    rw [List.map_map]
    refine ((List.map_congr_left fun y hy => ?_).trans (List.map_id ys)).symm
    obtain ⟨l, hl, rfl⟩ := List.mem_map.1 (hp.mem_iff.1 hy)
    show castsI ((castsI l).map Int.toNat) = _
    rw [nat_casts]; rfl
  refine ⟨_, hY, hT, ?_⟩
  rw [hY, List.pairwise_map] at hs
  refine List.Pairwise.imp_of_mem (fun {a b} ha hb hab => ?_) hs
  rw [minOf_casts (hne a (hT.mem_iff.1 ha)), minOf_casts (hne b (hT.mem_iff.1 hb))] at hab
  omega
end Go.Proofs.YtdffgeoegdkiaaaGreatDoor

namespace Go.Proofs.YtdffgeoegdkiaaaGreatDoor
open Go.RowKit Go.Proofs.YtdffgeoegdkiaaaGreatDoorW.PrintWords Go.Proofs.YtdffgeoegdkiaaaGreatDoorW.PrintLast Go.Proofs.YtdffgeoegdkiaaaGreatDoorW.PrintMore Go.Lib Go.Shelf Go.Proofs.YtdffgeoegdkiaaaGreatDoor.F Go.Maps
attribute [local go_sem] max2_int min2_int
theorem set3_cell {w : World} {b b' : Nat} (h : b ≠ b') (u0 u1 u2 : Value) (j : Nat) {v : Value} (hc : w.cell? ⟨b, j, none⟩ = some v) : (((w.setCell ⟨b', 0, none⟩ u0).setCell ⟨b', 1, none⟩ u1).setCell ⟨b', 2, none⟩ u2).cell? ⟨b, j, none⟩ = some v := by
  have ne : ∀ k, (⟨b', k, none⟩ : Addr) ≠ ⟨b, j, none⟩ := fun k e => by injection e with e; exact h e.symm
  rw [World.cell?_setCell_other _ _ _ _ (by first | exact ne 2 | exact (ne 2).symm), World.cell?_setCell_other _ _ _ _ (by first | exact ne 1 | exact (ne 1).symm), World.cell?_setCell_other _ _ _ _ (by first | exact ne 0 | exact (ne 0).symm)]
  exact hc
theorem R_set3 {w : World} {base : Nat} {v : Value} {xs : List Int} {b : Nat} (h : Kd.R (Kd.int .u8) 5 w base (fun _ => True) v xs) (hb : b < base) (u0 u1 u2 : Value) : Kd.R (Kd.int .u8) 5 (((w.setCell ⟨b, 0, none⟩ u0).setCell ⟨b, 1, none⟩ u1).setCell ⟨b, 2, none⟩ u2) base (fun _ => True) v xs := by
  have h1 := Kd.R_mono (Kd.R_bound h) (ok' := fun k => k ≠ b) (fun k hk => by have := hk.2.1; omega)
  exact Kd.R_mono (Kd.R_far (p := ⟨b, 2, none⟩) (Kd.R_far (p := ⟨b, 1, none⟩) (Kd.R_far (p := ⟨b, 0, none⟩) h1 (fun _ hk => hk) u0) (fun _ hk => hk) u1) (fun _ hk => hk) u2) (fun _ _ => trivial)
set_option maxRecDepth 100000 in
set_option maxHeartbeats 8000000 in
theorem tilted_calls (a0 a1 dir : Int) (A2 : Option Addr) (c2 : Nat) (l2 : List Int) (m : List (Nat × Nat)) (w : World) (hr2 : Kd.C (Kd.int .u8) w A2 l2.length l2) (hc2 : l2.length ≤ c2)
    (hl : 0 < l2.length ∧ l2.length < 65536) (hn : (m.map Prod.fst).Nodup) (hs : (m.map Prod.snd).Nodup) (hlt : ∀ p ∈ m, p.1 < l2.length ∧ p.2 < l2.length)
    (hcall : ∀ W, Below w.heap.size w W → Calls Tryz.prog 108 #[.agg #[.int .i64 a0, .int .i64 a1, .slice A2 l2.length c2], .int .u8 dir] W fun e w' => ∃ b, e = .returned (.map (some b)) ∧ W.heap.size ≤ b ∧ MapAt w' b m ∧ Below W.heap.size W w') :
    Calls Tryz.prog 109 #[.agg #[.int .i64 a0, .int .i64 a1, .slice A2 l2.length c2], .int .u8 dir] w fun e w' => ∃ v2_ : Value, e = .returned (.agg #[.int .i64 a0, .int .i64 a1, v2_]) ∧ Kd.R (Kd.int .u8) 5 w' w.heap.size (fun _ => True) v2_ (putAll l2 (wallsL l2) m) ∧ Below w.heap.size w w' := by
  have HR := am hr2
  have HC := am hc2
  have HL := am hl
  have HN := am (And.intro hn (And.intro hs hlt))
  have HB := am (Below.refl w.heap.size w)
  have HCALL := am hcall
  clear hr2 hc2 hl hn hs hlt hcall
  go_enter Tryz.func109, Tryz.ntmps109
  go_wp2_with (first
    | ((with_reducible refine gate_dst (N := 2) rfl ?_); refine box_event ?hg (N := 2) ?hd (cs := #[.int .i64 a0, .int .i64 a1, .slice A2 l2.length c2]) (t := 93) ?hr ?_; (case hd => rfl); (case hg => rfl); (case hr => first | (go_simp; done) | (go_simp; rfl)); intro b1 hg1 w3 hbox1 hb1; have L0 := am (blk_lt hbox1); have G1 := am hg1; have X1 := am hbox1; have B1 := am hb1; clear hg1 hbox1 hb1)
    | ((with_reducible refine gate_dst (N := 4) rfl ?_); refine box_event ?hg (N := 4) ?hd (cs := #[.int .i64 0, .int .i64 0, .slice none 0 0]) (t := 93) ?hr ?_; (case hd => rfl); (case hg => rfl); (case hr => first | (go_simp; done) | (go_simp; rfl)); intro b2 hg2 w4 hbox2 hb2; have G2 := am hg2; have X2 := am hbox2; have B2 := am (below_step B1.out hb2); have n1 := am (blk_below X1.out hb2); clear X1; have X1 := n1; clear n1; clear hg2 hbox2 hb2))
  have z10 : w4.cell? ⟨b1, 0, none⟩ = some (.int .i64 a0) := (blk_cell X1.out 0).trans rfl
  have z11 : w4.cell? ⟨b1, 1, none⟩ = some (.int .i64 a1) := (blk_cell X1.out 1).trans rfl
  have z12 : w4.cell? ⟨b1, 2, none⟩ = some (.slice A2 l2.length c2) := (blk_cell X1.out 2).trans rfl
  have L1 := am (blk_lt X1.out)
  have hb12 : b1 ≠ b2 := by have h1 := L0.out; have h2 := G2.out; omega
  have HSL := fun W (h : Below w.heap.size w W) => HCALL.out W h
  go_region_held3 (fun w' => w'.cell? ⟨b1, 0, none⟩ = some (.int .i64 a0) ∧ w'.cell? ⟨b1, 1, none⟩ = some (.int .i64 a1) ∧ w'.cell? ⟨b1, 2, none⟩ = some (.slice A2 l2.length c2)) (first | go_keep | exact ⟨y10, y11, y12⟩ | exact ⟨x10, x11, x12⟩ | exact ⟨set3_cell hb12 _ _ _ 0 x10, set3_cell hb12 _ _ _ 1 x11, set3_cell hb12 _ _ _ 2 x12⟩)
    ((first
      | (go_simp; go_at_call 108; refine (HSL _ (below_drew1 B2.out)).mono ?_; rintro e w5 ⟨b, rfl, hb0, hm, hb⟩; have Y5 := blk_below (w := w4.drew) X1.out hb; have y10 : w5.cell? ⟨b1, 0, none⟩ = some (.int .i64 a0) := (blk_cell Y5 0).trans rfl; have y11 : w5.cell? ⟨b1, 1, none⟩ = some (.int .i64 a1) := (blk_cell Y5 1).trans rfl; have y12 : w5.cell? ⟨b1, 2, none⟩ = some (.slice A2 l2.length c2) := (blk_cell Y5 2).trans rfl; have B5 := am (below_step (below_drew1 B2.out) hb); have M5 := am hm; have X5 := am (blk_below (w := w4.drew) X2.out hb); have Y6 := am Y5; clear hb0 hm hb Y5)
      | (go_simp; go_at_call 152; refine (impl_tray_carried.calls a0 a1 A2 c2 l2 b m _ (Kd.C_below HR.out B5.out) HC.out HL.out M5.out HN.out.1 HN.out.2.1 HN.out.2.2).mono ?_; rintro e w6 ⟨v, rfl, ho, hb⟩; obtain ⟨Ao, co, rfl⟩ := Kd.R_slice ho; have HO := am ho; have B6 := am (below_step B5.out hb); have X6 := am (blk_below X5.out hb); have Z6 := blk_below Y6.out hb; have x10 : w6.cell? ⟨b1, 0, none⟩ = some (.int .i64 a0) := (blk_cell Z6 0).trans rfl; have x11 : w6.cell? ⟨b1, 1, none⟩ = some (.int .i64 a1) := (blk_cell Z6 1).trans rfl; have x12 : w6.cell? ⟨b1, 2, none⟩ = some (.slice A2 l2.length c2) := (blk_cell Z6 2).trans rfl; have d0 : w6.cell? ⟨b2, 0, none⟩ = some (.int .i64 0) := (blk_cell X6.out 0).trans rfl; have d1 : w6.cell? ⟨b2, 1, none⟩ = some (.int .i64 0) := (blk_cell X6.out 1).trans rfl; have d2 : w6.cell? ⟨b2, 2, none⟩ = some (.slice none 0 0) := (blk_cell X6.out 2).trans rfl; have f0 := blk_frozen X6.out 0; have f1 := blk_frozen X6.out 1; have f2 := blk_frozen X6.out 2; clear ho hb Z6)))
  obtain ⟨n, hn⟩ : ∃ n, (putAll l2 (wallsL l2) m).length = n := ⟨_, rfl⟩
  have h2w : w.heap.size ≤ b2 := by rw [G2.out]; exact B1.out.size
  try simp only [hn]
  go_wp2
  have hb25 : b2 < w5.heap.size := blk_lt X5.out
  refine bodyPost_ret (results_cell_row rfl _ _ b2 93 #[.int .i64 a0, .int .i64 a1, .slice Ao n co] (0, 0) _ rfl (by exact blk_put (blk_put (blk_put X6.out 0 (.int .i64 a0) rfl) 1 (.int .i64 a1) rfl) 2 (.slice Ao n co) rfl) Tryz.underlying93 rfl (by kernel_rfl)) rfl ?_
  refine ⟨.slice Ao n co, rfl, ?_, ((B6.out.setCell (p := ⟨b2, 0, none⟩) h2w _).setCell (p := ⟨b2, 1, none⟩) h2w _).setCell (p := ⟨b2, 2, none⟩) h2w _⟩
  have hO := HO.out
  rw [hn] at hO
  exact Kd.R_lower (R_set3 hO hb25 _ _ _) B5.out.size
end Go.Proofs.YtdffgeoegdkiaaaGreatDoor

namespace Go.Proofs.YtdffgeoegdkiaaaGreatDoor
open Go.RowKit Go.Proofs.YtdffgeoegdkiaaaGreatDoorW.PrintWords Go.Proofs.YtdffgeoegdkiaaaGreatDoorW.PrintLast Go.Proofs.YtdffgeoegdkiaaaGreatDoorW.PrintMore Go.Lib Go.Proofs.YtdffgeoegdkiaaaGreatDoor.F
theorem stretches_calls {w h d : Nat} {cs : List Int} (hw : 1 ≤ w ∧ w ≤ 7) (hh : 1 ≤ h ∧ h ≤ 7) (hl : cs.length = w * h) (hd : d < 4) (A2 : Option Addr) (c2 : Nat) (W : World) (hr2 : Kd.C (Kd.int .u8) W A2 cs.length cs) (hc2 : cs.length ≤ c2) :
    Calls Tryz.prog 151 #[.agg #[.int .i64 w, .int .i64 h, .slice A2 cs.length c2], .int .u8 (dirB d)] W fun e w' => ∃ v, e = .returned v ∧ Kd.R (Kd.slice 3 (Kd.int .i64)) 28 w' W.heap.size (fun _ => True) v ((strD w h d cs).map castsI) ∧ Below W.heap.size W w' := by
  obtain ⟨k, hk⟩ := Ev.rounds (strI_ev hw hh hl hd)
  have hp := strD_perm hd cs (w := w) (h := h)
  obtain ⟨f1, f2, f3, f4, f5⟩ := strD_facts hw hh hl hd
  have hne := strI_ne (w := w) (h := h) (d := d) (cs := cs)
  have hml : ∀ st ∈ strI w h d cs, Lib.minOf (castsI st) = ((leastL st : Nat) : Int) ∧ leastL st < 65536 := fun st hs => by
    have h1 := f2 st (hp.mem_iff.2 hs) _ (leastL_mem (hne st hs))
    have h2 := f1.2
    exact ⟨minOf_casts (hne st hs), by omega⟩
  refine (impl_tray_strI.calls k w h A2 c2 cs (dirB d) _ W hr2 hc2 (fun x hx => ?_) (by rw [List.length_map, ← hp.length_eq]; exact f4) (fun x hx => ?_) hk).mono ?_
  · obtain ⟨st, hs, rfl⟩ := List.mem_map.1 hx
    intro e
    have := hne st hs
    unfold castsI at e
    exact this (List.map_eq_nil_iff.1 e)
  · obtain ⟨st, hs, rfl⟩ := List.mem_map.1 hx
    obtain ⟨h1, h2⟩ := hml st hs
    rw [h1]; omega
  · rintro e w' ⟨v, rfl, ⟨ys, hp', hs', hR⟩, hb⟩
    obtain ⟨T, rfl, hT, hsT⟩ := sorted_back hne hp' hs'
    rw [strD_of hd hT hsT] at hR
    exact ⟨v, rfl, hR, hb⟩
def impl_tray_tilted.f (a0 a1 : Int) (l : List Int) (c : Int) : Option (Int × Int × List Int) := if gridI a0 a1 l ∧ isDirC c = true then some (a0, a1, tiltD a0.toNat a1.toNat (dirIx c).toNat l) else none
theorem impl_tilted_eq {w h : Nat} {cs : List Int} {c : Int} (hw : 1 ≤ w ∧ w ≤ 7) (hh : 1 ≤ h ∧ h ≤ 7) (hl : cs.length = w * h) (hc : isDirC c = true) : impl_tray_tilted.f w h cs c = some ((w : Int), (h : Int), tiltD w h (dirIx c).toNat cs) := if_pos ⟨gridI_nat hw hh hl, hc⟩
theorem slide_calls {w h d : Nat} {cs : List Int} (hw : 1 ≤ w ∧ w ≤ 7) (hh : 1 ≤ h ∧ h ≤ 7) (hl : cs.length = w * h) (hd : d < 4) (A2 : Option Addr) (c2 : Nat) (W : World) (hr2 : Kd.C (Kd.int .u8) W A2 cs.length cs) (hc2 : cs.length ≤ c2) :
    Calls Tryz.prog 108 #[.agg #[.int .i64 w, .int .i64 h, .slice A2 cs.length c2], .int .u8 (dirB d)] W fun e w' => ∃ b, e = .returned (.map (some b)) ∧ W.heap.size ≤ b ∧ MapAt w' b (mvD w h d cs) ∧ Below W.heap.size W w' := by
  obtain ⟨f1, f2, f3, f4, f5⟩ := strD_facts hw hh hl hd
  exact impl_tray_slide.calls w h (dirB d) A2 c2 cs (strD w h d cs) W hr2 hc2 f1 f2 f3 f4 f5 fun W' hW => stretches_calls hw hh hl hd A2 c2 W' (Kd.C_below hr2 hW) hc2
theorem impl_tray_tilted.calls (a0_0 a0_1 : Int) (A0_2 : Option Addr) (c0_2 : Nat) (l0_2 : List Int) (a1 : Int) (r1 r2 : Int) (r3 : List Int) (w : World) (hr0_2 : Kd.C (Kd.int .u8) w A0_2 l0_2.length l0_2) (hc0_2 : l0_2.length ≤ c0_2) (h : impl_tray_tilted.f a0_0 a0_1 l0_2 a1 = some (r1, r2, r3)) :
    Calls Tryz.prog 109 #[.agg #[.int .i64 a0_0, .int .i64 a0_1, .slice A0_2 l0_2.length c0_2], .int .u8 a1] w fun e w' => ∃ v2_ : Value, e = .returned (.agg #[.int .i64 r1, .int .i64 r2, v2_]) ∧ Kd.R (Kd.int .u8) 5 w' w.heap.size (fun _ => True) v2_ r3 ∧ Below w.heap.size w w' := by
  unfold impl_tray_tilted.f at h
  split at h
  case isFalse => cases h
  rename_i hc
  obtain ⟨⟨hw, hh, hl⟩, hdir⟩ := hc
  injection h with h
  injection h with h1 h
  injection h with h2 h3
  subst h1 h2 h3
  obtain ⟨W, rfl⟩ : ∃ n : Nat, a0_0 = n := ⟨a0_0.toNat, by omega⟩
  obtain ⟨H, rfl⟩ : ∃ n : Nat, a0_1 = n := ⟨a0_1.toNat, by omega⟩
  obtain ⟨e1, hd', _⟩ := dirB_ix hdir
  generalize (dirIx a1).toNat = d at *
  subst e1
  simp only [Int.toNat_natCast] at hl ⊢
  have hw' : 1 ≤ W ∧ W ≤ 7 := by omega
  have hh' : 1 ≤ H ∧ H ≤ 7 := by omega
  obtain ⟨f1, _⟩ := strD_facts hw' hh' hl hd'
  exact tilted_calls W H (dirB d) A0_2 c0_2 l0_2 (mvD W H d l0_2) w hr0_2 hc0_2 f1 (mv_fst hd') (mv_snd hd') (fun p hp => by
    have := mv_mem hd' hp
    rw [hl]; exact ⟨this.1, this.2.2.1⟩) (fun W' hW => slide_calls hw' hh' hl hd' A0_2 c0_2 W' (Kd.C_below hr0_2 hW) hc0_2)
end Go.Proofs.YtdffgeoegdkiaaaGreatDoor

namespace Go.Proofs.YtdffgeoegdkiaaaGreatDoor.F
open Go.Proofs.YtdffgeoegdkiaaaGreatDoor
open Go.RowKit Go.Proofs.YtdffgeoegdkiaaaGreatDoorW.PrintWords Go.Proofs.YtdffgeoegdkiaaaGreatDoorW.PrintLast Go.Proofs.YtdffgeoegdkiaaaGreatDoorW.PrintMore
attribute [local go_sem] max2_int min2_int max_two min_two max_three min_three max_four min_four
def impl_tray_tiltedAll.l0 : Nat → List Int → Int → Int → Int → Int → List Int → Option (Int × Int × List Int)
 | 0, _, _, _, _, _, _ => none
 | k + 1, x8, x9, x10, x102000, x102001, x102002 => if x10 < x9 then (if 0 ≤ x10 then (if x10 < (x8.length : Int) then ((impl_tray_tilted.f x102000 x102001 x102002 (rd x8 x10)).bind fun bt107 => (impl_tray_tiltedAll.l0 k x8 x9 (wrap64 (x10 + 1)) bt107.1 bt107.2.1 bt107.2.2)) else (none)) else (none)) else (some (x102000, x102001, x102002))
def impl_tray_tiltedAll.f (k : Nat) (a0_0 : Int) (a0_1 : Int) (l0_2 : List Int) (a1 : ByteArray) : Option (Int × Int × List Int) := (conv_bytes.f a1).bind fun t103 => (impl_tray_tiltedAll.l0 k t103 (t103.length : Int) 0 a0_0 a0_1 l0_2)
theorem impl_tray_tiltedAll.mono_l : ∀ k, (∀ y0 y1 y2 y3 y4 y5, LeO (impl_tray_tiltedAll.l0 k y0 y1 y2 y3 y4 y5) (impl_tray_tiltedAll.l0 (k + 1) y0 y1 y2 y3 y4 y5))
 | 0 => fun _ _ _ _ _ _ r h => by simp [impl_tray_tiltedAll.l0] at h
 | k + 1 => by
  have ih0 := impl_tray_tiltedAll.mono_l k
  ·intro y0 y1 y2 y3 y4 y5
   unfold impl_tray_tiltedAll.l0
   exact mo
theorem impl_tray_tiltedAll.mono : ∀ a0 a1 a2 a3 k, LeO (impl_tray_tiltedAll.f k a0 a1 a2 a3) (impl_tray_tiltedAll.f (k + 1) a0 a1 a2 a3) := by
 intro a0 a1 a2 a3 k
 have ih0 := impl_tray_tiltedAll.mono_l k
 unfold impl_tray_tiltedAll.f
 exact mo
set_option maxHeartbeats 8000000 in
set_option maxRecDepth 100000 in
theorem impl_tray_tiltedAll.calls (k : Nat) (a0_0 : Int) (a0_1 : Int) (P0_2_ : Nat → Prop) (A0_2 : Option Addr) (c0_2 : Nat) (l0_2 : List Int) (a1 : ByteArray) (r1 : Int) (r2 : Int) (r3 : List Int) (w : World) (hs0_2 : Kd.V (Kd.int .u8) 5 w w.heap.size (fun k_ => P0_2_ k_) (.slice A0_2 l0_2.length c0_2) l0_2) (h : impl_tray_tiltedAll.f k a0_0 a0_1 l0_2 a1 = some (r1, r2, r3)) :
  Calls Tryz.prog 90 #[.agg #[.int .i64 a0_0, .int .i64 a0_1, .slice A0_2 l0_2.length c0_2], .string a1] w fun e w' => ∃ v2_ : Value, e = .returned (.agg #[.int .i64 r1, .int .i64 r2, v2_]) ∧ Kd.V (Kd.int .u8) 5 w' w.heap.size (fun k_ => (P0_2_ k_ ∨ w.heap.size ≤ k_)) v2_ r3 ∧ Below w.heap.size w w' := by
 have hu93 := Tryz.underlying93
 have HO0_2 := am (show Kd.V (Kd.int .u8) 5 w w.heap.size (fun k_ => (P0_2_ k_ ∨ w.heap.size ≤ k_)) (.slice A0_2 l0_2.length c0_2) l0_2 from Kd.V_mono hs0_2 (fun k_ hk => .inl hk))
 have HB := am (Below.refl w.heap.size w)
 have H : ((conv_bytes.f a1).bind fun t103 => (impl_tray_tiltedAll.l0 k t103 (t103.length : Int) 0 a0_0 a0_1 l0_2)) = some (r1, r2, r3) := h
 clear h
 obtain ⟨t103, A30, H⟩ := Option.bind_eq_some_iff.mp H
 have A3 := am A30
 clear A30
 have H' := am H
 clear H
 go_enter Tryz.func90, Tryz.ntmps90
 go_wp2_with (first | ((with_reducible refine gate_dst (N := 2) rfl ?_); refine box_event ?hg (N := 2) ?hd (cs := #[.int .i64 a0_0, .int .i64 a0_1, .slice A0_2 l0_2.length c0_2]) (t := 93) ?hr ?_; (case hd => rfl); (case hg => rfl); (case hr => exact aq16); intro gb101 hg w4 hbox hb; have n0_ := am (Kd.V_below (Kd.V_elderB aq54 gb101 (Nat.le_of_eq hg.symm)) hb); have n1_ := am (below_step aq1 hb); have n2_ := am (hbox); have n3_ := am ((by rw [hg]; exact (below_size aq1) : w.heap.size ≤ gb101)); have n4_ := am ((by rw [hg]; exact (below_size aq1) : w.heap.size ≤ gb101)); clear HO0_2; clear HB; have HO0_2 := n0_; have HB := n1_; have BK101 := n2_; have GW101 := n3_; have GE101 := n4_; clear n0_ n1_ n2_ n3_ n4_; clear hb hbox hg) | ((with_reducible refine gate_dst (N := 4) rfl ?_); refine box_event ?hg (N := 4) ?hd (cs := #[.int .i64 0, .int .i64 0, .slice none 0 0]) (t := 93) ?hr ?_; (case hd => rfl); (case hg => rfl); (case hr => exact aq16); intro gb102 hg w5 hbox hb; have n0_ := am (Kd.V_below (Kd.V_elderB aq54 gb102 (Nat.le_of_eq hg.symm)) hb); have n1_ := am (blk_below (g := gb101) (o := .cells #[.int .i64 a0_0, .int .i64 a0_1, .slice A0_2 l0_2.length c0_2] 93 (0, 0)) aq2 hb); have n2_ := am (below_step aq0 hb); have n3_ := am (hbox); have n4_ := am ((by rw [hg]; exact (below_size aq0) : w.heap.size ≤ gb102)); have n5_ := am ((by rw [hg]; exact (below_size aq0) : w.heap.size ≤ gb102)); have n6_ := am ((by rw [hg]; exact Nat.ne_of_lt (blk_lt (g := gb101) (o := .cells #[.int .i64 a0_0, .int .i64 a0_1, .slice A0_2 l0_2.length c0_2] 93 (0, 0)) aq2) : gb101 ≠ gb102)); have n7_ := am ((by rw [hg]; exact Nat.ne_of_gt (blk_lt (g := gb101) (o := .cells #[.int .i64 a0_0, .int .i64 a0_1, .slice A0_2 l0_2.length c0_2] 93 (0, 0)) aq2) : gb102 ≠ gb101)); clear HO0_2; clear BK101; clear HB; have HO0_2 := n0_; have BK101 := n1_; have HB := n2_; have BK102 := n3_; have GW102 := n4_; have GE102 := n5_; have NB101_102 := n6_; have NB102_101 := n7_; clear n0_ n1_ n2_ n3_ n4_ n5_ n6_ n7_; clear hb hbox hg) | ((with_reducible refine gate_dst (N := 8) rfl ?_); refine conv_event rfl (N := 8) rfl 9 60 5 _ rfl a1 rfl Tryz.underlying9 Tryz.underlying60 Tryz.underlying5 t103 A3.out ?_; intro v104 w6 ho0 hb; have n0_ := am (Kd.V_below aq54 hb); have n1_ := am (Kd.V_lower (Kd.V_mono (ok' := fun k_ => (P0_2_ k_ ∨ w.heap.size ≤ k_) ∧ k_ ≠ gb101 ∧ k_ ≠ gb102) ho0 (fun k_ hk_ => ⟨(.inr (Nat.le_trans (below_size aq6) hk_)), (Kd.freshB (g := gb101) (o := .cells #[.int .i64 a0_0, .int .i64 a0_1, .slice A0_2 l0_2.length c0_2] 93 (0, 0)) aq2 k_ hk_), (Kd.freshB (g := gb102) (o := .cells #[.int .i64 0, .int .i64 0, .slice none 0 0] 93 (0, 0)) aq13 k_ hk_)⟩)) (below_size aq6)); have n2_ := am (blk_below (g := gb101) (o := .cells #[.int .i64 a0_0, .int .i64 a0_1, .slice A0_2 l0_2.length c0_2] 93 (0, 0)) aq2 hb); have n3_ := am (blk_below (g := gb102) (o := .cells #[.int .i64 0, .int .i64 0, .slice none 0 0] 93 (0, 0)) aq13 hb); have n4_ := am (below_step aq6 hb); clear HO0_2; clear BK101; clear BK102; clear HB; have HO0_2 := n0_; have HO105 := n1_; have BK101 := n2_; have BK102 := n3_; have HB := n4_; clear n0_ n1_ n2_ n3_ n4_; (try clear hb); (try clear hb2); (try clear hk); (try clear hi); (try clear ho0); obtain ⟨Ao7, co7, eo7⟩ := Kd.V_slice HO105.out; subst eo7))
 go_loopg [10] k (fun kq v10 w' => ∃ (x10_1 : Int) (x102000_1 : Int) (x102001_1 : Int) (x102002_1 : List Int) (u102002 : Value), v10 = .int .i64 x10_1 ∧ Aside0 (impl_tray_tiltedAll.l0 kq t103 (t103.length : Int) x10_1 x102000_1 x102001_1 x102002_1 = some (r1, r2, r3)) ∧ Aside0 (kq ≤ k) ∧ Aside0 (Kd.V (Kd.int .u8) 5 w' w.heap.size (fun k_ => (P0_2_ k_ ∨ w.heap.size ≤ k_) ∧ k_ ≠ gb101 ∧ k_ ≠ gb102) (.slice Ao7 t103.length co7) t103) ∧ Aside0 (Kd.V (Kd.int .u8) 5 w' w.heap.size (fun k_ => (P0_2_ k_ ∨ w.heap.size ≤ k_) ∧ k_ ≠ gb101 ∧ k_ ≠ gb102) u102002 x102002_1) ∧ Aside0 (w'.heap[gb101]? = some (.cells #[.int .i64 x102000_1, .int .i64 x102001_1, u102002] 93 (0, 0))) ∧ Aside0 (w'.heap[gb102]? = some (.cells #[.int .i64 0, .int .i64 0, (.slice none 0 0)] 93 (0, 0))) ∧ Aside0 (Below w.heap.size w w'))
 case atStart => exact ⟨(0), (a0_0), (a0_1), (l0_2), (.slice A0_2 l0_2.length c0_2), aq7, H', ⟨Nat.le_refl _⟩, ⟨by (with_reducible repeat (first | apply Kd.V_alloc | apply Kd.V_drewN | apply Kd.V_drew)); exact HO105.out⟩, ⟨aq99⟩, ⟨aq2⟩, ⟨aq13⟩, ⟨aq6⟩⟩
 case round =>
  clear H'
  try clear p2
  obtain ⟨x10_1, x102000_1, x102001_1, x102002_1, u102002, rfl, HA, HK1, HO_8, HO_102002, BK101, BK102, HB⟩ := hrel
  cases gk with
  | zero => exact absurd HA.out (by simp [impl_tray_tiltedAll.l0])
  | succ k1 =>
   have H := HA.out
   clear HA
   simp only [impl_tray_tiltedAll.l0] at H
   by_cases c8 : x10_1 < (t103.length : Int)
   ·rw [if_pos c8] at H
    have c8b0 := decide_eq_true c8
    clear c8
    by_cases c9 : 0 ≤ x10_1
    ·rw [if_pos c9] at H
     have c9b0 := decide_eq_true c9
     clear c9
     by_cases c10 : x10_1 < (t103.length : Int)
     ·rw [if_pos c10] at H
      have c10b0 := decide_eq_true c10
      clear c10
      replace H := Option.bind_eq_some_iff.mp H
      obtain ⟨⟨t107, t108, t109⟩, A110, H⟩ := H
      replace H : (impl_tray_tiltedAll.l0 k1 t103 (t103.length : Int) (wrap64 (x10_1 + 1)) t107 t108 t109) = some (r1, r2, r3) := H
      have A11 := am A110
      clear A110
      have H' := am H
      clear H
      have p106 : 0 ≤ (x10_1 : Int) := of_decide_eq_true aq4
      have q106 : x10_1 < (t103.length : Int) := of_decide_eq_true aq4
      obtain ⟨ad106, e106, hx106_0⟩ := Kd.at_int (Kd.V_reads' HO_8.out).2.2 x10_1 p106 q106
      cases e106
      replace p106 := eq_true p106
      replace q106 := eq_true q106
      have hnb12 := NB101_102.out
      have hnc12 := NB102_101.out
      obtain ⟨hcz13_0, hcz13_1, hcz13_2, hfz13_0, hfz13_1, hfz13_2⟩ := blk3_ BK101.out
      obtain ⟨Ao14, co14, eo14⟩ := Kd.V_slice HO_102002.out
      subst eo14
      go_wp2_with (first | ((with_reducible refine gate_callee (f := 109) rfl ?_); refine goesL_ (some 16) rfl rfl Tryz.func109 (by kernel_rfl) rfl #[.agg #[.int .i64 x102000_1, .int .i64 x102001_1, .slice Ao14 x102002_1.length co14], .int .u8 (rd t103 x10_1)] rfl aq5 ?_; (with_reducible refine (impl_tray_tilted.calls x102000_1 x102001_1 _ _ x102002_1 (rd t103 x10_1) t107 t108 t109 _ ?side1 ?side2 A11.out).mono ?_); (case side1 => exact aq88); (case side2 => exact (Kd.V_reads' HO_102002.out).2.1); rintro e w15 ⟨v110, rfl, ho0, hb⟩; refine ⟨_, rfl, ?_⟩; have n0_ := am (Kd.V_elder' (by (with_reducible repeat (first | apply Kd.V_alloc | apply Kd.V_drewN | apply Kd.V_drew)); exact HO_8.out) (Kd.R_base ho0) hb); have n1_ := am (Kd.V_elder' (by (with_reducible repeat (first | apply Kd.V_alloc | apply Kd.V_drewN | apply Kd.V_drew)); exact HO_102002.out) (Kd.R_base ho0) hb); have n2_ := am (Kd.R_lower (Kd.R_newM (M := fun k_ => (w.heap.size ≤ k_)) ho0 (below_size aq6) (fun k_ h_ => h_)) (below_size aq6)); have n3_ := am (blk_below (g := gb101) (o := .cells #[.int .i64 x102000_1, .int .i64 x102001_1, .slice Ao14 x102002_1.length co14] 93 (0, 0)) aq2 hb); have n4_ := am (blk_below (g := gb102) (o := .cells #[.int .i64 0, .int .i64 0, .slice none 0 0] 93 (0, 0)) aq13 hb); have n5_ := am (below_step aq6 hb); clear HO_8; clear HO_102002; clear BK101; clear BK102; clear HB; have HO_8 := n0_; have HO_102002 := n1_; have HO111 := n2_; have BK101 := n3_; have BK102 := n4_; have HB := n5_; clear n0_ n1_ n2_ n3_ n4_ n5_; (try clear hb); (try clear hb2); (try clear hk); (try clear hi); (try clear ho0); obtain ⟨hcz16_0, hcz16_1, hcz16_2, hfz16_0, hfz16_1, hfz16_2⟩ := blk3_ BK101.out; obtain ⟨Ao17, co17, eo17⟩ := Kd.R_slice HO111.out; subst eo17))
      go_roundg k1
      case measure => have := HK1.out; omega
      case rel => exact ⟨(wrap64 (x10_1 + 1)), (t107), (t108), (t109), (.slice Ao17 t109.length co17), aq7, H', ⟨aq73⟩, ⟨by (with_reducible repeat (first | apply Kd.V_alloc | apply Kd.V_drewN | apply Kd.V_drew)); exact Kd.V_mono (Kd.V_far (p := ⟨gb101, 2, none⟩) (Kd.V_far (p := ⟨gb101, 1, none⟩) (Kd.V_far (p := ⟨gb101, 0, none⟩) (Kd.V_mono HO_8.out (fun k_ hk => (⟨hk, hk.1.2.1⟩ : _ ∧ k_ ≠ gb101))) (fun _ hk => hk.2) (.int .i64 t107)) (fun _ hk => hk.2) (.int .i64 t108)) (fun _ hk => hk.2) (.slice Ao17 t109.length co17)) (fun _ hk => ⟨hk.1.1.1, ⟨hk.1.1.2.1, hk.1.1.2.2⟩⟩)⟩, ⟨Kd.V_mono (Kd.R_V (Kd.R_far (p := ⟨gb101, 2, none⟩) (Kd.R_far (p := ⟨gb101, 1, none⟩) (Kd.R_far (p := ⟨gb101, 0, none⟩) (Kd.R_types (Kd.R_types (Kd.R_types HO111.out BK101.out (by decide)) BK102.out (by decide)) BK101.out (by decide)) (fun _ hk => hk.2) (.int .i64 t107)) (fun _ hk => hk.2) (.int .i64 t108)) (fun _ hk => hk.2) (.slice Ao17 t109.length co17))) (fun k_ hk => by first | exact ⟨.inr hk.1.1.1.1.1.1, hk.1.1.2, hk.2⟩ | exact ⟨.inr hk.1.1.1.1.1, hk.1.1.2, hk.2⟩ | exact ⟨.inr hk.1.1.1.1, hk.1.1.2, hk.2⟩ | exact ⟨.inr hk.1.1.1.1.1.1.1, hk.1.1.2, hk.2⟩ | exact ⟨(.inr (hk.1)), hk.2⟩ | exact (.inr (hk)) | exact ⟨.inr hk.1.1.1.1, hk.2, hk.1.2⟩ | exact ⟨.inr hk.1.1.1.1, hk.1.1.2⟩ | exact ⟨.inr hk.1.1.1, hk.1.2⟩ | exact ⟨.inr hk.1.1.1, hk.2⟩)⟩, ⟨by (with_reducible repeat (first | refine blk_drewN ?_ _ | refine blk_drew ?_ | refine blk_alloc ?_ _)); refine blk_put (cs := #[.int .i64 t107, .int .i64 t108, .slice Ao14 x102002_1.length co14]) ?_ 2 _ rfl; (with_reducible repeat (first | refine blk_drewN ?_ _ | refine blk_drew ?_ | refine blk_alloc ?_ _)); refine blk_put (cs := #[.int .i64 t107, .int .i64 x102001_1, .slice Ao14 x102002_1.length co14]) ?_ 1 _ rfl; (with_reducible repeat (first | refine blk_drewN ?_ _ | refine blk_drew ?_ | refine blk_alloc ?_ _)); refine blk_put (cs := #[.int .i64 x102000_1, .int .i64 x102001_1, .slice Ao14 x102002_1.length co14]) ?_ 0 _ rfl; (with_reducible repeat (first | refine blk_drewN ?_ _ | refine blk_drew ?_ | refine blk_alloc ?_ _)); exact BK101.out⟩, ⟨aq46⟩, ⟨aq6⟩⟩
     ·rw [if_neg c10] at H
      exact absurd H (by simp)
    ·rw [if_neg c9] at H
     exact absurd H (by simp)
   ·rw [if_neg c8] at H
    have c8b0 := decide_eq_false c8
    clear c8
    simp only [Option.some.injEq, Prod.mk.injEq] at H
    obtain ⟨rfl, rfl, rfl⟩ := H
    have hnb18 := NB101_102.out
    have hnc18 := NB102_101.out
    obtain ⟨hcz19_0, hcz19_1, hcz19_2, hfz19_0, hfz19_1, hfz19_2⟩ := blk3_ BK101.out
    obtain ⟨hcz20_0, hcz20_1, hcz20_2, hfz20_0, hfz20_1, hfz20_2⟩ := blk3_ BK102.out
    obtain ⟨Ao21, co21, eo21⟩ := Kd.V_slice HO_102002.out
    subst eo21
    go_wp2
    refine bodyPost_ret (results_cell_row rfl _ _ gb102 93 #[.int .i64 x102000_1, .int .i64 x102001_1, .slice Ao21 x102002_1.length co21] (0, 0) _ rfl aq39 Tryz.underlying93 rfl (by kernel_rfl)) rfl ?_
    exact ⟨_, aq8, aq55, aq6⟩
def spec_tiRun.l0 : Nat → ByteArray → Int → Int → Int → List Int → Option (Int × Int × List Int)
 | 0, _, _, _, _, _ => none
 | k + 1, x1, x5, x102000, x102001, x102002 => if x5 < (x1.size : Int) then (if 0 ≤ x5 then (if x5 ≤ (wrap64 (x5 + 1)) then (if (wrap64 (x5 + 1)) ≤ (x1.size : Int) then ((spec_tiDir.f k (x1.extract (x5 : Int).toNat ((wrap64 (x5 + 1)) : Int).toNat)).bind fun t103 => ((spec_tiTilt.f x102000 x102001 x102002 t103).bind fun bt104 => (spec_tiRun.l0 k x1 (wrap64 (x5 + 1)) bt104.1 bt104.2.1 bt104.2.2))) else (none)) else (none)) else (none)) else (some (x102000, x102001, x102002))
def spec_tiRun.f (k : Nat) (a0_0 : Int) (a0_1 : Int) (l0_2 : List Int) (a1 : ByteArray) : Option (Int × Int × List Int) := spec_tiRun.l0 k a1 0 a0_0 a0_1 l0_2
theorem spec_tiRun.mono_l : ∀ k, (∀ y0 y1 y2 y3 y4, LeO (spec_tiRun.l0 k y0 y1 y2 y3 y4) (spec_tiRun.l0 (k + 1) y0 y1 y2 y3 y4))
 | 0 => fun _ _ _ _ _ r h => by simp [spec_tiRun.l0] at h
 | k + 1 => by
  have ih0 := spec_tiRun.mono_l k
  ·intro y0 y1 y2 y3 y4
   unfold spec_tiRun.l0
   have im0 := @spec_tiDir.mono; exact mo
theorem spec_tiRun.mono : ∀ a0 a1 a2 a3 k, LeO (spec_tiRun.f k a0 a1 a2 a3) (spec_tiRun.f (k + 1) a0 a1 a2 a3) := by
 intro a0 a1 a2 a3 k
 have ih0 := spec_tiRun.mono_l k
 unfold spec_tiRun.f
 have im0 := @spec_tiDir.mono; exact mo
def spec_tiRun.T4 : Bool × List (List Nat × List Nat) := (true, [([], []), ([], []), ([], []), ([], []), ([3], [3]), ([1, 2, 4], [1, 2, 4]), ([5], [5]), ([0, 6, 6], [0, 6]), ([7, 7, 0, 1, 2, 3, 4, 5, 6, 7], [7])])
def spec_tiRun.B4 : List Nat := [0, 0, 0, 0, 8, 30, 62, 127, 255]
theorem spec_tiRun.tab4 : rtab .any (opsOf Tryz.f99 4) = spec_tiRun.T4 := by kernel_rfl
theorem spec_tiRun.bits4 : waitsOk spec_tiRun.T4.2 spec_tiRun.B4 = true := by kernel_rfl
set_option maxHeartbeats 8000000 in
set_option maxRecDepth 100000 in
theorem spec_tiRun.calls (k : Nat) (a0_0 : Int) (a0_1 : Int) (P0_2_ : Nat → Prop) (A0_2 : Option Addr) (c0_2 : Nat) (l0_2 : List Int) (a1 : ByteArray) (r1 : Int) (r2 : Int) (r3 : List Int) (w : World) (hs0_2 : Kd.V (Kd.int .u8) 5 w w.heap.size (fun k_ => P0_2_ k_) (.slice A0_2 l0_2.length c0_2) l0_2) (h : spec_tiRun.f k a0_0 a0_1 l0_2 a1 = some (r1, r2, r3)) :
  Calls Tryz.prog 99 #[.agg #[.int .i64 a0_0, .int .i64 a0_1, .slice A0_2 l0_2.length c0_2], .string a1] w fun e w' => ∃ v2_ : Value, e = .returned (.agg #[.int .i64 r1, .int .i64 r2, v2_]) ∧ Kd.V (Kd.int .u8) 5 w' w.heap.size (fun k_ => (P0_2_ k_ ∨ w.heap.size ≤ k_)) v2_ r3 ∧ Below w.heap.size w w' := by
 have hu62 := Tryz.underlying62
 have HO0_2 := am (show Kd.V (Kd.int .u8) 5 w w.heap.size (fun k_ => (P0_2_ k_ ∨ w.heap.size ≤ k_)) (.slice A0_2 l0_2.length c0_2) l0_2 from Kd.V_mono hs0_2 (fun k_ hk => .inl hk))
 have HB := am (Below.refl w.heap.size w)
 have H : (spec_tiRun.l0 k a1 0 a0_0 a0_1 l0_2) = some (r1, r2, r3) := h
 clear h
 have H' := am H
 clear H
 go_enter Tryz.func99, Tryz.ntmps99
 go_wp2_with (first | ((with_reducible refine gate_dst (N := 2) rfl ?_); refine box_event ?hg (N := 2) ?hd (cs := #[.int .i64 a0_0, .int .i64 a0_1, .slice A0_2 l0_2.length c0_2]) (t := 62) ?hr ?_; (case hd => rfl); (case hg => rfl); (case hr => exact aq16); intro gb101 hg w3 hbox hb; have n0_ := am (Kd.V_below (Kd.V_elderB aq54 gb101 (Nat.le_of_eq hg.symm)) hb); have n1_ := am (below_step aq1 hb); have n2_ := am (hbox); have n3_ := am ((by rw [hg]; exact (below_size aq1) : w.heap.size ≤ gb101)); have n4_ := am ((by rw [hg]; exact (below_size aq1) : w.heap.size ≤ gb101)); clear HO0_2; clear HB; have HO0_2 := n0_; have HB := n1_; have BK101 := n2_; have GW101 := n3_; have GE101 := n4_; clear n0_ n1_ n2_ n3_ n4_; clear hb hbox hg) | ((with_reducible refine gate_dst (N := 4) rfl ?_); refine box_event ?hg (N := 4) ?hd (cs := #[.int .i64 0, .int .i64 0, .slice none 0 0]) (t := 62) ?hr ?_; (case hd => rfl); (case hg => rfl); (case hr => exact aq16); intro gb102 hg w4 hbox hb; have n0_ := am (Kd.V_below (Kd.V_elderB aq54 gb102 (Nat.le_of_eq hg.symm)) hb); have n1_ := am (blk_below (g := gb101) (o := .cells #[.int .i64 a0_0, .int .i64 a0_1, .slice A0_2 l0_2.length c0_2] 62 (0, 0)) aq2 hb); have n2_ := am (below_step aq0 hb); have n3_ := am (hbox); have n4_ := am ((by rw [hg]; exact (below_size aq0) : w.heap.size ≤ gb102)); have n5_ := am ((by rw [hg]; exact (below_size aq0) : w.heap.size ≤ gb102)); have n6_ := am ((by rw [hg]; exact Nat.ne_of_lt (blk_lt (g := gb101) (o := .cells #[.int .i64 a0_0, .int .i64 a0_1, .slice A0_2 l0_2.length c0_2] 62 (0, 0)) aq2) : gb101 ≠ gb102)); have n7_ := am ((by rw [hg]; exact Nat.ne_of_gt (blk_lt (g := gb101) (o := .cells #[.int .i64 a0_0, .int .i64 a0_1, .slice A0_2 l0_2.length c0_2] 62 (0, 0)) aq2) : gb102 ≠ gb101)); clear HO0_2; clear BK101; clear HB; have HO0_2 := n0_; have BK101 := n1_; have HB := n2_; have BK102 := n3_; have GW102 := n4_; have GE102 := n5_; have NB101_102 := n6_; have NB102_101 := n7_; clear n0_ n1_ n2_ n3_ n4_ n5_ n6_ n7_; clear hb hbox hg))
 go_loopg [5] k (fun kq v5 w' => ∃ (x5_1 : Int) (x102000_1 : Int) (x102001_1 : Int) (x102002_1 : List Int) (u102002 : Value), v5 = .int .i64 x5_1 ∧ Aside0 (spec_tiRun.l0 kq a1 x5_1 x102000_1 x102001_1 x102002_1 = some (r1, r2, r3)) ∧ Aside0 (kq ≤ k) ∧ Aside0 (Kd.V (Kd.int .u8) 5 w' w.heap.size (fun k_ => (P0_2_ k_ ∨ w.heap.size ≤ k_) ∧ k_ ≠ gb101 ∧ k_ ≠ gb102) u102002 x102002_1) ∧ Aside0 (w'.heap[gb101]? = some (.cells #[.int .i64 x102000_1, .int .i64 x102001_1, u102002] 62 (0, 0))) ∧ Aside0 (w'.heap[gb102]? = some (.cells #[.int .i64 0, .int .i64 0, (.slice none 0 0)] 62 (0, 0))) ∧ Aside0 (Below w.heap.size w w'))
 case atStart => exact ⟨(0), (a0_0), (a0_1), (l0_2), (.slice A0_2 l0_2.length c0_2), aq7, H', ⟨Nat.le_refl _⟩, ⟨aq99⟩, ⟨aq2⟩, ⟨aq13⟩, ⟨aq6⟩⟩
 case round =>
  clear H'
  try clear p2
  obtain ⟨x5_1, x102000_1, x102001_1, x102002_1, u102002, rfl, HA, HK1, HO_102002, BK101, BK102, HB⟩ := hrel
  cases gk with
  | zero => exact absurd HA.out (by simp [spec_tiRun.l0])
  | succ k1 =>
   have H := HA.out
   clear HA
   simp only [spec_tiRun.l0] at H
   by_cases c5 : x5_1 < (a1.size : Int)
   ·rw [if_pos c5] at H
    have c5b0 := decide_eq_true c5
    clear c5
    by_cases c6 : 0 ≤ x5_1
    ·rw [if_pos c6] at H
     have c6b0 := eq_true c6
     have c6b1 := decide_eq_true c6
     clear c6
     by_cases c7 : x5_1 ≤ (wrap64 (x5_1 + 1))
     ·rw [if_pos c7] at H
      have c7b0 := eq_true c7
      have c7b1 := decide_eq_true c7
      by_cases c8 : (wrap64 (x5_1 + 1)) ≤ (a1.size : Int)
      ·rw [if_pos c8] at H
       have c8b0 := eq_true c8
       have c8b1 := decide_eq_true c8
       obtain ⟨t103, A90, H⟩ := Option.bind_eq_some_iff.mp H
       have A9 := am A90
       clear A90
       replace H := Option.bind_eq_some_iff.mp H
       obtain ⟨⟨t104, t105, t106⟩, A100, H⟩ := H
       replace H : (spec_tiRun.l0 k1 a1 (wrap64 (x5_1 + 1)) t104 t105 t106) = some (r1, r2, r3) := H
       have A10 := am A100
       clear A100
       have H' := am H
       clear H
       try go_wp2
       have n0_ := am (Kd.V_drew HO_102002.out)
       have n1_ := am (blk_drew BK101.out)
       have n2_ := am (blk_drew BK102.out)
       have n3_ := am (below_drew1 HB.out)
       clear HO_102002
       clear BK101
       clear BK102
       clear HB
       have HO_102002 := n0_
       have BK101 := n1_
       have BK102 := n2_
       have HB := n3_
       clear n0_ n1_ n2_ n3_
       refine start_ (n := 9) (S := fun w' => w'.cell? ⟨gb101, 0, none⟩ = some (.int .i64 x102000_1) ∧ w'.cell? ⟨gb101, 1, none⟩ = some (.int .i64 x102001_1) ∧ w'.cell? ⟨gb101, 2, none⟩ = some (u102002)) (ds := [8]) #[false, false, false, false, false, false, false, false, false] (by kernel_rfl) rfl rfl ⟨(blk_cell BK101.out 0).trans rfl, (blk_cell BK101.out 1).trans rfl, (blk_cell BK101.out 2).trans rfl⟩ (fun hHeld => ?_); refine with_tabW spec_tiRun.tab4 spec_tiRun.bits4 (fun HT_ HW_ => ?_)
       generalize wr.drew = w11 at HO_102002 BK101 BK102 HB hHeld ⊢
       refine pure_ (i := 1) (N := some 13) (v := ?_) (a' := ?_) (bm 9 2) rfl rfl (any_of HT_.out (by kernel_rfl)) (fun _ _ _ h => h) (Or.inl ⟨by rfl, ?_⟩) ?_ ?_
       rotate_left
       ·intro w'
        go_simp
        with_reducible rfl
       rotate_left
       ·simp only [Act.put, ac_]
        rfl
       refine pure_ (i := 2) (N := some 14) (v := ?_) (a' := ?_) (bm 9 6) rfl rfl (any_of HT_.out (by kernel_rfl)) (fun _ _ _ h => h) (Or.inl ⟨by rfl, ?_⟩) ?_ ?_
       rotate_left
       ·intro w'
        go_simp
        with_reducible rfl
       rotate_left
       ·simp only [Act.put, ac_]
        rfl
       refine pure_ (i := 3) (N := some 15) (v := ?_) (a' := ?_) (bm 9 14) rfl rfl (any_of HT_.out (by kernel_rfl)) (fun _ _ _ h => h) (Or.inl ⟨by rfl, ?_⟩) ?_ ?_
       rotate_left
       ·intro w'
        go_simp
        with_reducible rfl
       rotate_left
       ·simp only [Act.put, ac_]
        rfl
       refine pure_ (i := 4) (N := some 16) (v := ?_) (a' := ?_) (bm 9 30) rfl rfl (any_of HT_.out (by kernel_rfl)) (fun _ _ _ h => h) (Or.inl ⟨by rfl, ?_⟩) ?_ ?_
       rotate_left
       ·intro w'
        go_simp
        with_reducible rfl
       rotate_left
       ·simp only [Act.put, ac_]
        rfl
       refine pure_ (i := 5) (N := some 17) (v := ?_) (a' := ?_) (bm 9 62) rfl rfl (any_of HT_.out (by kernel_rfl)) (fun _ _ _ h => h) (Or.inl ⟨by rfl, ?_⟩) ?_ ?_
       rotate_left
       ·intro w'
        go_simp
        with_reducible rfl
       rotate_left
       ·simp only [Act.put, ac_]
        rfl
       refine take_ (i := 0) (N := some 12) (v := ?_) (a' := ?_) (bm 9 63) rfl rfl (take_ofW HT_.out HW_.out (by kernel_rfl)) (fun _ _ _ h => h) (Or.inl ⟨by rfl, ?_⟩) hHeld ?_ ?_
       rotate_left
       ·rintro w' ⟨s0, s1, s2⟩
        go_simp
        with_reducible rfl
       rotate_left
       ·simp only [Act.put, ac_]
        rfl
       refine one_ (i := 6) (N := some 18) (bm 9 127) rfl rfl (one_of HT_.out (by kernel_rfl)) (by decide) (fun K hK => ?_)
       refine goes_ Tryz.func86 (by kernel_rfl) rfl #[.string (a1.extract (x5_1 : Int).toNat ((wrap64 (x5_1 + 1)) : Int).toNat)] (by rfl) rfl rfl aq5 ?_
       with_reducible refine (spec_tiDir.calls k1 (a1.extract (x5_1 : Int).toNat ((wrap64 (x5_1 + 1)) : Int).toNat) t103 _ A9.out).mono ?_
       rintro e w' ⟨rfl, ⟨nd, rfl⟩⟩
       refine ⟨_, rfl, ?_⟩
       obtain ⟨Ao12, co12, eo12⟩ := Kd.V_slice HO_102002.out
       (first | subst eo12 | (injection eo12 with f1_ f2_ f3_; have f4_ := f1_.symm; have f5_ := f3_.symm; clear f1_ f2_ f3_; subst f4_; subst f5_))
       refine hK.out _ _ ⟨(blk_cell BK101.out 0).trans rfl, (blk_cell BK101.out 1).trans rfl, (blk_cell BK101.out 2).trans rfl⟩ (fun hHeld => ?_)
       clear hK K
       refine norm_ (a' := ?_) ?_ ?_
       rotate_left
       ·show Act.put _ (some 18) _ = _
        simp only [Act.put, ac_]
        rfl
       refine one_ (i := 7) (N := some 19) (bm 9 255) rfl rfl (one_of HT_.out (by kernel_rfl)) (by decide) (fun K hK => ?_)
       refine goes_ Tryz.func85 (by kernel_rfl) rfl #[.agg #[.int .i64 x102000_1, .int .i64 x102001_1, .slice Ao12 x102002_1.length co12], .int .i64 t103] (by rfl) rfl rfl aq5 ?_
       with_reducible refine (spec_tiTilt.calls x102000_1 x102001_1 _ _ x102002_1 t103 t104 t105 t106 _ ?side1 ?side2 A10.out).mono ?_
       (case side1 => exact aq88)
       (case side2 => exact (Kd.V_reads' HO_102002.out).2.1)
       rintro e w13 ⟨v107, rfl, ho0, hb⟩
       refine ⟨_, rfl, ?_⟩
       have n0_ := am (Kd.V_elder' (by (with_reducible repeat (first | apply Kd.V_alloc | apply Kd.V_drewN | apply Kd.V_drew)); exact HO_102002.out) (Kd.R_base ho0) hb)
       have n1_ := am (Kd.R_lower (Kd.R_newM (M := fun k_ => (w.heap.size ≤ k_)) ho0 (below_size aq6) (fun k_ h_ => h_)) (below_size aq6))
       have n2_ := am (blk_below (g := gb101) (o := .cells #[.int .i64 x102000_1, .int .i64 x102001_1, .slice Ao12 x102002_1.length co12] 62 (0, 0)) aq2 hb)
       have n3_ := am (blk_below (g := gb102) (o := .cells #[.int .i64 0, .int .i64 0, .slice none 0 0] 62 (0, 0)) aq13 hb)
       have n4_ := am (below_step aq6 hb)
       clear HO_102002
       clear BK101
       clear BK102
       clear HB
       have HO_102002 := n0_
       have HO108 := n1_
       have BK101 := n2_
       have BK102 := n3_
       have HB := n4_
       clear n0_ n1_ n2_ n3_ n4_
       (try clear hb)
       (try clear hb2)
       (try clear hk)
       (try clear hi)
       (try clear ho0)
       obtain ⟨Ao16, co16, eo16⟩ := Kd.R_slice HO108.out
       (first | subst eo16 | (injection eo16 with f1_ f2_ f3_; have f4_ := f1_.symm; have f5_ := f3_.symm; clear f1_ f2_ f3_; subst f4_; subst f5_))
       refine hK.out _ _ ⟨(blk_cell BK101.out 0).trans rfl, (blk_cell BK101.out 1).trans rfl, (blk_cell BK101.out 2).trans rfl⟩ (fun hHeld => ?_)
       clear hK K
       refine norm_ (a' := ?_) ?_ ?_
       rotate_left
       ·show Act.put _ (some 19) _ = _
        simp only [Act.put, ac_]
        rfl
       refine last_ (i := 8) (N := none) (bm 9 511) rfl rfl (one_of HT_.out (by kernel_rfl)) (by decide) (fun K hK => ?_)
       have hs14 : w13.cell? ⟨gb101, 0, none⟩ = some (.int .i64 x102000_1) := (blk_cell BK101.out 0).trans rfl
       have hfs14 := blk_frozen BK101.out 0
       have hns14_1 := NB102_101.out
       have hms14_1 := NB101_102.out
       have hs15 : w13.cell? ⟨gb101, 1, none⟩ = some (.int .i64 x102001_1) := (blk_cell BK101.out 1).trans rfl
       have hfs15 := blk_frozen BK101.out 1
       have hns15_1 := NB102_101.out
       have hms15_1 := NB101_102.out
       have hs17 : w13.cell? ⟨gb101, 2, none⟩ = some (.slice Ao12 x102002_1.length co12) := (blk_cell BK101.out 2).trans rfl
       have hfs17 := blk_frozen BK101.out 2
       have hns17_1 := NB102_101.out
       have hms17_1 := NB101_102.out
       refine skip_ (w1 := ?_) (by rfl) rfl ?_ ?_
       rotate_left
       ·go_simp
        rfl
       refine hK.out _ _ ?_
       clear hK K
       refine done_ (done_of HT_.out (by kernel_rfl)) ?_
       try go_wp2
       go_roundg k1
       case measure => have := HK1.out; omega
       case rel => exact ⟨(wrap64 (x5_1 + 1)), (t104), (t105), (t106), (.slice Ao16 t106.length co16), aq7, H', ⟨aq73⟩, ⟨Kd.V_mono (Kd.R_V (Kd.R_far (p := ⟨gb101, 2, none⟩) (Kd.R_far (p := ⟨gb101, 1, none⟩) (Kd.R_far (p := ⟨gb101, 0, none⟩) (Kd.R_types (Kd.R_types (Kd.R_types HO108.out BK101.out (by decide)) BK102.out (by decide)) BK101.out (by decide)) (fun _ hk => hk.2) (.int .i64 t104)) (fun _ hk => hk.2) (.int .i64 t105)) (fun _ hk => hk.2) (.slice Ao16 t106.length co16))) (fun k_ hk => by first | exact ⟨.inr hk.1.1.1.1.1.1, hk.1.1.2, hk.2⟩ | exact ⟨.inr hk.1.1.1.1.1, hk.1.1.2, hk.2⟩ | exact ⟨.inr hk.1.1.1.1, hk.1.1.2, hk.2⟩ | exact ⟨.inr hk.1.1.1.1.1.1.1, hk.1.1.2, hk.2⟩ | exact ⟨(.inr (hk.1)), hk.2⟩ | exact (.inr (hk)) | exact ⟨.inr hk.1.1.1.1, hk.2, hk.1.2⟩ | exact ⟨.inr hk.1.1.1.1, hk.1.1.2⟩ | exact ⟨.inr hk.1.1.1, hk.1.2⟩ | exact ⟨.inr hk.1.1.1, hk.2⟩)⟩, ⟨by (with_reducible repeat (first | refine blk_drewN ?_ _ | refine blk_drew ?_ | refine blk_alloc ?_ _)); refine blk_put (cs := #[.int .i64 t104, .int .i64 t105, .slice Ao12 x102002_1.length co12]) ?_ 2 _ rfl; (with_reducible repeat (first | refine blk_drewN ?_ _ | refine blk_drew ?_ | refine blk_alloc ?_ _)); refine blk_put (cs := #[.int .i64 t104, .int .i64 x102001_1, .slice Ao12 x102002_1.length co12]) ?_ 1 _ rfl; (with_reducible repeat (first | refine blk_drewN ?_ _ | refine blk_drew ?_ | refine blk_alloc ?_ _)); refine blk_put (cs := #[.int .i64 x102000_1, .int .i64 x102001_1, .slice Ao12 x102002_1.length co12]) ?_ 0 _ rfl; (with_reducible repeat (first | refine blk_drewN ?_ _ | refine blk_drew ?_ | refine blk_alloc ?_ _)); exact BK101.out⟩, ⟨aq46⟩, ⟨aq6⟩⟩
      ·rw [if_neg c8] at H
       exact absurd H (by simp)
     ·rw [if_neg c7] at H
      exact absurd H (by simp)
    ·rw [if_neg c6] at H
     exact absurd H (by simp)
   ·rw [if_neg c5] at H
    have c5b0 := decide_eq_false c5
    clear c5
    simp only [Option.some.injEq, Prod.mk.injEq] at H
    obtain ⟨rfl, rfl, rfl⟩ := H
    have hnb18 := NB101_102.out
    have hnc18 := NB102_101.out
    obtain ⟨hcz19_0, hcz19_1, hcz19_2, hfz19_0, hfz19_1, hfz19_2⟩ := blk3_ BK101.out
    obtain ⟨hcz20_0, hcz20_1, hcz20_2, hfz20_0, hfz20_1, hfz20_2⟩ := blk3_ BK102.out
    obtain ⟨Ao21, co21, eo21⟩ := Kd.V_slice HO_102002.out
    subst eo21
    go_wp2
    refine bodyPost_ret (results_cell_row rfl _ _ gb102 62 #[.int .i64 x102000_1, .int .i64 x102001_1, .slice Ao21 x102002_1.length co21] (0, 0) _ rfl aq39 Tryz.underlying62 rfl (by kernel_rfl)) rfl ?_
    exact ⟨_, aq8, aq55, aq6⟩
end Go.Proofs.YtdffgeoegdkiaaaGreatDoor.F

namespace Go.Proofs.YtdffgeoegdkiaaaGreatDoor.F
open Go.RowKit Go.Proofs.YtdffgeoegdkiaaaGreatDoor Go.Proofs.YtdffgeoegdkiaaaGreatDoorW.PrintWords Go.Proofs.YtdffgeoegdkiaaaGreatDoorW.PrintMore
def dirsL (l : List Int) : List Nat := l.map fun c => (dirIx c).toNat
theorem dirsL_length (l : List Int) : (dirsL l).length = l.length := by simp [dirsL]
def wordD (s : ByteArray) : List Nat := dirsL (bytesOf s)
theorem wordD_length (s : ByteArray) : (wordD s).length = s.size := by unfold wordD; rw [dirsL_length, bytesOf_length]
theorem word_size {s : ByteArray} (h : isWordB (bytesOf s) = true) : s.size ≤ 40 := by
  rw [isWordB_iff, bytesOf_length] at h; exact h.1
section
variable {w h : Nat} (hw : 1 ≤ w ∧ w ≤ 7) (hh : 1 ≤ h ∧ h ≤ 7)
include hw hh
theorem tiltedAll_l0 (L : List Int) (hL : L.length < 1000) (hd : ∀ c ∈ L, isDirC c = true) : ∀ (n i : Nat) (cs : List Int), i + n = L.length → cs.length = w * h →
    Ev (fun k => impl_tray_tiltedAll.l0 k L (L.length : Int) (i : Int) w h cs) ((w : Int), (h : Int), runD w h cs (dirsL (L.drop i)))
  | 0, i, cs, hi, hl => by
    rw [List.drop_eq_nil_of_le (by omega)]
    exact Ev.step (fun k => by rw [impl_tray_tiltedAll.l0, if_neg (by omega)]; rfl) (Ev.now _)
  | n + 1, i, cs, hi, hl => by
    have hil : i < L.length := by omega
    have HW : Aside0 (wrap64 ((i : Int) + 1) = ((i + 1 : Nat) : Int)) := ⟨by rw [w64 (by omega) (by omega)]; rfl⟩
    have hrd : rd L (i : Int) = L[i]'hil := by unfold rd; rw [Int.toNat_natCast, List.getD_eq_getElem?_getD, List.getElem?_eq_getElem hil]; rfl
    have hdir := hd _ (List.getElem_mem hil)
    rw [List.drop_eq_getElem_cons hil]
    have ih := tiltedAll_l0 L hL hd n (i + 1) (tiltD w h (dirIx (L[i]'hil)).toNat cs) (by omega) (by rw [tiltD_length]; exact hl)
    refine Ev.step (fun k => ?_) ih
    rw [impl_tray_tiltedAll.l0, if_pos (by omega), if_pos (by omega), if_pos (by omega), hrd, impl_tilted_eq hw hh hl hdir, Option.bind_some, HW.out]
theorem tiltedAll_ev {s : ByteArray} (hs : isWordB (bytesOf s) = true) {cs : List Int} (hl : cs.length = w * h) : Ev (fun k => impl_tray_tiltedAll.f k w h cs s) ((w : Int), (h : Int), runD w h cs (wordD s)) := by
  obtain ⟨h1, h2⟩ := (isWordB_iff _).1 hs
  have hz := word_size hs
  have h0 := tiltedAll_l0 hw hh (bytesOf s) (by omega) h2 (bytesOf s).length 0 cs (by omega) hl
  refine Ev.congr (fun k => ?_) h0
  unfold impl_tray_tiltedAll.f
  rw [conv_bytes.f, if_pos (by omega), Option.bind_some]; rfl
theorem tiRun_l0 {s : ByteArray} (hs : isWordB (bytesOf s) = true) : ∀ (n i : Nat) (cs : List Int), i + n = s.size → cs.length = w * h →
    Ev (fun k => spec_tiRun.l0 k s (i : Int) w h cs) ((w : Int), (h : Int), runD w h cs ((wordD s).drop i))
  | 0, i, cs, hi, hl => by
    rw [List.drop_eq_nil_of_le (by rw [wordD_length]; omega)]
    exact Ev.step (fun k => by rw [spec_tiRun.l0, if_neg (by omega)]; rfl) (Ev.now _)
  | n + 1, i, cs, hi, hl => by
    have hil : i < s.size := by omega
    have hz := word_size hs
    have HW : Aside0 (wrap64 ((i : Int) + 1) = ((i + 1 : Nat) : Int)) := ⟨by rw [w64 (by omega) (by omega)]; rfl⟩
    obtain ⟨_, h2⟩ := (isWordB_iff _).1 hs
    have hb : (bytesOf s).drop i = bt s i :: (bytesOf s).drop (i + 1) := bytesOf_drop s i hil
    have hdir : isDirC (bt s i) = true := h2 _ (List.mem_of_mem_drop (by rw [hb]; exact List.mem_cons_self))
    obtain ⟨q1, q2, q3⟩ := dirB_ix hdir
    have hdw : (wordD s).drop i = (dirIx (bt s i)).toNat :: (wordD s).drop (i + 1) := by
      unfold wordD dirsL
      rw [← List.map_drop, hb, List.map_cons, List.map_drop]
    rw [hdw]
    have ih := tiRun_l0 hs n (i + 1) (tiltD w h (dirIx (bt s i)).toNat cs) (by omega) (by rw [tiltD_length]; exact hl)
    have hT := spec_tiTilt_eq (d := (dirIx (bt s i)).toNat) hw hh hl q2
    rw [show (((dirIx (bt s i)).toNat : Nat) : Int) = dirIx (bt s i) by omega] at hT
    refine Ev.step (f := fun k => (spec_tiDir.f k (s.extract i (i + 1))).bind fun t103 => (spec_tiTilt.f w h cs t103).bind fun bt104 => spec_tiRun.l0 k s ((i + 1 : Nat) : Int) bt104.1 bt104.2.1 bt104.2.2) (fun k => ?_) (Ev.bind (tiDir_ev _ _ (bytes_extract s i hil)) (Ev.congr (fun k => by rw [hT, Option.bind_some]) ih))
    rw [spec_tiRun.l0, if_pos (by omega), if_pos (by omega), HW.out, if_pos (by omega), if_pos (by omega), Int.toNat_natCast, Int.toNat_natCast]
theorem tiRun_ev {s : ByteArray} (hs : isWordB (bytesOf s) = true) {cs : List Int} (hl : cs.length = w * h) : Ev (fun k => spec_tiRun.f k w h cs s) ((w : Int), (h : Int), runD w h cs (wordD s)) := by
  have h0 := tiRun_l0 hw hh hs s.size 0 cs (by omega) hl
  exact h0
end
end Go.Proofs.YtdffgeoegdkiaaaGreatDoor.F

namespace Go.Proofs.YtdffgeoegdkiaaaGreatDoor.F
open Go.Proofs.YtdffgeoegdkiaaaGreatDoor
open Go.RowKit Go.Proofs.YtdffgeoegdkiaaaGreatDoorW.PrintWords Go.Proofs.YtdffgeoegdkiaaaGreatDoorW.PrintLast Go.Proofs.YtdffgeoegdkiaaaGreatDoorW.PrintMore
attribute [local go_sem] max2_int min2_int max_two min_two max_three min_three max_four min_four
def laws_toIntS.l0 : Nat → List Int → List Int → Int → Option (List Int)
 | 0, _, _, _ => none
 | k + 1, x0, x3, x4 => if x4 < (x0.length : Int) then (if 0 ≤ x4 then (if x4 < (x3.length : Int) then (laws_toIntS.l0 k x0 (x3.set (x4 : Int).toNat (rd x0 x4)) (wrap64 (x4 + 1))) else (none)) else (none)) else (some x3)
def laws_toIntS.f (k : Nat) (l0 : List Int) : Option (List Int) := if 0 ≤ (l0.length : Int) then (if ((l0.length : Int) : Int).toNat ≤ 35184372088832 then (laws_toIntS.l0 k l0 (List.replicate ((l0.length : Int) : Int).toNat 0) 0) else (none)) else (none)
theorem laws_toIntS.mono_l : ∀ k, (∀ y0 y1 y2, LeO (laws_toIntS.l0 k y0 y1 y2) (laws_toIntS.l0 (k + 1) y0 y1 y2))
 | 0 => fun _ _ _ r h => by simp [laws_toIntS.l0] at h
 | k + 1 => by
  have ih0 := laws_toIntS.mono_l k
  ·intro y0 y1 y2
   unfold laws_toIntS.l0
   exact mo
theorem laws_toIntS.mono : ∀ a0 k, LeO (laws_toIntS.f k a0) (laws_toIntS.f (k + 1) a0) := by
 intro a0 k
 have ih0 := laws_toIntS.mono_l k
 unfold laws_toIntS.f
 exact mo
set_option maxHeartbeats 8000000 in
set_option maxRecDepth 100000 in
theorem laws_toIntS.calls (k : Nat) (A0 : Option Addr) (c0 : Nat) (l0 : List Int) (r : List Int) (w : World) (hr0 : Kd.C (Kd.int .i64) w A0 l0.length l0) (hc0 : l0.length ≤ c0) (h : laws_toIntS.f k l0 = some r) :
  Calls Tryz.prog 21 #[.slice A0 l0.length c0] w fun e w' => ∃ v0_ : Value, e = .returned (v0_) ∧ Kd.R (Kd.int .i64) 3 w' w.heap.size (fun _ => True) v0_ r ∧ Below w.heap.size w w' := by
 have HR0 := am hr0
 have HC0 := am hc0
 clear hr0 hc0
 have HB := am (Below.refl w.heap.size w)
 have H : (if 0 ≤ (l0.length : Int) then (if ((l0.length : Int) : Int).toNat ≤ 35184372088832 then (laws_toIntS.l0 k l0 (List.replicate ((l0.length : Int) : Int).toNat 0) 0) else (none)) else (none)) = some r := h
 clear h
 by_cases c2 : 0 ≤ (l0.length : Int)
 ·rw [if_pos c2] at H
  have c2b0 := eq_true c2
  have c2b1 := decide_eq_true c2
  clear c2
  by_cases c3 : ((l0.length : Int) : Int).toNat ≤ 35184372088832
  ·rw [if_pos c3] at H
   have c3b0 := eq_true c3
   have c3b1 := decide_eq_true c3
   clear c3
   obtain ⟨y101, hy_⟩ : ∃ y_ : List Int, y_ = (List.replicate ((l0.length : Int) : Int).toNat 0) := ⟨_, rfl⟩
   replace H : (laws_toIntS.l0 k l0 y101 0) = some r := aq3
   have Ny101 := am hy_
   clear hy_
   have H' := am H
   clear H
   go_enter Tryz.func21, Tryz.ntmps21
   go_wp2_with (first | ((with_reducible refine gate_dst (N := 7) rfl ?_); refine Kd.R_make (Kd.int .i64) _ 3 rfl (N := 7) rfl 28 _ _ rfl (l0.length : Int) rfl rfl Tryz.underlying28 (.int .i64 0) 8 info3 rfl (by decide) (by omega) 0 (ok := fun _ => True) (okp := fun _ => True) rfl (fun _ hk => hk) trivial (of_decide_eq_true aq4) (Nat.le_trans (Nat.mul_le_mul_right _ (of_decide_eq_true aq4 : (l0.length : Int).toNat ≤ 35184372088832)) (by omega)) (Below.refl _ _) (Nat.le_refl _) ?_; intro v102 w4 ho5 hb hg_ hnew_; clear hg_ hnew_; (first | rw [← Ny101.out] at ho5 | (simp only [Int.reduceToNat] at ho5; rw [← Ny101.out] at ho5)); have n0_ := am (Kd.R_lower ho5 (below_size aq1)); have n1_ := am (below_step aq1 hb); clear HB; have HO103 := n0_; have HB := n1_; clear n0_ n1_; clear hb ho5))
   go_loopg [4] k (fun kq v4 w' => ∃ (x3_1 : List Int) (x4_1 : Int), v4 = .int .i64 x4_1 ∧ Aside0 (laws_toIntS.l0 kq l0 x3_1 x4_1 = some r) ∧ Aside0 (kq ≤ k) ∧ Aside0 (Kd.R (Kd.int .i64) 3 w' w.heap.size (fun _ => True) v102 x3_1) ∧ Aside0 (Below w.heap.size w w'))
   case atStart => exact ⟨(y101), (0), aq7, H', ⟨Nat.le_refl _⟩, ⟨aq26⟩, ⟨aq1⟩⟩
   case round =>
    clear H'
    try clear c2
    try clear c2b0
    try clear c2b1
    try clear p2
    try clear c3
    try clear c3b0
    try clear c3b1
    obtain ⟨x3_1, x4_1, rfl, HA, HK1, HO_3, HB⟩ := hrel
    cases gk with
    | zero => exact absurd HA.out (by simp [laws_toIntS.l0])
    | succ k1 =>
     have H := HA.out
     clear HA
     simp only [laws_toIntS.l0] at H
     by_cases c6 : x4_1 < (l0.length : Int)
     ·rw [if_pos c6] at H
      have c6b0 := decide_eq_true c6
      clear c6
      by_cases c7 : 0 ≤ x4_1
      ·rw [if_pos c7] at H
       have c7b0 := decide_eq_true c7
       clear c7
       by_cases c8 : x4_1 < (x3_1.length : Int)
       ·rw [if_pos c8] at H
        have c8b0 := decide_eq_true c8
        clear c8
        obtain ⟨y105, hy_⟩ : ∃ y_ : List Int, y_ = (x3_1.set (x4_1 : Int).toNat (rd l0 x4_1)) := ⟨_, rfl⟩
        replace H : (laws_toIntS.l0 k1 l0 y105 (wrap64 (x4_1 + 1))) = some r := aq3
        have Ny105 := am hy_
        clear hy_
        have H' := am H
        clear H
        have p104 : 0 ≤ (x4_1 : Int) := of_decide_eq_true aq4
        have q104 : x4_1 < (l0.length : Int) := of_decide_eq_true aq4
        obtain ⟨ad104, e104, hx104_0⟩ := Kd.at_int HR0.out x4_1 p104 q104
        cases e104
        try replace hx104_0 := (HB.out.cell (World.block_lt_of_cell? w _ hx104_0)).trans hx104_0
        replace p104 := eq_true p104
        replace q104 := eq_true q104
        have p9 : 0 ≤ (x4_1 : Int) := of_decide_eq_true aq4
        have q9 : (x4_1 : Int) < ((x3_1.length : Int) : Int) := of_decide_eq_true aq4
        obtain ⟨go9, co9, eo9, gb9, gl9, cl9, HG9⟩ := Kd.R_form HO_3.out (by omega)
        (first | cases eo9 | (injection eo9 with ea_ en_ ec_; (first | subst ea_ | (injection ea_ with ea_; subst ea_)); subst ec_; clear en_))
        have GB9 := am gb9
        have GG9 := am HG9
        clear gb9 gl9 HG9
        obtain ⟨hx9_0, hf9_0⟩ := Kd.R_celln 0 HO_3.out (x4_1 : Int) p9 q9
        replace p9 := eq_true p9
        replace q9 := eq_true q9
        have HP10 := Kd.R_putg HO_3.out (x4_1 : Int) (rd l0 x4_1)
        go_wp2_with (first | ((with_reducible refine gate_store (t := 3) (p := 20) rfl ?_); refine store_event (t := 3) (p := 20) (v := ?vo_w11) (w1 := (wr.setCell ⟨go9, (x4_1 : Int).toNat, none⟩ (.int .i64 (rd l0 x4_1)))) ?hg ?ho ?hn ?hr ?_; (case ho => rfl); (case hg => rfl); (case hn => rfl); (case hr => exact aq16); intro w11 hw; have hg : wr.grownBy w11 (some go9) := (by rw [hw]; exact HP10.2); have hp_ : Kd.R (Kd.int .i64) 3 w11 w.heap.size (fun _ => True) (.slice (some ⟨go9, 0, none⟩) x3_1.length co9) y105 := (by rw [hw, Ny105.out]; exact HP10.1); clear HP10; have n0_ := am (hp_); have n1_ := am ((by rw [hw]; exact below_set (HB.out) GB9.out : Below w.heap.size w w11)); clear HO_3; clear HB; have HO_3 := n0_; have HB := n1_; clear n0_ n1_; clear hg hw hp_))
        go_roundg k1
        case measure => have := HK1.out; omega
        case rel => exact ⟨(y105), (wrap64 (x4_1 + 1)), aq7, H', ⟨aq73⟩, ⟨aq49⟩, ⟨aq1⟩⟩
       ·rw [if_neg c8] at H
        exact absurd H (by simp)
      ·rw [if_neg c7] at H
       exact absurd H (by simp)
     ·rw [if_neg c6] at H
      have c6b0 := decide_eq_false c6
      clear c6
      obtain rfl := Option.some.inj H
      go_wp2
      go_ret
      exact ⟨_, aq8, aq49, aq1⟩
  ·rw [if_neg c3] at H
   exact absurd H (by simp)
 ·rw [if_neg c2] at H
  exact absurd H (by simp)
def laws_eqIntS.l0 : Nat → List Int → List Int → Int → Option (Bool)
 | 0, _, _, _ => none
 | k + 1, x0, x1, x5 => if x5 < (x0.length : Int) then (if 0 ≤ x5 then (if x5 < (x1.length : Int) then (if (rd x0 x5) = (rd x1 x5) then (laws_eqIntS.l0 k x0 x1 (wrap64 (x5 + 1))) else (some false)) else (none)) else (none)) else (some true)
def laws_eqIntS.f (k : Nat) (l0 : List Int) (l1 : List Int) : Option (Bool) := if (l0.length : Int) = (l1.length : Int) then (laws_eqIntS.l0 k l0 l1 0) else (some false)
theorem laws_eqIntS.mono_l : ∀ k, (∀ y0 y1 y2, LeO (laws_eqIntS.l0 k y0 y1 y2) (laws_eqIntS.l0 (k + 1) y0 y1 y2))
 | 0 => fun _ _ _ r h => by simp [laws_eqIntS.l0] at h
 | k + 1 => by
  have ih0 := laws_eqIntS.mono_l k
  ·intro y0 y1 y2
   unfold laws_eqIntS.l0
   exact mo
theorem laws_eqIntS.mono : ∀ a0 a1 k, LeO (laws_eqIntS.f k a0 a1) (laws_eqIntS.f (k + 1) a0 a1) := by
 intro a0 a1 k
 have ih0 := laws_eqIntS.mono_l k
 unfold laws_eqIntS.f
 exact mo
set_option maxHeartbeats 8000000 in
set_option maxRecDepth 100000 in
theorem laws_eqIntS.calls (k : Nat) (A0 : Option Addr) (c0 : Nat) (l0 : List Int) (A1 : Option Addr) (c1 : Nat) (l1 : List Int) (r : Bool) (w : World) (hr0 : Kd.C (Kd.int .i64) w A0 l0.length l0) (hc0 : l0.length ≤ c0) (hr1 : Kd.C (Kd.int .i64) w A1 l1.length l1) (hc1 : l1.length ≤ c1) (h : laws_eqIntS.f k l0 l1 = some r) :
  Calls Tryz.prog 23 #[.slice A0 l0.length c0, .slice A1 l1.length c1] w fun e w' => e = .returned (.bool r) ∧ Drawn0 w w' := by
 have HR0 := am hr0
 have HC0 := am hc0
 clear hr0 hc0
 have HR1 := am hr1
 have HC1 := am hc1
 clear hr1 hc1
 have H : (if (l0.length : Int) = (l1.length : Int) then (laws_eqIntS.l0 k l0 l1 0) else (some false)) = some r := h
 clear h
 by_cases c3 : (l0.length : Int) = (l1.length : Int)
 ·rw [if_pos c3] at H
  have c3b0 := beq_iff_eq.mpr c3
  have c3b1 := bne_eq_false_iff_eq.mpr c3
  have c3b2 : (l0.length == l1.length) = true := by first | simpa using c3 | (simp at c3 ⊢; omega)
  clear c3
  have H' := am H
  clear H
  go_enter Tryz.func23, Tryz.ntmps23
  go_wp2
  repeat (go_quiet (fail); try go_wp2)
  go_loopg [5] k (fun kq v5 w' => ∃ (x5_1 : Int), v5 = .int .i64 x5_1 ∧ Aside0 (laws_eqIntS.l0 kq l0 l1 x5_1 = some r) ∧ Aside0 (kq ≤ k) ∧ Drawn0 w w')
  case atStart => exact ⟨(0), aq7, H', ⟨Nat.le_refl _⟩, aq11⟩
  case round =>
   clear H'
   try clear c1
   try clear c2
   try clear p2
   try clear c3
   try clear c3b0
   try clear c3b1
   try clear c3b2
   obtain ⟨x5_1, rfl, HA, HK1, ⟨m1, rfl⟩⟩ := hrel
   cases gk with
   | zero => exact absurd HA.out (by simp [laws_eqIntS.l0])
   | succ k1 =>
    have H := HA.out
    clear HA
    simp only [laws_eqIntS.l0] at H
    by_cases c4 : x5_1 < (l0.length : Int)
    ·rw [if_pos c4] at H
     have c4b0 := decide_eq_true c4
     clear c4
     by_cases c5 : 0 ≤ x5_1
     ·rw [if_pos c5] at H
      have c5b0 := decide_eq_true c5
      clear c5
      by_cases c6 : x5_1 < (l1.length : Int)
      ·rw [if_pos c6] at H
       have c6b0 := decide_eq_true c6
       clear c6
       by_cases c7 : (rd l0 x5_1) = (rd l1 x5_1)
       ·rw [if_pos c7] at H
        have c7b0 := beq_iff_eq.mpr c7
        have c7b1 := bne_eq_false_iff_eq.mpr c7
        clear c7
        have H' := am H
        clear H
        have p101 : 0 ≤ (x5_1 : Int) := of_decide_eq_true aq4
        have q101 : x5_1 < (l0.length : Int) := of_decide_eq_true aq4
        obtain ⟨ad101, e101, hx101_0⟩ := Kd.at_int HR0.out x5_1 p101 q101
        cases e101
        replace p101 := eq_true p101
        replace q101 := eq_true q101
        have p102 : 0 ≤ (x5_1 : Int) := of_decide_eq_true aq4
        have q102 : x5_1 < (l1.length : Int) := of_decide_eq_true aq4
        obtain ⟨ad102, e102, hx102_0⟩ := Kd.at_int HR1.out x5_1 p102 q102
        cases e102
        replace p102 := eq_true p102
        replace q102 := eq_true q102
        go_wp2
        repeat (go_quiet (fail); try go_wp2)
        go_roundg k1
        case measure => have := HK1.out; omega
        case rel => exact ⟨(wrap64 (x5_1 + 1)), aq7, H', ⟨aq73⟩, aq11⟩
       ·rw [if_neg c7] at H
        have c7b0 := beq_eq_false_iff_ne.mpr c7
        have c7b1 := bne_iff_ne.mpr c7
        obtain rfl := Option.some.inj H
        have p101 : 0 ≤ (x5_1 : Int) := of_decide_eq_true aq4
        have q101 : x5_1 < (l0.length : Int) := of_decide_eq_true aq4
        obtain ⟨ad101, e101, hx101_0⟩ := Kd.at_int HR0.out x5_1 p101 q101
        cases e101
        replace p101 := eq_true p101
        replace q101 := eq_true q101
        have p102 : 0 ≤ (x5_1 : Int) := of_decide_eq_true aq4
        have q102 : x5_1 < (l1.length : Int) := of_decide_eq_true aq4
        obtain ⟨ad102, e102, hx102_0⟩ := Kd.at_int HR1.out x5_1 p102 q102
        cases e102
        replace p102 := eq_true p102
        replace q102 := eq_true q102
        go_wp2
        repeat (go_quiet (fail); try go_wp2)
        go_ret
        exact ⟨aq7, aq11⟩
      ·rw [if_neg c6] at H
       exact absurd H (by simp)
     ·rw [if_neg c5] at H
      exact absurd H (by simp)
    ·rw [if_neg c4] at H
     have c4b0 := decide_eq_false c4
     clear c4
     obtain rfl := Option.some.inj H
     go_wp2
     repeat (go_quiet (fail); try go_wp2)
     go_ret
     exact ⟨aq7, aq11⟩
 ·rw [if_neg c3] at H
  have c3b0 := beq_eq_false_iff_ne.mpr c3
  have c3b1 := bne_iff_ne.mpr c3
  have c3b2 : (l0.length == l1.length) = false := by first | simpa using c3 | (simp at c3 ⊢; omega)
  obtain rfl := Option.some.inj H
  go_enter Tryz.func23, Tryz.ntmps23
  go_wp2
  repeat (go_quiet (fail); try go_wp2)
  go_ret
  exact ⟨aq7, aq11⟩
def laws_markIntS.l0 : Nat → List Int → Int → Int → Option (Int × List Int)
 | 0, _, _, _ => none
 | k + 1, x0, x1, x5 => if x5 < (x0.length : Int) then (if 0 ≤ x5 then (laws_markIntS.l0 k (x0.set (x5 : Int).toNat x1) (wrap64 (x1 + 1)) (wrap64 (x5 + 1))) else (none)) else (some (x1, x0))
theorem laws_markIntS.mono_l : ∀ k, (∀ y0 y1 y2, LeO (laws_markIntS.l0 k y0 y1 y2) (laws_markIntS.l0 (k + 1) y0 y1 y2))
 | 0 => fun _ _ _ r h => by simp [laws_markIntS.l0] at h
 | k + 1 => by
  have ih0 := laws_markIntS.mono_l k
  ·intro y0 y1 y2
   unfold laws_markIntS.l0
   exact mo
def laws_heldIntS.l0 : Nat → List Int → Int → Int → Option (Int)
 | 0, _, _, _ => none
 | k + 1, x0, x1, x5 => if x5 < (x0.length : Int) then (if 0 ≤ x5 then (if (rd x0 x5) = x1 then (laws_heldIntS.l0 k x0 (wrap64 (x1 + 1)) (wrap64 (x5 + 1))) else (some (-1))) else (none)) else (some x1)
theorem laws_heldIntS.mono_l : ∀ k, (∀ y0 y1 y2, LeO (laws_heldIntS.l0 k y0 y1 y2) (laws_heldIntS.l0 (k + 1) y0 y1 y2))
 | 0 => fun _ _ _ r h => by simp [laws_heldIntS.l0] at h
 | k + 1 => by
  have ih0 := laws_heldIntS.mono_l k
  ·intro y0 y1 y2
   unfold laws_heldIntS.l0
   exact mo
end Go.Proofs.YtdffgeoegdkiaaaGreatDoor.F

namespace Go.Proofs.YtdffgeoegdkiaaaGreatDoor.F
open Go.RowKit Go.Proofs.YtdffgeoegdkiaaaGreatDoor Go.Proofs.YtdffgeoegdkiaaaGreatDoorW.PrintWords Go.Proofs.YtdffgeoegdkiaaaGreatDoorW.PrintMore
theorem rdN (l : List Int) (i : Nat) : rd l (i : Int) = l.getD i 0 := by unfold rd; rw [Int.toNat_natCast]
theorem toI_l0 (l : List Int) (hl : l.length ≤ 2000000) : ∀ (n i : Nat), i + n = l.length → Ev (fun k => laws_toIntS.l0 k l (l.take i ++ List.replicate n 0) (i : Int)) l
  | 0, i, hi => by
    refine Ev.step (fun k => by rw [laws_toIntS.l0, if_neg (by omega)]) ?_
    rw [List.take_of_length_le (by omega), List.replicate_zero, List.append_nil]
    exact Ev.now _
  | n + 1, i, hi => by
    have hil : i < l.length := by omega
    have HW : Aside0 (wrap64 ((i : Int) + 1) = ((i + 1 : Nat) : Int)) := ⟨by rw [w64 (by omega) (by omega)]; rfl⟩
    have hset : (l.take i ++ List.replicate (n + 1) 0).set i (rd l (i : Int)) = l.take (i + 1) ++ List.replicate n 0 := by
      rw [List.set_append_right _ _ (by rw [List.length_take]; omega), List.length_take, Nat.min_eq_left (by omega), Nat.sub_self, List.replicate_succ, List.set_cons_zero, List.take_succ_eq_append_getElem hil, List.append_assoc, rdN, List.getD_eq_getElem?_getD, List.getElem?_eq_getElem hil]; rfl
    have ih := toI_l0 l hl n (i + 1) (by omega)
    rw [← hset] at ih
    refine Ev.step (fun k => ?_) ih
    rw [laws_toIntS.l0, if_pos (by omega), if_pos (by omega), if_pos (by rw [List.length_append, List.length_take, List.length_replicate]; omega), HW.out, Int.toNat_natCast]
theorem toI_ev (l : List Int) (hl : l.length ≤ 2000000) : Ev (fun k => laws_toIntS.f k l) l := by
  have h0 := toI_l0 l hl l.length 0 (by omega)
  rw [List.take_zero, List.nil_append] at h0
  refine Ev.congr (fun k => ?_) h0
  unfold laws_toIntS.f
  rw [if_pos (by omega), if_pos (by omega), Int.toNat_natCast]; rfl
theorem eqI_l0 (l : List Int) (hl : l.length ≤ 2000000) : ∀ (n i : Nat), i + n = l.length → Ev (fun k => laws_eqIntS.l0 k l l (i : Int)) true
  | 0, i, hi => Ev.step (fun k => by rw [laws_eqIntS.l0, if_neg (by omega)]) (Ev.now _)
  | n + 1, i, hi => by
    have HW : Aside0 (wrap64 ((i : Int) + 1) = ((i + 1 : Nat) : Int)) := ⟨by rw [w64 (by omega) (by omega)]; rfl⟩
    refine Ev.step (fun k => ?_) (eqI_l0 l hl n (i + 1) (by omega))
    rw [laws_eqIntS.l0, if_pos (by omega), if_pos (by omega), if_pos (by omega), if_pos rfl, HW.out]
theorem eqI_ev (l : List Int) (hl : l.length ≤ 2000000) : Ev (fun k => laws_eqIntS.f k l l) true :=
  Ev.congr (fun k => by rw [laws_eqIntS.f, if_pos rfl]; rfl) (eqI_l0 l hl l.length 0 (by omega))
end Go.Proofs.YtdffgeoegdkiaaaGreatDoor.F

namespace Go.Proofs.YtdffgeoegdkiaaaGreatDoor.F
open Go.Proofs.YtdffgeoegdkiaaaGreatDoor
open Go.RowKit Go.Proofs.YtdffgeoegdkiaaaGreatDoorW.PrintWords Go.Proofs.YtdffgeoegdkiaaaGreatDoorW.PrintLast Go.Proofs.YtdffgeoegdkiaaaGreatDoorW.PrintMore
attribute [local go_sem] max2_int min2_int max_two min_two max_three min_three max_four min_four
def slices_Index_int_int.l0 : Nat → List Int → Int → Int → Int → Option (Int)
 | 0, _, _, _, _ => none
 | k + 1, x0, x1, x7, x8 => if x8 < x7 then (if 0 ≤ x8 then (if x8 < (x0.length : Int) then (if x1 = (rd x0 x8) then (some x8) else (slices_Index_int_int.l0 k x0 x1 x7 (wrap64 (x8 + 1)))) else (none)) else (none)) else (some (-1))
def slices_Index_int_int.f (k : Nat) (l0 : List Int) (a1 : Int) : Option (Int) := slices_Index_int_int.l0 k l0 a1 (l0.length : Int) 0
theorem slices_Index_int_int.mono_l : ∀ k, (∀ y0 y1 y2 y3, LeO (slices_Index_int_int.l0 k y0 y1 y2 y3) (slices_Index_int_int.l0 (k + 1) y0 y1 y2 y3))
 | 0 => fun _ _ _ _ r h => by simp [slices_Index_int_int.l0] at h
 | k + 1 => by
  have ih0 := slices_Index_int_int.mono_l k
  ·intro y0 y1 y2 y3
   unfold slices_Index_int_int.l0
   exact mo
theorem slices_Index_int_int.mono : ∀ a0 a1 k, LeO (slices_Index_int_int.f k a0 a1) (slices_Index_int_int.f (k + 1) a0 a1) := by
 intro a0 a1 k
 have ih0 := slices_Index_int_int.mono_l k
 unfold slices_Index_int_int.f
 exact mo
set_option maxHeartbeats 8000000 in
set_option maxRecDepth 100000 in
theorem slices_Index_int_int.calls (k : Nat) (A0 : Option Addr) (c0 : Nat) (l0 : List Int) (a1 : Int) (r : Int) (w : World) (hr0 : Kd.C (Kd.int .i64) w A0 l0.length l0) (hc0 : l0.length ≤ c0) (h : slices_Index_int_int.f k l0 a1 = some r) :
  Calls Tryz.prog 110 #[.slice A0 l0.length c0, .int .i64 a1] w fun e w' => e = .returned (.int .i64 r) ∧ Drawn0 w w' := by
 have HR0 := am hr0
 have HC0 := am hc0
 clear hr0 hc0
 have H : (slices_Index_int_int.l0 k l0 a1 (l0.length : Int) 0) = some r := h
 clear h
 have H' := am H
 clear H
 go_enter Tryz.func110, Tryz.ntmps110
 go_wp2
 go_loopg [8] k (fun kq v8 w' => ∃ (x8_1 : Int), v8 = .int .i64 x8_1 ∧ Aside0 (slices_Index_int_int.l0 kq l0 a1 (l0.length : Int) x8_1 = some r) ∧ Aside0 (kq ≤ k) ∧ Drawn0 w w')
 case atStart => exact ⟨(0), aq7, H', ⟨Nat.le_refl _⟩, aq11⟩
 case round =>
  clear H'
  try clear c1
  try clear p2
  obtain ⟨x8_1, rfl, HA, HK1, ⟨m1, rfl⟩⟩ := hrel
  cases gk with
  | zero => exact absurd HA.out (by simp [slices_Index_int_int.l0])
  | succ k1 =>
   have H := HA.out
   clear HA
   simp only [slices_Index_int_int.l0] at H
   by_cases c3 : x8_1 < (l0.length : Int)
   ·rw [if_pos c3] at H
    have c3b0 := decide_eq_true c3
    clear c3
    by_cases c4 : 0 ≤ x8_1
    ·rw [if_pos c4] at H
     have c4b0 := decide_eq_true c4
     clear c4
     by_cases c5 : x8_1 < (l0.length : Int)
     ·rw [if_pos c5] at H
      have c5b0 := decide_eq_true c5
      clear c5
      by_cases c6 : a1 = (rd l0 x8_1)
      ·rw [if_pos c6] at H
       have c6b0 := beq_iff_eq.mpr c6
       have c6b1 := bne_eq_false_iff_eq.mpr c6
       clear c6
       obtain rfl := Option.some.inj H
       have p101 : 0 ≤ (x8_1 : Int) := of_decide_eq_true aq4
       have q101 : x8_1 < (l0.length : Int) := of_decide_eq_true aq4
       obtain ⟨ad101, e101, hx101_0⟩ := Kd.at_int HR0.out x8_1 p101 q101
       cases e101
       replace p101 := eq_true p101
       replace q101 := eq_true q101
       go_wp2
       go_ret
       exact ⟨aq7, aq11⟩
      ·rw [if_neg c6] at H
       have c6b0 := beq_eq_false_iff_ne.mpr c6
       have c6b1 := bne_iff_ne.mpr c6
       have H' := am H
       clear H
       have p101 : 0 ≤ (x8_1 : Int) := of_decide_eq_true aq4
       have q101 : x8_1 < (l0.length : Int) := of_decide_eq_true aq4
       obtain ⟨ad101, e101, hx101_0⟩ := Kd.at_int HR0.out x8_1 p101 q101
       cases e101
       replace p101 := eq_true p101
       replace q101 := eq_true q101
       go_wp2
       go_roundg k1
       case measure => have := HK1.out; omega
       case rel => exact ⟨(wrap64 (x8_1 + 1)), aq7, H', ⟨aq73⟩, aq11⟩
     ·rw [if_neg c5] at H
      exact absurd H (by simp)
    ·rw [if_neg c4] at H
     exact absurd H (by simp)
   ·rw [if_neg c3] at H
    have c3b0 := decide_eq_false c3
    clear c3
    obtain rfl := Option.some.inj H
    go_wp2
    go_ret
    exact ⟨aq7, aq11⟩
def slices_Contains_int_int.f (k : Nat) (l0 : List Int) (a1 : Int) : Option (Bool) := (slices_Index_int_int.f k l0 a1).bind fun t101 => (some (decide (t101 ≥ 0)))
theorem slices_Contains_int_int.mono : ∀ a0 a1 k, LeO (slices_Contains_int_int.f k a0 a1) (slices_Contains_int_int.f (k + 1) a0 a1) := by
 intro a0 a1 k
 unfold slices_Contains_int_int.f
 have im0 := @slices_Index_int_int.mono; exact mo
set_option maxHeartbeats 8000000 in
set_option maxRecDepth 100000 in
theorem slices_Contains_int_int.calls (k : Nat) (A0 : Option Addr) (c0 : Nat) (l0 : List Int) (a1 : Int) (r : Bool) (w : World) (hr0 : Kd.C (Kd.int .i64) w A0 l0.length l0) (hc0 : l0.length ≤ c0) (h : slices_Contains_int_int.f k l0 a1 = some r) :
  Calls Tryz.prog 111 #[.slice A0 l0.length c0, .int .i64 a1] w fun e w' => e = .returned (.bool r) ∧ Drawn0 w w' := by
 have HR0 := am hr0
 have HC0 := am hc0
 clear hr0 hc0
 have H : ((slices_Index_int_int.f k l0 a1).bind fun t101 => (some (decide (t101 ≥ 0)))) = some r := h
 clear h
 obtain ⟨t101, A30, H⟩ := Option.bind_eq_some_iff.mp H
 have A3 := am A30
 clear A30
 obtain rfl := Option.some.inj H
 go_enter Tryz.func111, Tryz.ntmps111
 go_wp2_with (first | ((with_reducible refine gate_callee (f := 110) rfl ?_); refine goesL_ (some 7) rfl rfl Tryz.func110 (by kernel_rfl) rfl #[.slice A0 l0.length c0, .int .i64 a1] rfl aq5 ?_; (with_reducible refine (slices_Index_int_int.calls k _ _ l0 a1 t101 _ ?side1 ?side2 A3.out).mono ?_); (case side1 => repeat (first | exact HR0.out | (with_reducible refine Kd.C_alloc ?_ _) | (with_reducible refine Kd.C_drewN ?_ _) | (with_reducible refine Kd.C_drew ?_))); (case side2 => exact HC0.out); rintro e w' ⟨rfl, ⟨nd, rfl⟩⟩; refine ⟨_, rfl, ?_⟩))
 go_ret
 exact ⟨aq7, aq11⟩
def impl_isGate_1.f (a0 : Int) : Option (Bool) := some (a0 == 46)
set_option maxHeartbeats 8000000 in
set_option maxRecDepth 100000 in
theorem impl_isGate_1.calls (a0 : Int) (r : Bool) (w : World) (h : impl_isGate_1.f a0 = some r) :
  Calls Tryz.prog 116 #[.int .u8 a0] w fun e w' => e = .returned (.bool r) ∧ Drawn0 w w' := by
 have H : (some (a0 == 46)) = some r := h
 clear h
 obtain rfl := Option.some.inj H
 go_enter Tryz.func116, Tryz.ntmps116
 go_wp2
 go_ret
 exact ⟨aq7, aq11⟩
mutual
def impl_areCells__impl_isGate_1.j0 : Nat → ByteArray → List Int → Bool → Option (Bool)
 | 0, _, _, _ => none
 | k + 1, x0, x1, x18 => if x18 = true then (some false) else (impl_areCells__impl_isGate_1.l0 k x0 x1 x1 (x1.length : Int) 0)
def impl_areCells__impl_isGate_1.l0 : Nat → ByteArray → List Int → List Int → Int → Int → Option (Bool)
 | 0, _, _, _, _, _ => none
 | k + 1, x0, x1, x19, x20, x21 => if x21 < x20 then (if 0 ≤ x21 then (if x21 < (x19.length : Int) then (if x21 ≤ (x1.length : Int) then ((slices_Contains_int_int.f k (x1.take (x21 : Int).toNat) (rd x19 x21)).bind fun t105 => (if t105 = true then (some false) else ((impl_read.f x0).bind fun bt106 => (if 0 ≤ (rd x19 x21) then (if (rd x19 x21) < (bt106.2.2.length : Int) then ((impl_isGate_1.f (rd bt106.2.2 (rd x19 x21))).bind fun t112 => (if t112 = true then (impl_areCells__impl_isGate_1.l0 k x0 x1 x19 x20 (wrap64 (x21 + 1))) else (some false))) else (none)) else (none))))) else (none)) else (none)) else (none)) else (some true)
end
def impl_areCells__impl_isGate_1.f (k : Nat) (a0 : ByteArray) (l1 : List Int)  : Option (Bool) := (impl_within.f (l1.length : Int) 1 3).bind fun t101 => (if t101 = true then ((impl_isNumber.f k a0 l1).bind fun t102 => (impl_areCells__impl_isGate_1.j0 k a0 l1 (!t102))) else (impl_areCells__impl_isGate_1.j0 k a0 l1 true))
theorem impl_areCells__impl_isGate_1.mono_l : ∀ k, (∀ y0 y1 y2, LeO (impl_areCells__impl_isGate_1.j0 k y0 y1 y2) (impl_areCells__impl_isGate_1.j0 (k + 1) y0 y1 y2)) ∧ (∀ y0 y1 y2 y3 y4, LeO (impl_areCells__impl_isGate_1.l0 k y0 y1 y2 y3 y4) (impl_areCells__impl_isGate_1.l0 (k + 1) y0 y1 y2 y3 y4))
 | 0 => ⟨fun _ _ _ r h => by simp [impl_areCells__impl_isGate_1.j0] at h, fun _ _ _ _ _ r h => by simp [impl_areCells__impl_isGate_1.l0] at h⟩
 | k + 1 => by
  obtain ⟨ih0, ih1⟩ := impl_areCells__impl_isGate_1.mono_l k
  refine ⟨?_, ?_⟩
  ·intro y0 y1 y2
   unfold impl_areCells__impl_isGate_1.j0
   have im0 := @impl_isNumber.mono; have im1 := @slices_Contains_int_int.mono; exact mo
  ·intro y0 y1 y2 y3 y4
   unfold impl_areCells__impl_isGate_1.l0
   have im0 := @impl_isNumber.mono; have im1 := @slices_Contains_int_int.mono; exact mo
theorem impl_areCells__impl_isGate_1.mono : ∀ a0 a1 k, LeO (impl_areCells__impl_isGate_1.f k a0 a1) (impl_areCells__impl_isGate_1.f (k + 1) a0 a1) := by
 intro a0 a1 k
 obtain ⟨ih0, ih1⟩ := impl_areCells__impl_isGate_1.mono_l k
 unfold impl_areCells__impl_isGate_1.f
 have im0 := @impl_isNumber.mono; have im1 := @slices_Contains_int_int.mono; exact mo
set_option maxHeartbeats 8000000 in
set_option maxRecDepth 100000 in
theorem impl_areCells__impl_isGate_1.calls (k : Nat) (a0 : ByteArray) (A1 : Option Addr) (c1 : Nat) (l1 : List Int)  (r : Bool) (w : World) (hr1 : Kd.C (Kd.int .i64) w A1 l1.length l1) (hc1 : l1.length ≤ c1) (h : impl_areCells__impl_isGate_1.f k a0 l1 = some r) :
  Calls Tryz.prog 115 #[.string a0, .slice A1 l1.length c1, .func (.func 116) #[] #[]] w fun e w' => e = .returned (.bool r) ∧ Below w.heap.size w w' := by
 have hfd93_2 : ∀ (x0_ x1_ x2_ : Value) (W : World), (Instr.field 93 (.agg #[x0_, x1_, x2_]) 2).run Tryz.prog W = .ok x2_ W := fun _ _ _  _ => by kernel_rfl
 have HR1 := am hr1
 have HC1 := am hc1
 clear hr1 hc1
 have HB := am (Below.refl w.heap.size w)
 have H : ((impl_within.f (l1.length : Int) 1 3).bind fun t101 => (if t101 = true then ((impl_isNumber.f k a0 l1).bind fun t102 => (impl_areCells__impl_isGate_1.j0 k a0 l1 (!t102))) else (impl_areCells__impl_isGate_1.j0 k a0 l1 true))) = some r := h
 clear h
 have HC4 := am H
 clear H
 go_enter Tryz.func115, Tryz.ntmps115
 go_upto_region 1 with (fail)
 go_cut [18] (fun v18 wc => ∃ (kq : Nat) (x18_3 : Bool), v18 = .bool x18_3 ∧ Aside0 (impl_areCells__impl_isGate_1.j0 kq a0 l1 x18_3 = some r) ∧ Aside0 (kq ≤ k) ∧ Aside0 (Below w.heap.size w wc))
 case first =>
  have H := HC4.out
  clear HC4
  obtain ⟨t101, A50, H⟩ := Option.bind_eq_some_iff.mp H
  have A5 := am A50
  clear A50
  by_cases c6 : t101 = true
  ·subst c6
   rw [if_pos rfl] at H
   obtain ⟨t102, A70, H⟩ := Option.bind_eq_some_iff.mp H
   have A7 := am A70
   clear A70
   have H' := am H
   clear H
   go_wp2_with (first | ((with_reducible refine gate_callee (f := 56) rfl ?_); refine goesL_ (some 11) rfl rfl Tryz.func56 (by kernel_rfl) rfl #[.int .i64 (l1.length : Int), .int .i64 1, .int .i64 3] rfl aq5 ?_; (with_reducible refine (impl_within.calls (l1.length : Int) 1 3 true _ A5.out).mono ?_); rintro e w' ⟨rfl, ⟨nd, rfl⟩⟩; refine ⟨_, rfl, ?_⟩) | (go_at_call 127; (with_reducible refine (impl_isNumber.calls k a0 _ _ l1 t102 _ ?side1 ?side2 A7.out).mono ?_); (case side1 => exact aq95); (case side2 => exact HC1.out); rintro e w8 ⟨rfl, hb⟩; have n0_ := am (below_step aq1 hb); clear HB; have HB := n0_; clear n0_; (try clear hb); (try clear hb2); (try clear hk); (try clear hi)))
   go_meet
   case rel => exact ⟨_, (!t102), aq7, H', ⟨aq107⟩, ⟨aq1⟩⟩
  ·replace c6 := Bool.eq_false_iff.mpr c6
   subst c6
   rw [if_neg Bool.false_ne_true] at H
   have H' := am H
   clear H
   go_wp2_with (first | ((with_reducible refine gate_callee (f := 56) rfl ?_); refine goesL_ (some 11) rfl rfl Tryz.func56 (by kernel_rfl) rfl #[.int .i64 (l1.length : Int), .int .i64 1, .int .i64 3] rfl aq5 ?_; (with_reducible refine (impl_within.calls (l1.length : Int) 1 3 false _ A5.out).mono ?_); rintro e w' ⟨rfl, ⟨nd, rfl⟩⟩; refine ⟨_, rfl, ?_⟩))
   go_meet
   case rel => exact ⟨_, (true), aq7, H', ⟨aq107⟩, ⟨aq1⟩⟩
 case rest =>
  clear HC4
  try clear c1
  try clear p2
  try clear c5
  try clear c6
  obtain ⟨kq, x18_3, rfl, HA, HJ3, HB⟩ := hcut
  cases kq with
  | zero => exact absurd HA.out (by simp [impl_areCells__impl_isGate_1.j0])
  | succ kj3 =>
   have H := HA.out
   clear HA
   simp only [impl_areCells__impl_isGate_1.j0] at H
   by_cases c9 : x18_3 = true
   ·subst c9
    rw [if_pos rfl] at H
    obtain rfl := Option.some.inj H
    go_wp2
    go_ret
    exact ⟨aq8, aq1⟩
   ·replace c9 := Bool.eq_false_iff.mpr c9
    subst c9
    rw [if_neg Bool.false_ne_true] at H
    have H' := am H
    clear H
    go_wp2
    go_loopg [21] kj3 (fun kq v21 w' => ∃ (x21_2 : Int), v21 = .int .i64 x21_2 ∧ Aside0 (impl_areCells__impl_isGate_1.l0 kq a0 l1 l1 (l1.length : Int) x21_2 = some r) ∧ Aside0 (kq ≤ kj3) ∧ Aside0 (Below w.heap.size w w'))
    case atStart => exact ⟨(0), aq7, H', ⟨Nat.le_refl _⟩, ⟨aq1⟩⟩
    case round =>
     clear H'
     try clear c1
     try clear p2
     try clear c5
     try clear c6
     try clear c9
     try clear p2
     obtain ⟨x21_2, rfl, HA, HK2, HB⟩ := hrel
     cases gk with
     | zero => exact absurd HA.out (by simp [impl_areCells__impl_isGate_1.l0])
     | succ k2 =>
      have H := HA.out
      clear HA
      simp only [impl_areCells__impl_isGate_1.l0] at H
      by_cases c10 : x21_2 < (l1.length : Int)
      ·rw [if_pos c10] at H
       have c10b0 := decide_eq_true c10
       clear c10
       by_cases c11 : 0 ≤ x21_2
       ·rw [if_pos c11] at H
        have c11b0 := decide_eq_true c11
        clear c11
        by_cases c12 : x21_2 < (l1.length : Int)
        ·rw [if_pos c12] at H
         have c12b0 := decide_eq_true c12
         clear c12
         have c13b0 := eq_true (of_decide_eq_true aq4 : 0 ≤ x21_2)
         by_cases c14 : x21_2 ≤ (l1.length : Int)
         ·rw [if_pos c14] at H
          have c14b0 := eq_true c14
          have c14b1 := decide_eq_true c14
          clear c14
          obtain ⟨t105, A150, H⟩ := Option.bind_eq_some_iff.mp H
          have A15 := am A150
          clear A150
          by_cases c16 : t105 = true
          ·subst c16
           rw [if_pos rfl] at H
           obtain rfl := Option.some.inj H
           have p103 : 0 ≤ (x21_2 : Int) := of_decide_eq_true aq4
           have q103 : x21_2 < (l1.length : Int) := of_decide_eq_true aq4
           obtain ⟨ad103, e103, hx103_0⟩ := Kd.at_int HR1.out x21_2 p103 q103
           cases e103
           try replace hx103_0 := (HB.out.cell (World.block_lt_of_cell? w _ hx103_0)).trans hx103_0
           replace p103 := eq_true p103
           replace q103 := eq_true q103
           obtain ⟨i017, hi017, _, hsz17, _⟩ := info_parts info3
           obtain ⟨hcut17, hA17, hC17⟩ := print_take_of (P := Tryz.prog) (Value.int .i64) 0 28 3 .i64 Tryz.underlying28 hi017 hsz17 (some ad103) c1 l1 x21_2 (of_decide_eq_true aq4) (of_decide_eq_true aq4) HC1.out
           have HR104 := am (Kd.C_of_reads (h1 := fun _ => rfl) (hA17 _ (Kd.reads_of_C HR1.out)))
           have HC104 := am hC17
           clear hA17 hC17 hi017 hsz17
           go_wp2_with (first | ((with_reducible refine gate_callee (f := 111) rfl ?_); refine goesL_ (some 30) rfl rfl Tryz.func111 (by kernel_rfl) rfl #[.slice (some ad103) (l1.take (x21_2 : Int).toNat).length c1, .int .i64 (rd l1 x21_2)] rfl aq34 ?_; (with_reducible refine (slices_Contains_int_int.calls k2 _ _ (l1.take (x21_2 : Int).toNat) (rd l1 x21_2) true _ ?side1 ?side2 A15.out).mono ?_); (case side1 => exact aq36); (case side2 => exact HC104.out); rintro e w' ⟨rfl, ⟨nd, rfl⟩⟩; refine ⟨_, rfl, ?_⟩))
           go_ret
           exact ⟨aq8, aq1⟩
          ·replace c16 := Bool.eq_false_iff.mpr c16
           subst c16
           rw [if_neg Bool.false_ne_true] at H
           replace H := Option.bind_eq_some_iff.mp H
           obtain ⟨⟨t106, t107, t108⟩, A180, H⟩ := H
           replace H : (if 0 ≤ (rd l1 x21_2) then (if (rd l1 x21_2) < (t108.length : Int) then ((impl_isGate_1.f (rd t108 (rd l1 x21_2))).bind fun t112 => (if t112 = true then (impl_areCells__impl_isGate_1.l0 k2 a0 l1 l1 (l1.length : Int) (wrap64 (x21_2 + 1))) else (some false))) else (none)) else (none)) = some r := H
           have A18 := am A180
           clear A180
           by_cases c19 : 0 ≤ (rd l1 x21_2)
           ·rw [if_pos c19] at H
            have c19b0 := decide_eq_true c19
            clear c19
            by_cases c20 : (rd l1 x21_2) < (t108.length : Int)
            ·rw [if_pos c20] at H
             have c20b0 := decide_eq_true c20
             clear c20
             obtain ⟨t112, A210, H⟩ := Option.bind_eq_some_iff.mp H
             have A21 := am A210
             clear A210
             by_cases c22 : t112 = true
             ·subst c22
              rw [if_pos rfl] at H
              have H' := am H
              clear H
              have p103 : 0 ≤ (x21_2 : Int) := of_decide_eq_true aq4
              have q103 : x21_2 < (l1.length : Int) := of_decide_eq_true aq4
              obtain ⟨ad103, e103, hx103_0⟩ := Kd.at_int HR1.out x21_2 p103 q103
              cases e103
              try replace hx103_0 := (HB.out.cell (World.block_lt_of_cell? w _ hx103_0)).trans hx103_0
              replace p103 := eq_true p103
              replace q103 := eq_true q103
              obtain ⟨i023, hi023, _, hsz23, _⟩ := info_parts info3
              obtain ⟨hcut23, hA23, hC23⟩ := print_take_of (P := Tryz.prog) (Value.int .i64) 0 28 3 .i64 Tryz.underlying28 hi023 hsz23 (some ad103) c1 l1 x21_2 (of_decide_eq_true aq4) (of_decide_eq_true aq4) HC1.out
              have HR104 := am (Kd.C_of_reads (h1 := fun _ => rfl) (hA23 _ (Kd.reads_of_C HR1.out)))
              have HC104 := am hC23
              clear hA23 hC23 hi023 hsz23
              go_wp2_with (first | ((with_reducible refine gate_callee (f := 111) rfl ?_); refine goesL_ (some 30) rfl rfl Tryz.func111 (by kernel_rfl) rfl #[.slice (some ad103) (l1.take (x21_2 : Int).toNat).length c1, .int .i64 (rd l1 x21_2)] rfl aq34 ?_; (with_reducible refine (slices_Contains_int_int.calls k2 _ _ (l1.take (x21_2 : Int).toNat) (rd l1 x21_2) false _ ?side1 ?side2 A15.out).mono ?_); (case side1 => exact aq36); (case side2 => exact HC104.out); rintro e w' ⟨rfl, ⟨nd, rfl⟩⟩; refine ⟨_, rfl, ?_⟩) | (go_at_call 89; (with_reducible refine (impl_read.calls a0 t106 t107 t108 _ A18.out).mono ?_); rintro e w24 ⟨v109, rfl, ho0, hb⟩; have n0_ := am (Kd.V_lower (Kd.V_mono (ok' := fun k_ => True) ho0 (fun k_ hk_ => trivial)) (below_size aq1)); have n1_ := am (below_step aq1 hb); clear HB; have HO110 := n0_; have HB := n1_; clear n0_ n1_; (try clear hb); (try clear hb2); (try clear hk); (try clear hi); (try clear ho0); obtain ⟨Ao25, co25, eo25⟩ := Kd.V_slice HO110.out; subst eo25; have p111 : 0 ≤ ((rd l1 x21_2) : Int) := of_decide_eq_true aq4; have q111 : (rd l1 x21_2) < (t108.length : Int) := of_decide_eq_true aq4; obtain ⟨ad111, e111, hx111_0⟩ := Kd.at_int (Kd.V_reads' HO110.out).2.2 (rd l1 x21_2) p111 q111; cases e111; replace p111 := eq_true p111; replace q111 := eq_true q111) | (go_at_call 116; (with_reducible refine (impl_isGate_1.calls (rd t108 (rd l1 x21_2)) true _ A21.out).mono ?_); rintro e w' ⟨rfl, ⟨nd, rfl⟩⟩))
              go_roundg k2
              case measure => have := HJ3.out; have := HK2.out; omega
              case rel => exact ⟨(wrap64 (x21_2 + 1)), aq7, H', ⟨by have := HJ3.out; have := HK2.out; omega⟩, ⟨aq1⟩⟩
             ·replace c22 := Bool.eq_false_iff.mpr c22
              subst c22
              rw [if_neg Bool.false_ne_true] at H
              obtain rfl := Option.some.inj H
              have p103 : 0 ≤ (x21_2 : Int) := of_decide_eq_true aq4
              have q103 : x21_2 < (l1.length : Int) := of_decide_eq_true aq4
              obtain ⟨ad103, e103, hx103_0⟩ := Kd.at_int HR1.out x21_2 p103 q103
              cases e103
              try replace hx103_0 := (HB.out.cell (World.block_lt_of_cell? w _ hx103_0)).trans hx103_0
              replace p103 := eq_true p103
              replace q103 := eq_true q103
              obtain ⟨i026, hi026, _, hsz26, _⟩ := info_parts info3
              obtain ⟨hcut26, hA26, hC26⟩ := print_take_of (P := Tryz.prog) (Value.int .i64) 0 28 3 .i64 Tryz.underlying28 hi026 hsz26 (some ad103) c1 l1 x21_2 (of_decide_eq_true aq4) (of_decide_eq_true aq4) HC1.out
              have HR104 := am (Kd.C_of_reads (h1 := fun _ => rfl) (hA26 _ (Kd.reads_of_C HR1.out)))
              have HC104 := am hC26
              clear hA26 hC26 hi026 hsz26
              go_wp2_with (first | ((with_reducible refine gate_callee (f := 111) rfl ?_); refine goesL_ (some 30) rfl rfl Tryz.func111 (by kernel_rfl) rfl #[.slice (some ad103) (l1.take (x21_2 : Int).toNat).length c1, .int .i64 (rd l1 x21_2)] rfl aq34 ?_; (with_reducible refine (slices_Contains_int_int.calls k2 _ _ (l1.take (x21_2 : Int).toNat) (rd l1 x21_2) false _ ?side1 ?side2 A15.out).mono ?_); (case side1 => exact aq36); (case side2 => exact HC104.out); rintro e w' ⟨rfl, ⟨nd, rfl⟩⟩; refine ⟨_, rfl, ?_⟩) | (go_at_call 89; (with_reducible refine (impl_read.calls a0 t106 t107 t108 _ A18.out).mono ?_); rintro e w27 ⟨v109, rfl, ho0, hb⟩; have n0_ := am (Kd.V_lower (Kd.V_mono (ok' := fun k_ => True) ho0 (fun k_ hk_ => trivial)) (below_size aq1)); have n1_ := am (below_step aq1 hb); clear HB; have HO110 := n0_; have HB := n1_; clear n0_ n1_; (try clear hb); (try clear hb2); (try clear hk); (try clear hi); (try clear ho0); obtain ⟨Ao28, co28, eo28⟩ := Kd.V_slice HO110.out; subst eo28; have p111 : 0 ≤ ((rd l1 x21_2) : Int) := of_decide_eq_true aq4; have q111 : (rd l1 x21_2) < (t108.length : Int) := of_decide_eq_true aq4; obtain ⟨ad111, e111, hx111_0⟩ := Kd.at_int (Kd.V_reads' HO110.out).2.2 (rd l1 x21_2) p111 q111; cases e111; replace p111 := eq_true p111; replace q111 := eq_true q111) | (go_at_call 116; (with_reducible refine (impl_isGate_1.calls (rd t108 (rd l1 x21_2)) false _ A21.out).mono ?_); rintro e w' ⟨rfl, ⟨nd, rfl⟩⟩))
              go_ret
              exact ⟨aq8, aq1⟩
            ·rw [if_neg c20] at H
             exact absurd H (by simp)
           ·rw [if_neg c19] at H
            exact absurd H (by simp)
         ·rw [if_neg c14] at H
          exact absurd H (by simp)
        ·rw [if_neg c12] at H
         exact absurd H (by simp)
       ·rw [if_neg c11] at H
        exact absurd H (by simp)
      ·rw [if_neg c10] at H
       have c10b0 := decide_eq_false c10
       clear c10
       obtain rfl := Option.some.inj H
       go_wp2
       go_ret
       exact ⟨aq8, aq1⟩
def impl_isOpen.f (a0 : Int) : Option (Bool) := some (a0 != 35)
set_option maxHeartbeats 8000000 in
set_option maxRecDepth 100000 in
theorem impl_isOpen.calls (a0 : Int) (r : Bool) (w : World) (h : impl_isOpen.f a0 = some r) :
  Calls Tryz.prog 117 #[.int .u8 a0] w fun e w' => e = .returned (.bool r) ∧ Drawn0 w w' := by
 have H : (some (a0 != 35)) = some r := h
 clear h
 obtain rfl := Option.some.inj H
 go_enter Tryz.func117, Tryz.ntmps117
 go_wp2
 go_ret
 exact ⟨aq7, aq11⟩
mutual
def impl_areCells__impl_isOpen.j0 : Nat → ByteArray → List Int → Bool → Option (Bool)
 | 0, _, _, _ => none
 | k + 1, x0, x1, x18 => if x18 = true then (some false) else (impl_areCells__impl_isOpen.l0 k x0 x1 x1 (x1.length : Int) 0)
def impl_areCells__impl_isOpen.l0 : Nat → ByteArray → List Int → List Int → Int → Int → Option (Bool)
 | 0, _, _, _, _, _ => none
 | k + 1, x0, x1, x19, x20, x21 => if x21 < x20 then (if 0 ≤ x21 then (if x21 < (x19.length : Int) then (if x21 ≤ (x1.length : Int) then ((slices_Contains_int_int.f k (x1.take (x21 : Int).toNat) (rd x19 x21)).bind fun t105 => (if t105 = true then (some false) else ((impl_read.f x0).bind fun bt106 => (if 0 ≤ (rd x19 x21) then (if (rd x19 x21) < (bt106.2.2.length : Int) then ((impl_isOpen.f (rd bt106.2.2 (rd x19 x21))).bind fun t112 => (if t112 = true then (impl_areCells__impl_isOpen.l0 k x0 x1 x19 x20 (wrap64 (x21 + 1))) else (some false))) else (none)) else (none))))) else (none)) else (none)) else (none)) else (some true)
end
def impl_areCells__impl_isOpen.f (k : Nat) (a0 : ByteArray) (l1 : List Int)  : Option (Bool) := (impl_within.f (l1.length : Int) 1 3).bind fun t101 => (if t101 = true then ((impl_isNumber.f k a0 l1).bind fun t102 => (impl_areCells__impl_isOpen.j0 k a0 l1 (!t102))) else (impl_areCells__impl_isOpen.j0 k a0 l1 true))
theorem impl_areCells__impl_isOpen.mono_l : ∀ k, (∀ y0 y1 y2, LeO (impl_areCells__impl_isOpen.j0 k y0 y1 y2) (impl_areCells__impl_isOpen.j0 (k + 1) y0 y1 y2)) ∧ (∀ y0 y1 y2 y3 y4, LeO (impl_areCells__impl_isOpen.l0 k y0 y1 y2 y3 y4) (impl_areCells__impl_isOpen.l0 (k + 1) y0 y1 y2 y3 y4))
 | 0 => ⟨fun _ _ _ r h => by simp [impl_areCells__impl_isOpen.j0] at h, fun _ _ _ _ _ r h => by simp [impl_areCells__impl_isOpen.l0] at h⟩
 | k + 1 => by
  obtain ⟨ih0, ih1⟩ := impl_areCells__impl_isOpen.mono_l k
  refine ⟨?_, ?_⟩
  ·intro y0 y1 y2
   unfold impl_areCells__impl_isOpen.j0
   have im0 := @impl_isNumber.mono; have im1 := @slices_Contains_int_int.mono; exact mo
  ·intro y0 y1 y2 y3 y4
   unfold impl_areCells__impl_isOpen.l0
   have im0 := @impl_isNumber.mono; have im1 := @slices_Contains_int_int.mono; exact mo
theorem impl_areCells__impl_isOpen.mono : ∀ a0 a1 k, LeO (impl_areCells__impl_isOpen.f k a0 a1) (impl_areCells__impl_isOpen.f (k + 1) a0 a1) := by
 intro a0 a1 k
 obtain ⟨ih0, ih1⟩ := impl_areCells__impl_isOpen.mono_l k
 unfold impl_areCells__impl_isOpen.f
 have im0 := @impl_isNumber.mono; have im1 := @slices_Contains_int_int.mono; exact mo
set_option maxHeartbeats 8000000 in
set_option maxRecDepth 100000 in
theorem impl_areCells__impl_isOpen.calls (k : Nat) (a0 : ByteArray) (A1 : Option Addr) (c1 : Nat) (l1 : List Int)  (r : Bool) (w : World) (hr1 : Kd.C (Kd.int .i64) w A1 l1.length l1) (hc1 : l1.length ≤ c1) (h : impl_areCells__impl_isOpen.f k a0 l1 = some r) :
  Calls Tryz.prog 115 #[.string a0, .slice A1 l1.length c1, .func (.func 117) #[] #[]] w fun e w' => e = .returned (.bool r) ∧ Below w.heap.size w w' := by
 have hfd93_2 : ∀ (x0_ x1_ x2_ : Value) (W : World), (Instr.field 93 (.agg #[x0_, x1_, x2_]) 2).run Tryz.prog W = .ok x2_ W := fun _ _ _  _ => by kernel_rfl
 have HR1 := am hr1
 have HC1 := am hc1
 clear hr1 hc1
 have HB := am (Below.refl w.heap.size w)
 have H : ((impl_within.f (l1.length : Int) 1 3).bind fun t101 => (if t101 = true then ((impl_isNumber.f k a0 l1).bind fun t102 => (impl_areCells__impl_isOpen.j0 k a0 l1 (!t102))) else (impl_areCells__impl_isOpen.j0 k a0 l1 true))) = some r := h
 clear h
 have HC4 := am H
 clear H
 go_enter Tryz.func115, Tryz.ntmps115
 go_upto_region 1 with (fail)
 go_cut [18] (fun v18 wc => ∃ (kq : Nat) (x18_3 : Bool), v18 = .bool x18_3 ∧ Aside0 (impl_areCells__impl_isOpen.j0 kq a0 l1 x18_3 = some r) ∧ Aside0 (kq ≤ k) ∧ Aside0 (Below w.heap.size w wc))
 case first =>
  have H := HC4.out
  clear HC4
  obtain ⟨t101, A50, H⟩ := Option.bind_eq_some_iff.mp H
  have A5 := am A50
  clear A50
  by_cases c6 : t101 = true
  ·subst c6
   rw [if_pos rfl] at H
   obtain ⟨t102, A70, H⟩ := Option.bind_eq_some_iff.mp H
   have A7 := am A70
   clear A70
   have H' := am H
   clear H
   go_wp2_with (first | ((with_reducible refine gate_callee (f := 56) rfl ?_); refine goesL_ (some 11) rfl rfl Tryz.func56 (by kernel_rfl) rfl #[.int .i64 (l1.length : Int), .int .i64 1, .int .i64 3] rfl aq5 ?_; (with_reducible refine (impl_within.calls (l1.length : Int) 1 3 true _ A5.out).mono ?_); rintro e w' ⟨rfl, ⟨nd, rfl⟩⟩; refine ⟨_, rfl, ?_⟩) | (go_at_call 127; (with_reducible refine (impl_isNumber.calls k a0 _ _ l1 t102 _ ?side1 ?side2 A7.out).mono ?_); (case side1 => exact aq95); (case side2 => exact HC1.out); rintro e w8 ⟨rfl, hb⟩; have n0_ := am (below_step aq1 hb); clear HB; have HB := n0_; clear n0_; (try clear hb); (try clear hb2); (try clear hk); (try clear hi)))
   go_meet
   case rel => exact ⟨_, (!t102), aq7, H', ⟨aq107⟩, ⟨aq1⟩⟩
  ·replace c6 := Bool.eq_false_iff.mpr c6
   subst c6
   rw [if_neg Bool.false_ne_true] at H
   have H' := am H
   clear H
   go_wp2_with (first | ((with_reducible refine gate_callee (f := 56) rfl ?_); refine goesL_ (some 11) rfl rfl Tryz.func56 (by kernel_rfl) rfl #[.int .i64 (l1.length : Int), .int .i64 1, .int .i64 3] rfl aq5 ?_; (with_reducible refine (impl_within.calls (l1.length : Int) 1 3 false _ A5.out).mono ?_); rintro e w' ⟨rfl, ⟨nd, rfl⟩⟩; refine ⟨_, rfl, ?_⟩))
   go_meet
   case rel => exact ⟨_, (true), aq7, H', ⟨aq107⟩, ⟨aq1⟩⟩
 case rest =>
  clear HC4
  try clear c1
  try clear p2
  try clear c5
  try clear c6
  obtain ⟨kq, x18_3, rfl, HA, HJ3, HB⟩ := hcut
  cases kq with
  | zero => exact absurd HA.out (by simp [impl_areCells__impl_isOpen.j0])
  | succ kj3 =>
   have H := HA.out
   clear HA
   simp only [impl_areCells__impl_isOpen.j0] at H
   by_cases c9 : x18_3 = true
   ·subst c9
    rw [if_pos rfl] at H
    obtain rfl := Option.some.inj H
    go_wp2
    go_ret
    exact ⟨aq8, aq1⟩
   ·replace c9 := Bool.eq_false_iff.mpr c9
    subst c9
    rw [if_neg Bool.false_ne_true] at H
    have H' := am H
    clear H
    go_wp2
    go_loopg [21] kj3 (fun kq v21 w' => ∃ (x21_2 : Int), v21 = .int .i64 x21_2 ∧ Aside0 (impl_areCells__impl_isOpen.l0 kq a0 l1 l1 (l1.length : Int) x21_2 = some r) ∧ Aside0 (kq ≤ kj3) ∧ Aside0 (Below w.heap.size w w'))
    case atStart => exact ⟨(0), aq7, H', ⟨Nat.le_refl _⟩, ⟨aq1⟩⟩
    case round =>
     clear H'
     try clear c1
     try clear p2
     try clear c5
     try clear c6
     try clear c9
     try clear p2
     obtain ⟨x21_2, rfl, HA, HK2, HB⟩ := hrel
     cases gk with
     | zero => exact absurd HA.out (by simp [impl_areCells__impl_isOpen.l0])
     | succ k2 =>
      have H := HA.out
      clear HA
      simp only [impl_areCells__impl_isOpen.l0] at H
      by_cases c10 : x21_2 < (l1.length : Int)
      ·rw [if_pos c10] at H
       have c10b0 := decide_eq_true c10
       clear c10
       by_cases c11 : 0 ≤ x21_2
       ·rw [if_pos c11] at H
        have c11b0 := decide_eq_true c11
        clear c11
        by_cases c12 : x21_2 < (l1.length : Int)
        ·rw [if_pos c12] at H
         have c12b0 := decide_eq_true c12
         clear c12
         have c13b0 := eq_true (of_decide_eq_true aq4 : 0 ≤ x21_2)
         by_cases c14 : x21_2 ≤ (l1.length : Int)
         ·rw [if_pos c14] at H
          have c14b0 := eq_true c14
          have c14b1 := decide_eq_true c14
          clear c14
          obtain ⟨t105, A150, H⟩ := Option.bind_eq_some_iff.mp H
          have A15 := am A150
          clear A150
          by_cases c16 : t105 = true
          ·subst c16
           rw [if_pos rfl] at H
           obtain rfl := Option.some.inj H
           have p103 : 0 ≤ (x21_2 : Int) := of_decide_eq_true aq4
           have q103 : x21_2 < (l1.length : Int) := of_decide_eq_true aq4
           obtain ⟨ad103, e103, hx103_0⟩ := Kd.at_int HR1.out x21_2 p103 q103
           cases e103
           try replace hx103_0 := (HB.out.cell (World.block_lt_of_cell? w _ hx103_0)).trans hx103_0
           replace p103 := eq_true p103
           replace q103 := eq_true q103
           obtain ⟨i017, hi017, _, hsz17, _⟩ := info_parts info3
           obtain ⟨hcut17, hA17, hC17⟩ := print_take_of (P := Tryz.prog) (Value.int .i64) 0 28 3 .i64 Tryz.underlying28 hi017 hsz17 (some ad103) c1 l1 x21_2 (of_decide_eq_true aq4) (of_decide_eq_true aq4) HC1.out
           have HR104 := am (Kd.C_of_reads (h1 := fun _ => rfl) (hA17 _ (Kd.reads_of_C HR1.out)))
           have HC104 := am hC17
           clear hA17 hC17 hi017 hsz17
           go_wp2_with (first | ((with_reducible refine gate_callee (f := 111) rfl ?_); refine goesL_ (some 30) rfl rfl Tryz.func111 (by kernel_rfl) rfl #[.slice (some ad103) (l1.take (x21_2 : Int).toNat).length c1, .int .i64 (rd l1 x21_2)] rfl aq34 ?_; (with_reducible refine (slices_Contains_int_int.calls k2 _ _ (l1.take (x21_2 : Int).toNat) (rd l1 x21_2) true _ ?side1 ?side2 A15.out).mono ?_); (case side1 => exact aq36); (case side2 => exact HC104.out); rintro e w' ⟨rfl, ⟨nd, rfl⟩⟩; refine ⟨_, rfl, ?_⟩))
           go_ret
           exact ⟨aq8, aq1⟩
          ·replace c16 := Bool.eq_false_iff.mpr c16
           subst c16
           rw [if_neg Bool.false_ne_true] at H
           replace H := Option.bind_eq_some_iff.mp H
           obtain ⟨⟨t106, t107, t108⟩, A180, H⟩ := H
           replace H : (if 0 ≤ (rd l1 x21_2) then (if (rd l1 x21_2) < (t108.length : Int) then ((impl_isOpen.f (rd t108 (rd l1 x21_2))).bind fun t112 => (if t112 = true then (impl_areCells__impl_isOpen.l0 k2 a0 l1 l1 (l1.length : Int) (wrap64 (x21_2 + 1))) else (some false))) else (none)) else (none)) = some r := H
           have A18 := am A180
           clear A180
           by_cases c19 : 0 ≤ (rd l1 x21_2)
           ·rw [if_pos c19] at H
            have c19b0 := decide_eq_true c19
            clear c19
            by_cases c20 : (rd l1 x21_2) < (t108.length : Int)
            ·rw [if_pos c20] at H
             have c20b0 := decide_eq_true c20
             clear c20
             obtain ⟨t112, A210, H⟩ := Option.bind_eq_some_iff.mp H
             have A21 := am A210
             clear A210
             by_cases c22 : t112 = true
             ·subst c22
              rw [if_pos rfl] at H
              have H' := am H
              clear H
              have p103 : 0 ≤ (x21_2 : Int) := of_decide_eq_true aq4
              have q103 : x21_2 < (l1.length : Int) := of_decide_eq_true aq4
              obtain ⟨ad103, e103, hx103_0⟩ := Kd.at_int HR1.out x21_2 p103 q103
              cases e103
              try replace hx103_0 := (HB.out.cell (World.block_lt_of_cell? w _ hx103_0)).trans hx103_0
              replace p103 := eq_true p103
              replace q103 := eq_true q103
              obtain ⟨i023, hi023, _, hsz23, _⟩ := info_parts info3
              obtain ⟨hcut23, hA23, hC23⟩ := print_take_of (P := Tryz.prog) (Value.int .i64) 0 28 3 .i64 Tryz.underlying28 hi023 hsz23 (some ad103) c1 l1 x21_2 (of_decide_eq_true aq4) (of_decide_eq_true aq4) HC1.out
              have HR104 := am (Kd.C_of_reads (h1 := fun _ => rfl) (hA23 _ (Kd.reads_of_C HR1.out)))
              have HC104 := am hC23
              clear hA23 hC23 hi023 hsz23
              go_wp2_with (first | ((with_reducible refine gate_callee (f := 111) rfl ?_); refine goesL_ (some 30) rfl rfl Tryz.func111 (by kernel_rfl) rfl #[.slice (some ad103) (l1.take (x21_2 : Int).toNat).length c1, .int .i64 (rd l1 x21_2)] rfl aq34 ?_; (with_reducible refine (slices_Contains_int_int.calls k2 _ _ (l1.take (x21_2 : Int).toNat) (rd l1 x21_2) false _ ?side1 ?side2 A15.out).mono ?_); (case side1 => exact aq36); (case side2 => exact HC104.out); rintro e w' ⟨rfl, ⟨nd, rfl⟩⟩; refine ⟨_, rfl, ?_⟩) | (go_at_call 89; (with_reducible refine (impl_read.calls a0 t106 t107 t108 _ A18.out).mono ?_); rintro e w24 ⟨v109, rfl, ho0, hb⟩; have n0_ := am (Kd.V_lower (Kd.V_mono (ok' := fun k_ => True) ho0 (fun k_ hk_ => trivial)) (below_size aq1)); have n1_ := am (below_step aq1 hb); clear HB; have HO110 := n0_; have HB := n1_; clear n0_ n1_; (try clear hb); (try clear hb2); (try clear hk); (try clear hi); (try clear ho0); obtain ⟨Ao25, co25, eo25⟩ := Kd.V_slice HO110.out; subst eo25; have p111 : 0 ≤ ((rd l1 x21_2) : Int) := of_decide_eq_true aq4; have q111 : (rd l1 x21_2) < (t108.length : Int) := of_decide_eq_true aq4; obtain ⟨ad111, e111, hx111_0⟩ := Kd.at_int (Kd.V_reads' HO110.out).2.2 (rd l1 x21_2) p111 q111; cases e111; replace p111 := eq_true p111; replace q111 := eq_true q111) | (go_at_call 117; (with_reducible refine (impl_isOpen.calls (rd t108 (rd l1 x21_2)) true _ A21.out).mono ?_); rintro e w' ⟨rfl, ⟨nd, rfl⟩⟩))
              go_roundg k2
              case measure => have := HJ3.out; have := HK2.out; omega
              case rel => exact ⟨(wrap64 (x21_2 + 1)), aq7, H', ⟨by have := HJ3.out; have := HK2.out; omega⟩, ⟨aq1⟩⟩
             ·replace c22 := Bool.eq_false_iff.mpr c22
              subst c22
              rw [if_neg Bool.false_ne_true] at H
              obtain rfl := Option.some.inj H
              have p103 : 0 ≤ (x21_2 : Int) := of_decide_eq_true aq4
              have q103 : x21_2 < (l1.length : Int) := of_decide_eq_true aq4
              obtain ⟨ad103, e103, hx103_0⟩ := Kd.at_int HR1.out x21_2 p103 q103
              cases e103
              try replace hx103_0 := (HB.out.cell (World.block_lt_of_cell? w _ hx103_0)).trans hx103_0
              replace p103 := eq_true p103
              replace q103 := eq_true q103
              obtain ⟨i026, hi026, _, hsz26, _⟩ := info_parts info3
              obtain ⟨hcut26, hA26, hC26⟩ := print_take_of (P := Tryz.prog) (Value.int .i64) 0 28 3 .i64 Tryz.underlying28 hi026 hsz26 (some ad103) c1 l1 x21_2 (of_decide_eq_true aq4) (of_decide_eq_true aq4) HC1.out
              have HR104 := am (Kd.C_of_reads (h1 := fun _ => rfl) (hA26 _ (Kd.reads_of_C HR1.out)))
              have HC104 := am hC26
              clear hA26 hC26 hi026 hsz26
              go_wp2_with (first | ((with_reducible refine gate_callee (f := 111) rfl ?_); refine goesL_ (some 30) rfl rfl Tryz.func111 (by kernel_rfl) rfl #[.slice (some ad103) (l1.take (x21_2 : Int).toNat).length c1, .int .i64 (rd l1 x21_2)] rfl aq34 ?_; (with_reducible refine (slices_Contains_int_int.calls k2 _ _ (l1.take (x21_2 : Int).toNat) (rd l1 x21_2) false _ ?side1 ?side2 A15.out).mono ?_); (case side1 => exact aq36); (case side2 => exact HC104.out); rintro e w' ⟨rfl, ⟨nd, rfl⟩⟩; refine ⟨_, rfl, ?_⟩) | (go_at_call 89; (with_reducible refine (impl_read.calls a0 t106 t107 t108 _ A18.out).mono ?_); rintro e w27 ⟨v109, rfl, ho0, hb⟩; have n0_ := am (Kd.V_lower (Kd.V_mono (ok' := fun k_ => True) ho0 (fun k_ hk_ => trivial)) (below_size aq1)); have n1_ := am (below_step aq1 hb); clear HB; have HO110 := n0_; have HB := n1_; clear n0_ n1_; (try clear hb); (try clear hb2); (try clear hk); (try clear hi); (try clear ho0); obtain ⟨Ao28, co28, eo28⟩ := Kd.V_slice HO110.out; subst eo28; have p111 : 0 ≤ ((rd l1 x21_2) : Int) := of_decide_eq_true aq4; have q111 : (rd l1 x21_2) < (t108.length : Int) := of_decide_eq_true aq4; obtain ⟨ad111, e111, hx111_0⟩ := Kd.at_int (Kd.V_reads' HO110.out).2.2 (rd l1 x21_2) p111 q111; cases e111; replace p111 := eq_true p111; replace q111 := eq_true q111) | (go_at_call 117; (with_reducible refine (impl_isOpen.calls (rd t108 (rd l1 x21_2)) false _ A21.out).mono ?_); rintro e w' ⟨rfl, ⟨nd, rfl⟩⟩))
              go_ret
              exact ⟨aq8, aq1⟩
            ·rw [if_neg c20] at H
             exact absurd H (by simp)
           ·rw [if_neg c19] at H
            exact absurd H (by simp)
         ·rw [if_neg c14] at H
          exact absurd H (by simp)
        ·rw [if_neg c12] at H
         exact absurd H (by simp)
       ·rw [if_neg c11] at H
        exact absurd H (by simp)
      ·rw [if_neg c10] at H
       have c10b0 := decide_eq_false c10
       clear c10
       obtain rfl := Option.some.inj H
       go_wp2
       go_ret
       exact ⟨aq8, aq1⟩
def impl_isGate.f (k : Nat) (a0 : ByteArray) (l1 : List Int) (l2 : List Int) : Option (Bool) := (impl_IsTray.f k a0).bind fun t101 => (if t101 = true then ((impl_areCells__impl_isGate_1.f k a0 l1).bind fun t102 => (if t102 = true then ((impl_areCells__impl_isOpen.f k a0 l2).bind fun t103 => (some t103)) else (some false))) else (some false))
theorem impl_isGate.mono : ∀ a0 a1 a2 k, LeO (impl_isGate.f k a0 a1 a2) (impl_isGate.f (k + 1) a0 a1 a2) := by
 intro a0 a1 a2 k
 unfold impl_isGate.f
 have im0 := @impl_IsTray.mono; have im1 := @impl_areCells__impl_isGate_1.mono; have im2 := @impl_areCells__impl_isOpen.mono; exact mo
set_option maxHeartbeats 8000000 in
set_option maxRecDepth 100000 in
theorem impl_isGate.calls (k : Nat) (a0 : ByteArray) (A1 : Option Addr) (c1 : Nat) (l1 : List Int) (A2 : Option Addr) (c2 : Nat) (l2 : List Int) (r : Bool) (w : World) (hr1 : Kd.C (Kd.int .i64) w A1 l1.length l1) (hc1 : l1.length ≤ c1) (hr2 : Kd.C (Kd.int .i64) w A2 l2.length l2) (hc2 : l2.length ≤ c2) (h : impl_isGate.f k a0 l1 l2 = some r) :
  Calls Tryz.prog 64 #[.string a0, .slice A1 l1.length c1, .slice A2 l2.length c2] w fun e w' => e = .returned (.bool r) ∧ Below w.heap.size w w' := by
 have HR1 := am hr1
 have HC1 := am hc1
 clear hr1 hc1
 have HR2 := am hr2
 have HC2 := am hc2
 clear hr2 hc2
 have HB := am (Below.refl w.heap.size w)
 have H : ((impl_IsTray.f k a0).bind fun t101 => (if t101 = true then ((impl_areCells__impl_isGate_1.f k a0 l1).bind fun t102 => (if t102 = true then ((impl_areCells__impl_isOpen.f k a0 l2).bind fun t103 => (some t103)) else (some false))) else (some false))) = some r := h
 clear h
 obtain ⟨t101, A40, H⟩ := Option.bind_eq_some_iff.mp H
 have A4 := am A40
 clear A40
 by_cases c5 : t101 = true
 ·subst c5
  rw [if_pos rfl] at H
  obtain ⟨t102, A60, H⟩ := Option.bind_eq_some_iff.mp H
  have A6 := am A60
  clear A60
  by_cases c7 : t102 = true
  ·subst c7
   rw [if_pos rfl] at H
   obtain ⟨t103, A80, H⟩ := Option.bind_eq_some_iff.mp H
   have A8 := am A80
   clear A80
   obtain rfl := Option.some.inj H
   go_enter Tryz.func64, Tryz.ntmps64
   go_wp2_with (first | ((with_reducible refine gate_callee (f := 55) rfl ?_); refine goesL_ (some 8) rfl rfl Tryz.func55 (by kernel_rfl) rfl #[.string a0] rfl aq5 ?_; (with_reducible refine (impl_IsTray.calls k a0 true _ A4.out).mono ?_); rintro e w9 ⟨rfl, hb⟩; refine ⟨_, rfl, ?_⟩; have n0_ := am (below_step aq1 hb); clear HB; have HB := n0_; clear n0_; (try clear hb); (try clear hb2); (try clear hk); (try clear hi)) | (go_at_call 115; (with_reducible refine (impl_areCells__impl_isGate_1.calls k a0 _ _ l1  true _ ?side1 ?side2 A6.out).mono ?_); (case side1 => exact aq15); (case side2 => exact HC1.out); rintro e w10 ⟨rfl, hb⟩; have n0_ := am (below_step aq1 hb); clear HB; have HB := n0_; clear n0_; (try clear hb); (try clear hb2); (try clear hk); (try clear hi)) | (go_at_call 115; (with_reducible refine (impl_areCells__impl_isOpen.calls k a0 _ _ l2  t103 _ ?side1 ?side2 A8.out).mono ?_); (case side1 => exact aq92); (case side2 => exact HC2.out); rintro e w11 ⟨rfl, hb⟩; have n0_ := am (below_step aq1 hb); clear HB; have HB := n0_; clear n0_; (try clear hb); (try clear hb2); (try clear hk); (try clear hi)))
   go_ret
   exact ⟨aq8, aq1⟩
  ·replace c7 := Bool.eq_false_iff.mpr c7
   subst c7
   rw [if_neg Bool.false_ne_true] at H
   obtain rfl := Option.some.inj H
   go_enter Tryz.func64, Tryz.ntmps64
   go_wp2_with (first | ((with_reducible refine gate_callee (f := 55) rfl ?_); refine goesL_ (some 8) rfl rfl Tryz.func55 (by kernel_rfl) rfl #[.string a0] rfl aq5 ?_; (with_reducible refine (impl_IsTray.calls k a0 true _ A4.out).mono ?_); rintro e w12 ⟨rfl, hb⟩; refine ⟨_, rfl, ?_⟩; have n0_ := am (below_step aq1 hb); clear HB; have HB := n0_; clear n0_; (try clear hb); (try clear hb2); (try clear hk); (try clear hi)) | (go_at_call 115; (with_reducible refine (impl_areCells__impl_isGate_1.calls k a0 _ _ l1  false _ ?side1 ?side2 A6.out).mono ?_); (case side1 => exact aq15); (case side2 => exact HC1.out); rintro e w13 ⟨rfl, hb⟩; have n0_ := am (below_step aq1 hb); clear HB; have HB := n0_; clear n0_; (try clear hb); (try clear hb2); (try clear hk); (try clear hi)))
   go_ret
   exact ⟨aq8, aq1⟩
 ·replace c5 := Bool.eq_false_iff.mpr c5
  subst c5
  rw [if_neg Bool.false_ne_true] at H
  obtain rfl := Option.some.inj H
  go_enter Tryz.func64, Tryz.ntmps64
  go_wp2_with (first | ((with_reducible refine gate_callee (f := 55) rfl ?_); refine goesL_ (some 8) rfl rfl Tryz.func55 (by kernel_rfl) rfl #[.string a0] rfl aq5 ?_; (with_reducible refine (impl_IsTray.calls k a0 false _ A4.out).mono ?_); rintro e w14 ⟨rfl, hb⟩; refine ⟨_, rfl, ?_⟩; have n0_ := am (below_step aq1 hb); clear HB; have HB := n0_; clear n0_; (try clear hb); (try clear hb2); (try clear hk); (try clear hi)))
  go_ret
  exact ⟨aq8, aq1⟩
def spec_mcRead.f (k : Nat) (a0 : ByteArray) (a1 : ByteArray) : Option (Int × Int × List Int × Bool) := (spec_tyRead.f k a0).bind fun bt102 => (if bt102.2.2.2 = true then ((spec_tiWord.f k a1).bind fun t109 => (some (bt102.1, bt102.2.1, bt102.2.2.1, t109))) else (some (bt102.1, bt102.2.1, bt102.2.2.1, false)))
theorem spec_mcRead.mono : ∀ a0 a1 k, LeO (spec_mcRead.f k a0 a1) (spec_mcRead.f (k + 1) a0 a1) := by
 intro a0 a1 k
 unfold spec_mcRead.f
 have im0 := @spec_tiWord.mono; have im1 := @spec_tyRead.mono; exact mo
def spec_mcRead.T2 : Bool × List (List Nat × List Nat) := (true, [([], []), ([], []), ([1], [1]), ([2], [2]), ([3, 2, 2], [2, 3]), ([2, 4], [2, 4]), ([0, 4, 0], [0]), ([5, 6, 0, 1, 2, 3, 4, 5, 6], [5])])
def spec_mcRead.B2 : List Nat := [0, 0, 2, 6, 14, 30, 31, 127]
theorem spec_mcRead.tab2 : rtab .any (opsOf Tryz.f112 2) = spec_mcRead.T2 := by kernel_rfl
theorem spec_mcRead.bits2 : waitsOk spec_mcRead.T2.2 spec_mcRead.B2 = true := by kernel_rfl
set_option maxHeartbeats 8000000 in
set_option maxRecDepth 100000 in
theorem spec_mcRead.calls (k : Nat) (a0 : ByteArray) (a1 : ByteArray) (r1 : Int) (r2 : Int) (r3 : List Int) (r4 : Bool) (w : World) (h : spec_mcRead.f k a0 a1 = some (r1, r2, r3, r4)) :
  Calls Tryz.prog 112 #[.string a0, .string a1] w fun e w' => ∃ v2_ : Value, e = .returned (.tuple #[.agg #[.int .i64 r1, .int .i64 r2, v2_], .bool r4]) ∧ Kd.R (Kd.int .u8) 5 w' w.heap.size (fun _ => True) v2_ r3 ∧ Below w.heap.size w w' := by
 have hu62 := Tryz.underlying62
 have HB := am (Below.refl w.heap.size w)
 have H : ((spec_tyRead.f k a0).bind fun bt102 => (if bt102.2.2.2 = true then ((spec_tiWord.f k a1).bind fun t109 => (some (bt102.1, bt102.2.1, bt102.2.2.1, t109))) else (some (bt102.1, bt102.2.1, bt102.2.2.1, false)))) = some (r1, r2, r3, r4) := h
 clear h
 replace H := Option.bind_eq_some_iff.mp H
 obtain ⟨⟨t102, t103, t104, t107⟩, A30, H⟩ := H
 replace H : (if t107 = true then ((spec_tiWord.f k a1).bind fun t109 => (some (t102, t103, t104, t109))) else (some (t102, t103, t104, false))) = some (r1, r2, r3, r4) := H
 have A3 := am A30
 clear A30
 by_cases c4 : t107 = true
 ·subst c4
  rw [if_pos rfl] at H
  obtain ⟨t109, A50, H⟩ := Option.bind_eq_some_iff.mp H
  have A5 := am A50
  clear A50
  simp only [Option.some.injEq, Prod.mk.injEq] at H
  obtain ⟨rfl, rfl, rfl, rfl⟩ := H
  go_enter Tryz.func112, Tryz.ntmps112
  try go_wp2_with (first | ((with_reducible refine gate_dst (N := 4) rfl ?_); refine box_event ?hg (N := 4) ?hd (cs := #[.int .i64 0, .int .i64 0, .slice none 0 0]) (t := 62) ?hr ?_; (case hd => rfl); (case hg => rfl); (case hr => exact aq16); intro gb101 hg w6 hbox hb; have n0_ := am (below_step aq1 hb); have n1_ := am (hbox); have n2_ := am ((by rw [hg]; exact (below_size aq1) : w.heap.size ≤ gb101)); have n3_ := am ((by rw [hg]; exact (below_size aq1) : w.heap.size ≤ gb101)); clear HB; have HB := n0_; have BK101 := n1_; have GW101 := n2_; have GE101 := n3_; clear n0_ n1_ n2_ n3_; clear hb hbox hg) | ((with_reducible refine gate_callee (f := 51) rfl ?_); refine goesL_ (some 10) rfl rfl Tryz.func51 (by kernel_rfl) rfl #[.string a0] rfl aq5 ?_; (with_reducible refine (spec_tyRead.calls k a0 t102 t103 t104 true _ A3.out).mono ?_); rintro e w7 ⟨v105, rfl, ho0, hb⟩; refine ⟨_, rfl, ?_⟩; have n0_ := am (Kd.R_lower ho0 (below_size aq0)); have n1_ := am (blk_below (g := gb101) (o := .cells #[.int .i64 0, .int .i64 0, .slice none 0 0] 62 (0, 0)) aq2 hb); have n2_ := am (below_step aq0 hb); clear BK101; clear HB; have HO106 := n0_; have BK101 := n1_; have HB := n2_; clear n0_ n1_ n2_; (try clear hb); (try clear hb2); (try clear hk); (try clear hi); (try clear ho0)) | ((with_reducible refine gate_dst (N := 6) rfl ?_); refine box_event ?hg (N := 6) ?hd (cs := #[.int .i64 0, .int .i64 0, .slice none 0 0]) (t := 62) ?hr ?_; (case hd => rfl); (case hg => rfl); (case hr => exact aq16); intro gb108 hg w8 hbox hb; have n0_ := am (Kd.R_below aq29 hb); have n1_ := am (blk_below (g := gb101) (o := .cells #[.int .i64 0, .int .i64 0, .slice none 0 0] 62 (0, 0)) aq2 hb); have n2_ := am (below_step aq0 hb); have n3_ := am (hbox); have n4_ := am ((by rw [hg]; exact (below_size aq0) : w.heap.size ≤ gb108)); have n5_ := am ((by rw [hg]; exact (below_size aq0) : w.heap.size ≤ gb108)); have n6_ := am ((by rw [hg]; exact Nat.ne_of_lt (blk_lt (g := gb101) (o := .cells #[.int .i64 0, .int .i64 0, .slice none 0 0] 62 (0, 0)) aq2) : gb101 ≠ gb108)); have n7_ := am ((by rw [hg]; exact Nat.ne_of_gt (blk_lt (g := gb101) (o := .cells #[.int .i64 0, .int .i64 0, .slice none 0 0] 62 (0, 0)) aq2) : gb108 ≠ gb101)); clear HO106; clear BK101; clear HB; have HO106 := n0_; have BK101 := n1_; have HB := n2_; have BK108 := n3_; have GW108 := n4_; have GE108 := n5_; have NB101_108 := n6_; have NB108_101 := n7_; clear n0_ n1_ n2_ n3_ n4_ n5_ n6_ n7_; clear hb hbox hg; have hnb9 := NB108_101.out; have hnc9 := NB101_108.out; obtain ⟨hcz10_0, hcz10_1, hcz10_2, hfz10_0, hfz10_1, hfz10_2⟩ := blk3_ BK108.out; obtain ⟨Ao11, co11, eo11⟩ := Kd.R_slice HO106.out; subst eo11))
  have n0_ : Aside0 (Kd.R (Kd.int .u8) 5 (((w8.setCell ⟨gb108, 0, none⟩ (.int .i64 t102)).setCell ⟨gb108, 1, none⟩ (.int .i64 t103)).setCell ⟨gb108, 2, none⟩ (.slice Ao11 t104.length co11)) w.heap.size (fun _ => True) (.slice Ao11 t104.length co11) t104) := ⟨by (with_reducible repeat (first | apply Kd.R_alloc | apply Kd.R_drewN | apply Kd.R_drew)); exact Kd.R_mono (Kd.R_far (p := ⟨gb108, 2, none⟩) (Kd.R_far (p := ⟨gb108, 1, none⟩) (Kd.R_far (p := ⟨gb108, 0, none⟩) (Kd.R_types HO106.out BK108.out (by decide)) (fun _ hk => hk.2) (.int .i64 t102)) (fun _ hk => hk.2) (.int .i64 t103)) (fun _ hk => hk.2) (.slice Ao11 t104.length co11)) (fun _ hk => trivial)⟩
  have n1_ : Aside0 ((((w8.setCell ⟨gb108, 0, none⟩ (.int .i64 t102)).setCell ⟨gb108, 1, none⟩ (.int .i64 t103)).setCell ⟨gb108, 2, none⟩ (.slice Ao11 t104.length co11)).heap[gb101]? = some (.cells #[.int .i64 0, .int .i64 0, .slice none 0 0] 62 (0, 0))) := ⟨aq33⟩
  have n2_ : Aside0 ((((w8.setCell ⟨gb108, 0, none⟩ (.int .i64 t102)).setCell ⟨gb108, 1, none⟩ (.int .i64 t103)).setCell ⟨gb108, 2, none⟩ (.slice Ao11 t104.length co11)).heap[gb108]? = some (.cells #[.int .i64 t102, .int .i64 t103, .slice Ao11 t104.length co11] 62 (0, 0))) := ⟨aq12⟩
  have n3_ : Aside0 (Below w.heap.size w (((w8.setCell ⟨gb108, 0, none⟩ (.int .i64 t102)).setCell ⟨gb108, 1, none⟩ (.int .i64 t103)).setCell ⟨gb108, 2, none⟩ (.slice Ao11 t104.length co11))) := ⟨aq14⟩
  (try clear HO106)
  (try clear BK101)
  (try clear BK108)
  (try clear HB)
  generalize (((w8.setCell ⟨gb108, 0, none⟩ (.int .i64 t102)).setCell ⟨gb108, 1, none⟩ (.int .i64 t103)).setCell ⟨gb108, 2, none⟩ (.slice Ao11 t104.length co11)) = w12 at n0_ n1_ n2_ n3_ ⊢
  have HO106 := n0_
  have BK101 := n1_
  have BK108 := n2_
  have HB := n3_
  clear n0_ n1_ n2_ n3_
  have n0_ := am (Kd.R_drew HO106.out)
  have n1_ := am (blk_drew BK101.out)
  have n2_ := am (blk_drew BK108.out)
  have n3_ := am (below_drew1 HB.out)
  clear HO106
  clear BK101
  clear BK108
  clear HB
  have HO106 := n0_
  have BK101 := n1_
  have BK108 := n2_
  have HB := n3_
  clear n0_ n1_ n2_ n3_
  refine start_ (n := 8) (S := fun w' => w'.cell? ⟨gb108, 0, none⟩ = some (.int .i64 t102) ∧ w'.cell? ⟨gb108, 1, none⟩ = some (.int .i64 t103) ∧ w'.cell? ⟨gb108, 2, none⟩ = some (.slice Ao11 t104.length co11)) (ds := []) #[false, false, false, false, false, false, false, false] (by kernel_rfl) rfl rfl ⟨(blk_cell BK108.out 0).trans rfl, (blk_cell BK108.out 1).trans rfl, (blk_cell BK108.out 2).trans rfl⟩ (fun hHeld => ?_); refine with_tabW spec_mcRead.tab2 spec_mcRead.bits2 (fun HT_ HW_ => ?_)
  generalize w12.drew = w13 at HO106 BK101 BK108 HB hHeld ⊢
  refine pure_ (i := 1) (N := some 14) (v := ?_) (a' := ?_) (bm 8 2) rfl rfl (any_of HT_.out (by kernel_rfl)) (fun _ _ _ h => h) (Or.inl ⟨by rfl, ?_⟩) ?_ ?_
  rotate_left
  ·intro w'
   go_simp
   with_reducible rfl
  rotate_left
  ·simp only [Act.put, ac_]
   rfl
  refine pure_ (i := 2) (N := some 15) (v := ?_) (a' := ?_) (bm 8 6) rfl rfl (any_of HT_.out (by kernel_rfl)) (fun _ _ _ h => h) (Or.inl ⟨by rfl, ?_⟩) ?_ ?_
  rotate_left
  ·intro w'
   go_simp
   with_reducible rfl
  rotate_left
  ·simp only [Act.put, ac_]
   rfl
  refine pure_ (i := 3) (N := some 16) (v := ?_) (a' := ?_) (bm 8 14) rfl rfl (any_of HT_.out (by kernel_rfl)) (fun _ _ _ h => h) (Or.inl ⟨by rfl, ?_⟩) ?_ ?_
  rotate_left
  ·intro w'
   go_simp
   with_reducible rfl
  rotate_left
  ·simp only [Act.put, ac_]
   rfl
  refine take_ (i := 0) (N := some 13) (v := ?_) (a' := ?_) (bm 8 15) rfl rfl (take_ofW HT_.out HW_.out (by kernel_rfl)) (fun _ _ _ h => h) (Or.inl ⟨by rfl, ?_⟩) hHeld ?_ ?_
  rotate_left
  ·rintro w' ⟨s0, s1, s2⟩
   go_simp
   with_reducible rfl
  rotate_left
  ·simp only [Act.put, ac_]
   rfl
  refine one_ (i := 4) (N := some 17) (bm 8 31) rfl rfl (one_of HT_.out (by kernel_rfl)) (by decide) (fun K hK => ?_)
  refine goes_ Tryz.func84 (by kernel_rfl) rfl #[.string a1] (by rfl) rfl rfl aq5 ?_
  with_reducible refine (spec_tiWord.calls k a1 t109 _ A5.out).mono ?_
  rintro e w' ⟨rfl, ⟨nd, rfl⟩⟩
  refine ⟨_, rfl, ?_⟩
  refine hK.out _ _ ⟨(blk_cell BK108.out 0).trans rfl, (blk_cell BK108.out 1).trans rfl, (blk_cell BK108.out 2).trans rfl⟩ (fun hHeld => ?_)
  clear hK K
  refine norm_ (a' := ?_) ?_ ?_
  rotate_left
  ·show Act.put _ (some 17) _ = _
   simp only [Act.put, ac_]
   rfl
  refine pure_ (i := 5) (N := some 18) (v := ?_) (a' := ?_) (bm 8 63) rfl rfl (any_of HT_.out (by kernel_rfl)) (fun _ _ _ h => h) (Or.inl ⟨by rfl, ?_⟩) ?_ ?_
  rotate_left
  ·intro w'
   go_simp
   with_reducible rfl
  rotate_left
  ·simp only [Act.put, ac_]
   rfl
  refine one_ (i := 6) (N := none) (bm 8 127) rfl rfl (one_of HT_.out (by kernel_rfl)) (by decide) (fun K hK => ?_)
  have hs14 : w13.cell? ⟨gb101, 0, none⟩ = some (.int .i64 0) := (blk_cell BK101.out 0).trans rfl
  have hfs14 := blk_frozen BK101.out 0
  have hns14_1 := NB108_101.out
  have hms14_1 := NB101_108.out
  have hs15 : w13.cell? ⟨gb101, 1, none⟩ = some (.int .i64 0) := (blk_cell BK101.out 1).trans rfl
  have hfs15 := blk_frozen BK101.out 1
  have hns15_1 := NB108_101.out
  have hms15_1 := NB101_108.out
  have hs16 : w13.cell? ⟨gb101, 2, none⟩ = some (.slice none 0 0) := (blk_cell BK101.out 2).trans rfl
  have hfs16 := blk_frozen BK101.out 2
  have hns16_1 := NB108_101.out
  have hms16_1 := NB101_108.out
  refine skip_ (w1 := ?_) (by rfl) rfl ?_ ?_
  rotate_left
  ·go_simp
   rfl
  refine hK.out _ _ ⟨((cell_far (p := ⟨gb101, _, none⟩) NB108_101.out _).trans (((cell_far (p := ⟨gb101, _, none⟩) NB108_101.out _).trans (((cell_far (p := ⟨gb101, _, none⟩) NB108_101.out _).trans (hHeld.1)))))), ((cell_far (p := ⟨gb101, _, none⟩) NB108_101.out _).trans (((cell_far (p := ⟨gb101, _, none⟩) NB108_101.out _).trans (((cell_far (p := ⟨gb101, _, none⟩) NB108_101.out _).trans (hHeld.2.1)))))), ((cell_far (p := ⟨gb101, _, none⟩) NB108_101.out _).trans (((cell_far (p := ⟨gb101, _, none⟩) NB108_101.out _).trans (((cell_far (p := ⟨gb101, _, none⟩) NB108_101.out _).trans (hHeld.2.2))))))⟩ (fun hHeld => ?_)
  clear hK K
  refine pure_ (i := 7) (N := some 5) (v := ?_) (a' := ?_) (bm 8 255) rfl rfl (any_of HT_.out (by kernel_rfl)) (fun _ _ _ h => h) (Or.inl ⟨by rfl, ?_⟩) ?_ ?_
  rotate_left
  ·intro w'
   go_simp
   with_reducible rfl
  rotate_left
  ·simp only [Act.put, ac_]
   rfl
  refine done_ (done_of HT_.out (by kernel_rfl)) ?_
  try go_wp2
  refine bodyPost_ret (results_ct rfl _ _ gb101 62 #[.int .i64 t102, .int .i64 t103, .slice Ao11 t104.length co11] (0, 0) _ rfl aq32 Tryz.underlying62 rfl (by kernel_rfl)) rfl ?_
  exact ⟨_, aq8, by (with_reducible repeat (first | apply Kd.R_alloc | apply Kd.R_drewN | apply Kd.R_drew)); exact Kd.R_mono (Kd.R_far (p := ⟨gb101, 2, none⟩) (Kd.R_far (p := ⟨gb101, 1, none⟩) (Kd.R_far (p := ⟨gb101, 0, none⟩) (Kd.R_types HO106.out BK101.out (by decide)) (fun _ hk => hk.2) (.int .i64 t102)) (fun _ hk => hk.2) (.int .i64 t103)) (fun _ hk => hk.2) (.slice Ao11 t104.length co11)) (fun _ hk => trivial), aq14⟩
 ·replace c4 := Bool.eq_false_iff.mpr c4
  subst c4
  rw [if_neg Bool.false_ne_true] at H
  simp only [Option.some.injEq, Prod.mk.injEq] at H
  obtain ⟨rfl, rfl, rfl, rfl⟩ := H
  go_enter Tryz.func112, Tryz.ntmps112
  try go_wp2_with (first | ((with_reducible refine gate_dst (N := 4) rfl ?_); refine box_event ?hg (N := 4) ?hd (cs := #[.int .i64 0, .int .i64 0, .slice none 0 0]) (t := 62) ?hr ?_; (case hd => rfl); (case hg => rfl); (case hr => exact aq16); intro gb101 hg w17 hbox hb; have n0_ := am (below_step aq1 hb); have n1_ := am (hbox); have n2_ := am ((by rw [hg]; exact (below_size aq1) : w.heap.size ≤ gb101)); have n3_ := am ((by rw [hg]; exact (below_size aq1) : w.heap.size ≤ gb101)); clear HB; have HB := n0_; have BK101 := n1_; have GW101 := n2_; have GE101 := n3_; clear n0_ n1_ n2_ n3_; clear hb hbox hg) | ((with_reducible refine gate_callee (f := 51) rfl ?_); refine goesL_ (some 10) rfl rfl Tryz.func51 (by kernel_rfl) rfl #[.string a0] rfl aq5 ?_; (with_reducible refine (spec_tyRead.calls k a0 t102 t103 t104 false _ A3.out).mono ?_); rintro e w18 ⟨v105, rfl, ho0, hb⟩; refine ⟨_, rfl, ?_⟩; have n0_ := am (Kd.R_lower ho0 (below_size aq0)); have n1_ := am (blk_below (g := gb101) (o := .cells #[.int .i64 0, .int .i64 0, .slice none 0 0] 62 (0, 0)) aq2 hb); have n2_ := am (below_step aq0 hb); clear BK101; clear HB; have HO106 := n0_; have BK101 := n1_; have HB := n2_; clear n0_ n1_ n2_; (try clear hb); (try clear hb2); (try clear hk); (try clear hi); (try clear ho0)) | ((with_reducible refine gate_dst (N := 6) rfl ?_); refine box_event ?hg (N := 6) ?hd (cs := #[.int .i64 0, .int .i64 0, .slice none 0 0]) (t := 62) ?hr ?_; (case hd => rfl); (case hg => rfl); (case hr => exact aq16); intro gb108 hg w19 hbox hb; have n0_ := am (Kd.R_below aq29 hb); have n1_ := am (blk_below (g := gb101) (o := .cells #[.int .i64 0, .int .i64 0, .slice none 0 0] 62 (0, 0)) aq2 hb); have n2_ := am (below_step aq0 hb); have n3_ := am (hbox); have n4_ := am ((by rw [hg]; exact (below_size aq0) : w.heap.size ≤ gb108)); have n5_ := am ((by rw [hg]; exact (below_size aq0) : w.heap.size ≤ gb108)); have n6_ := am ((by rw [hg]; exact Nat.ne_of_lt (blk_lt (g := gb101) (o := .cells #[.int .i64 0, .int .i64 0, .slice none 0 0] 62 (0, 0)) aq2) : gb101 ≠ gb108)); have n7_ := am ((by rw [hg]; exact Nat.ne_of_gt (blk_lt (g := gb101) (o := .cells #[.int .i64 0, .int .i64 0, .slice none 0 0] 62 (0, 0)) aq2) : gb108 ≠ gb101)); clear HO106; clear BK101; clear HB; have HO106 := n0_; have BK101 := n1_; have HB := n2_; have BK108 := n3_; have GW108 := n4_; have GE108 := n5_; have NB101_108 := n6_; have NB108_101 := n7_; clear n0_ n1_ n2_ n3_ n4_ n5_ n6_ n7_; clear hb hbox hg; have hnb20 := NB108_101.out; have hnc20 := NB101_108.out; obtain ⟨hcz21_0, hcz21_1, hcz21_2, hfz21_0, hfz21_1, hfz21_2⟩ := blk3_ BK108.out; obtain ⟨Ao22, co22, eo22⟩ := Kd.R_slice HO106.out; subst eo22))
  have n0_ : Aside0 (Kd.R (Kd.int .u8) 5 (((w19.setCell ⟨gb108, 0, none⟩ (.int .i64 t102)).setCell ⟨gb108, 1, none⟩ (.int .i64 t103)).setCell ⟨gb108, 2, none⟩ (.slice Ao22 t104.length co22)) w.heap.size (fun _ => True) (.slice Ao22 t104.length co22) t104) := ⟨by (with_reducible repeat (first | apply Kd.R_alloc | apply Kd.R_drewN | apply Kd.R_drew)); exact Kd.R_mono (Kd.R_far (p := ⟨gb108, 2, none⟩) (Kd.R_far (p := ⟨gb108, 1, none⟩) (Kd.R_far (p := ⟨gb108, 0, none⟩) (Kd.R_types HO106.out BK108.out (by decide)) (fun _ hk => hk.2) (.int .i64 t102)) (fun _ hk => hk.2) (.int .i64 t103)) (fun _ hk => hk.2) (.slice Ao22 t104.length co22)) (fun _ hk => trivial)⟩
  have n1_ : Aside0 ((((w19.setCell ⟨gb108, 0, none⟩ (.int .i64 t102)).setCell ⟨gb108, 1, none⟩ (.int .i64 t103)).setCell ⟨gb108, 2, none⟩ (.slice Ao22 t104.length co22)).heap[gb101]? = some (.cells #[.int .i64 0, .int .i64 0, .slice none 0 0] 62 (0, 0))) := ⟨aq33⟩
  have n2_ : Aside0 ((((w19.setCell ⟨gb108, 0, none⟩ (.int .i64 t102)).setCell ⟨gb108, 1, none⟩ (.int .i64 t103)).setCell ⟨gb108, 2, none⟩ (.slice Ao22 t104.length co22)).heap[gb108]? = some (.cells #[.int .i64 t102, .int .i64 t103, .slice Ao22 t104.length co22] 62 (0, 0))) := ⟨aq12⟩
  have n3_ : Aside0 (Below w.heap.size w (((w19.setCell ⟨gb108, 0, none⟩ (.int .i64 t102)).setCell ⟨gb108, 1, none⟩ (.int .i64 t103)).setCell ⟨gb108, 2, none⟩ (.slice Ao22 t104.length co22))) := ⟨aq14⟩
  (try clear HO106)
  (try clear BK101)
  (try clear BK108)
  (try clear HB)
  generalize (((w19.setCell ⟨gb108, 0, none⟩ (.int .i64 t102)).setCell ⟨gb108, 1, none⟩ (.int .i64 t103)).setCell ⟨gb108, 2, none⟩ (.slice Ao22 t104.length co22)) = w23 at n0_ n1_ n2_ n3_ ⊢
  have HO106 := n0_
  have BK101 := n1_
  have BK108 := n2_
  have HB := n3_
  clear n0_ n1_ n2_ n3_
  have n0_ := am (Kd.R_drew HO106.out)
  have n1_ := am (blk_drew BK101.out)
  have n2_ := am (blk_drew BK108.out)
  have n3_ := am (below_drew1 HB.out)
  clear HO106
  clear BK101
  clear BK108
  clear HB
  have HO106 := n0_
  have BK101 := n1_
  have BK108 := n2_
  have HB := n3_
  clear n0_ n1_ n2_ n3_
  refine start_ (n := 8) (S := fun w' => w'.cell? ⟨gb108, 0, none⟩ = some (.int .i64 t102) ∧ w'.cell? ⟨gb108, 1, none⟩ = some (.int .i64 t103) ∧ w'.cell? ⟨gb108, 2, none⟩ = some (.slice Ao22 t104.length co22)) (ds := []) #[false, false, false, false, false, false, false, false] (by kernel_rfl) rfl rfl ⟨(blk_cell BK108.out 0).trans rfl, (blk_cell BK108.out 1).trans rfl, (blk_cell BK108.out 2).trans rfl⟩ (fun hHeld => ?_); refine with_tabW spec_mcRead.tab2 spec_mcRead.bits2 (fun HT_ HW_ => ?_)
  generalize w23.drew = w24 at HO106 BK101 BK108 HB hHeld ⊢
  refine pure_ (i := 1) (N := some 14) (v := ?_) (a' := ?_) (bm 8 2) rfl rfl (any_of HT_.out (by kernel_rfl)) (fun _ _ _ h => h) (Or.inl ⟨by rfl, ?_⟩) ?_ ?_
  rotate_left
  ·intro w'
   go_simp
   with_reducible rfl
  rotate_left
  ·simp only [Act.put, ac_]
   rfl
  refine pure_ (i := 2) (N := some 15) (v := ?_) (a' := ?_) (bm 8 6) rfl rfl (any_of HT_.out (by kernel_rfl)) (fun _ _ _ h => h) (Or.inl ⟨by rfl, ?_⟩) ?_ ?_
  rotate_left
  ·intro w'
   go_simp
   with_reducible rfl
  rotate_left
  ·simp only [Act.put, ac_]
   rfl
  refine pure_ (i := 3) (N := some 16) (v := undef) (a' := ?_) (bm 8 14) rfl rfl (any_of HT_.out (by kernel_rfl)) (fun _ _ _ h => h) (Or.inr ⟨by rfl, rfl⟩) ?_ ?_
  rotate_left
  ·simp only [Act.put, ac_]
   rfl
  refine pure_ (i := 4) (N := some 17) (v := undef) (a' := ?_) (bm 8 30) rfl rfl (any_of HT_.out (by kernel_rfl)) (fun _ _ _ h => h) (Or.inr ⟨by rfl, rfl⟩) ?_ ?_
  rotate_left
  ·simp only [Act.put, ac_]
   rfl
  refine pure_ (i := 5) (N := some 18) (v := ?_) (a' := ?_) (bm 8 62) rfl rfl (any_of HT_.out (by kernel_rfl)) (fun _ _ _ h => h) (Or.inl ⟨by rfl, ?_⟩) ?_ ?_
  rotate_left
  ·intro w'
   go_simp
   with_reducible rfl
  rotate_left
  ·simp only [Act.put, ac_]
   rfl
  refine take_ (i := 0) (N := some 13) (v := ?_) (a' := ?_) (bm 8 63) rfl rfl (take_ofW HT_.out HW_.out (by kernel_rfl)) (fun _ _ _ h => h) (Or.inl ⟨by rfl, ?_⟩) hHeld ?_ ?_
  rotate_left
  ·rintro w' ⟨s0, s1, s2⟩
   go_simp
   with_reducible rfl
  rotate_left
  ·simp only [Act.put, ac_]
   rfl
  refine one_ (i := 6) (N := none) (bm 8 127) rfl rfl (one_of HT_.out (by kernel_rfl)) (by decide) (fun K hK => ?_)
  have hs25 : w24.cell? ⟨gb101, 0, none⟩ = some (.int .i64 0) := (blk_cell BK101.out 0).trans rfl
  have hfs25 := blk_frozen BK101.out 0
  have hns25_1 := NB108_101.out
  have hms25_1 := NB101_108.out
  have hs26 : w24.cell? ⟨gb101, 1, none⟩ = some (.int .i64 0) := (blk_cell BK101.out 1).trans rfl
  have hfs26 := blk_frozen BK101.out 1
  have hns26_1 := NB108_101.out
  have hms26_1 := NB101_108.out
  have hs27 : w24.cell? ⟨gb101, 2, none⟩ = some (.slice none 0 0) := (blk_cell BK101.out 2).trans rfl
  have hfs27 := blk_frozen BK101.out 2
  have hns27_1 := NB108_101.out
  have hms27_1 := NB101_108.out
  refine skip_ (w1 := ?_) (by rfl) rfl ?_ ?_
  rotate_left
  ·go_simp
   rfl
  refine hK.out _ _ ⟨((cell_far (p := ⟨gb101, _, none⟩) NB108_101.out _).trans (((cell_far (p := ⟨gb101, _, none⟩) NB108_101.out _).trans (((cell_far (p := ⟨gb101, _, none⟩) NB108_101.out _).trans (hHeld.1)))))), ((cell_far (p := ⟨gb101, _, none⟩) NB108_101.out _).trans (((cell_far (p := ⟨gb101, _, none⟩) NB108_101.out _).trans (((cell_far (p := ⟨gb101, _, none⟩) NB108_101.out _).trans (hHeld.2.1)))))), ((cell_far (p := ⟨gb101, _, none⟩) NB108_101.out _).trans (((cell_far (p := ⟨gb101, _, none⟩) NB108_101.out _).trans (((cell_far (p := ⟨gb101, _, none⟩) NB108_101.out _).trans (hHeld.2.2))))))⟩ (fun hHeld => ?_)
  clear hK K
  refine pure_ (i := 7) (N := some 5) (v := ?_) (a' := ?_) (bm 8 255) rfl rfl (any_of HT_.out (by kernel_rfl)) (fun _ _ _ h => h) (Or.inl ⟨by rfl, ?_⟩) ?_ ?_
  rotate_left
  ·intro w'
   go_simp
   with_reducible rfl
  rotate_left
  ·simp only [Act.put, ac_]
   rfl
  refine done_ (done_of HT_.out (by kernel_rfl)) ?_
  try go_wp2
  refine bodyPost_ret (results_ct rfl _ _ gb101 62 #[.int .i64 t102, .int .i64 t103, .slice Ao22 t104.length co22] (0, 0) _ rfl aq32 Tryz.underlying62 rfl (by kernel_rfl)) rfl ?_
  exact ⟨_, aq8, by (with_reducible repeat (first | apply Kd.R_alloc | apply Kd.R_drewN | apply Kd.R_drew)); exact Kd.R_mono (Kd.R_far (p := ⟨gb101, 2, none⟩) (Kd.R_far (p := ⟨gb101, 1, none⟩) (Kd.R_far (p := ⟨gb101, 0, none⟩) (Kd.R_types HO106.out BK101.out (by decide)) (fun _ hk => hk.2) (.int .i64 t102)) (fun _ hk => hk.2) (.int .i64 t103)) (fun _ hk => hk.2) (.slice Ao22 t104.length co22)) (fun _ hk => trivial), aq14⟩
def spec_l1Has.l0 : Nat → Int → List Int → Int → Int → Option (Bool)
 | 0, _, _, _, _ => none
 | k + 1, x1, x7, x8, x9 => if x9 < x8 then (if 0 ≤ x9 then (if x9 < (x7.length : Int) then (if (rd x7 x9) = x1 then (some true) else (spec_l1Has.l0 k x1 x7 x8 (wrap64 (x9 + 1)))) else (none)) else (none)) else (some false)
def spec_l1Has.f (k : Nat) (l0 : List Int) (a1 : Int) : Option (Bool) := spec_l1Has.l0 k a1 l0 (l0.length : Int) 0
theorem spec_l1Has.mono_l : ∀ k, (∀ y0 y1 y2 y3, LeO (spec_l1Has.l0 k y0 y1 y2 y3) (spec_l1Has.l0 (k + 1) y0 y1 y2 y3))
 | 0 => fun _ _ _ _ r h => by simp [spec_l1Has.l0] at h
 | k + 1 => by
  have ih0 := spec_l1Has.mono_l k
  ·intro y0 y1 y2 y3
   unfold spec_l1Has.l0
   exact mo
theorem spec_l1Has.mono : ∀ a0 a1 k, LeO (spec_l1Has.f k a0 a1) (spec_l1Has.f (k + 1) a0 a1) := by
 intro a0 a1 k
 have ih0 := spec_l1Has.mono_l k
 unfold spec_l1Has.f
 exact mo
set_option maxHeartbeats 8000000 in
set_option maxRecDepth 100000 in
theorem spec_l1Has.calls (k : Nat) (A0 : Option Addr) (c0 : Nat) (l0 : List Int) (a1 : Int) (r : Bool) (w : World) (hr0 : Kd.C (Kd.int .i64) w A0 l0.length l0) (hc0 : l0.length ≤ c0) (h : spec_l1Has.f k l0 a1 = some r) :
  Calls Tryz.prog 79 #[.slice A0 l0.length c0, .int .i64 a1] w fun e w' => e = .returned (.bool r) ∧ Drawn0 w w' := by
 have HR0 := am hr0
 have HC0 := am hc0
 clear hr0 hc0
 have H : (spec_l1Has.l0 k a1 l0 (l0.length : Int) 0) = some r := h
 clear h
 have H' := am H
 clear H
 go_enter Tryz.func79, Tryz.ntmps79
 go_wp2
 go_loopg [9] k (fun kq v9 w' => ∃ (x9_1 : Int), v9 = .int .i64 x9_1 ∧ Aside0 (spec_l1Has.l0 kq a1 l0 (l0.length : Int) x9_1 = some r) ∧ Aside0 (kq ≤ k) ∧ Drawn0 w w')
 case atStart => exact ⟨(0), aq7, H', ⟨Nat.le_refl _⟩, aq11⟩
 case round =>
  clear H'
  try clear p2
  obtain ⟨x9_1, rfl, HA, HK1, ⟨m1, rfl⟩⟩ := hrel
  cases gk with
  | zero => exact absurd HA.out (by simp [spec_l1Has.l0])
  | succ k1 =>
   have H := HA.out
   clear HA
   simp only [spec_l1Has.l0] at H
   by_cases c3 : x9_1 < (l0.length : Int)
   ·rw [if_pos c3] at H
    have c3b0 := decide_eq_true c3
    clear c3
    by_cases c4 : 0 ≤ x9_1
    ·rw [if_pos c4] at H
     have c4b0 := decide_eq_true c4
     clear c4
     by_cases c5 : x9_1 < (l0.length : Int)
     ·rw [if_pos c5] at H
      have c5b0 := decide_eq_true c5
      clear c5
      by_cases c6 : (rd l0 x9_1) = a1
      ·rw [if_pos c6] at H
       have c6b0 := beq_iff_eq.mpr c6
       have c6b1 := bne_eq_false_iff_eq.mpr c6
       clear c6
       obtain rfl := Option.some.inj H
       have p101 : 0 ≤ (x9_1 : Int) := of_decide_eq_true aq4
       have q101 : x9_1 < (l0.length : Int) := of_decide_eq_true aq4
       obtain ⟨ad101, e101, hx101_0⟩ := Kd.at_int HR0.out x9_1 p101 q101
       cases e101
       replace p101 := eq_true p101
       replace q101 := eq_true q101
       go_wp2
       go_ret
       exact ⟨aq7, aq11⟩
      ·rw [if_neg c6] at H
       have c6b0 := beq_eq_false_iff_ne.mpr c6
       have c6b1 := bne_iff_ne.mpr c6
       have H' := am H
       clear H
       have p101 : 0 ≤ (x9_1 : Int) := of_decide_eq_true aq4
       have q101 : x9_1 < (l0.length : Int) := of_decide_eq_true aq4
       obtain ⟨ad101, e101, hx101_0⟩ := Kd.at_int HR0.out x9_1 p101 q101
       cases e101
       replace p101 := eq_true p101
       replace q101 := eq_true q101
       go_wp2
       go_roundg k1
       case measure => have := HK1.out; omega
       case rel => exact ⟨(wrap64 (x9_1 + 1)), aq7, H', ⟨aq73⟩, aq11⟩
     ·rw [if_neg c5] at H
      exact absurd H (by simp)
    ·rw [if_neg c4] at H
     exact absurd H (by simp)
   ·rw [if_neg c3] at H
    have c3b0 := decide_eq_false c3
    clear c3
    obtain rfl := Option.some.inj H
    go_wp2
    go_ret
    exact ⟨aq7, aq11⟩
end Go.Proofs.YtdffgeoegdkiaaaGreatDoor.F
