/- The proof that the law's row holds, part 4: the kit's words, the printed walks and the plain law. No conditions beyond the card's own. -/
import Derived.Laws.BitsLemmas
import Derived.Test.YtipjmlcbbimfpaaGreatDoorM0
import Derived.Test.YtipjmlcbbimfpaaGreatDoorM1
import Derived.Test.YtipjmlcbbimfpaaGreatDoorM2
import Derived.Test.YtipjmlcbbimfpaaGreatDoorM3
namespace Go.Proofs.YtipjmlcbbimfpaaGreatDoor.F
open Go.Proofs.YtipjmlcbbimfpaaGreatDoor
open Go.RowKit Go.Proofs.YtipjmlcbbimfpaaGreatDoorW.PrintWords Go.Proofs.YtipjmlcbbimfpaaGreatDoorW.PrintLast Go.Proofs.YtipjmlcbbimfpaaGreatDoorW.PrintMore
attribute [local go_sem] max2_int min2_int max_two min_two max_three min_three max_four min_four   -- for this text's walks alone
set_option linter.unusedVariables false
set_option linter.unusedSimpArgs false
def IsS84 (w0 W : World) (g : Nat) (f0 : List Int) (f1 : Int) (f2 : Int) : Prop := ∃ A0 c0, W.heap[g]? = some (.cells #[.slice A0 f0.length c0, .int .i64 f1, .int .u64 f2] 84 (0, 0)) ∧ w0.heap.size ≤ g ∧ Kd.C (Kd.int .u8) w0 A0 f0.length f0
theorem IsS84.grown {w0 W : World} {g : Nat} {f0 : List Int} {f1 : Int} {f2 : Int} {W1 : World} {row : Option Nat} (h : IsS84 w0 W g f0 f1 f2) (hw : W.grownBy W1 row) (hne : some g ≠ row) : IsS84 w0 W1 g f0 f1 f2 := by
 obtain ⟨A0, c0, hb, hg, hr0⟩ := h
 exact ⟨A0, c0, blk_grown hb hw hne, hg, hr0⟩
theorem IsS84.kept {w0 W : World} {g : Nat} {f0 : List Int} {f1 : Int} {f2 : Int} {W1 : World} {S : Nat → Prop} (h : IsS84 w0 W g f0 f1 f2) (hk : Kept W W1 S) (hne : ¬ S g) : IsS84 w0 W1 g f0 f1 f2 := by
 obtain ⟨A0, c0, hb, hg, hr0⟩ := h
 exact ⟨A0, c0, blk_kept hb hk hne, hg, hr0⟩
theorem IsS84.below {w0 W : World} {g : Nat} {f0 : List Int} {f1 : Int} {f2 : Int} {W1 : World} (h : IsS84 w0 W g f0 f1 f2) (hw : Below W.heap.size W W1) : IsS84 w0 W1 g f0 f1 f2 := h.grown (grown_of_below hw none) (by simp)
theorem IsS84.alloc {w0 W : World} {g : Nat} {f0 : List Int} {f1 : Int} {f2 : Int} (h : IsS84 w0 W g f0 f1 f2) (o : Obj) : IsS84 w0 (W.alloc o) g f0 f1 f2 := h.below (below_alloc (Below.refl _ _) o)
theorem IsS84.drewN {w0 W : World} {g : Nat} {f0 : List Int} {f1 : Int} {f2 : Int} (h : IsS84 w0 W g f0 f1 f2) (m : Nat) : IsS84 w0 (W.drewN m) g f0 f1 f2 := h
theorem IsS84.drew {w0 W : World} {g : Nat} {f0 : List Int} {f1 : Int} {f2 : Int} (h : IsS84 w0 W g f0 f1 f2) : IsS84 w0 W.drew g f0 f1 f2 := h
theorem IsS84.at_ {w0 W : World} {g : Nat} {f0 : List Int} {f1 : Int} {f2 : Int} {w' : World} {m : Nat} (hq : W.drewN m = w') (h : IsS84 w0 W g f0 f1 f2) : IsS84 w0 w' g f0 f1 f2 := by subst hq; exact IsS84.drewN h m
theorem IsS84.apart {w0 W : World} {g : Nat} {f0 : List Int} {f1 : Int} {f2 : Int} {α : Type} {d : Kd α} {e : Nat} {base : Nat} {ok : Nat → Prop} {v : Value} {xs : List α} (h : IsS84 w0 W g f0 f1 f2) (ho : d.R e W base ok v xs) (ht : ∀ q, q ∈ e :: d.E → q ≠ 84) : d.R e W base (fun k => ok k ∧ k ≠ g) v xs := by
 obtain ⟨A0, c0, hb, hg, hr0⟩ := h
 exact Kd.R_types ho hb ht
theorem IsS84.own_ne {w0 W : World} {g : Nat} {f0 : List Int} {f1 : Int} {f2 : Int} {α : Type} {d : Kd α} {e : Nat} {base : Nat} {ok : Nat → Prop} {v : Value} {xs : List α} (h : IsS84 w0 W g f0 f1 f2) (ho : d.R e W base ok v xs) (ht : e ≠ 84) : some g ≠ v.ownBlock := by
 obtain ⟨A0, c0, hb, hg, hr0⟩ := h
 exact Kd.R_ne ho hb ht
theorem IsS84.lt {w0 W : World} {g : Nat} {f0 : List Int} {f1 : Int} {f2 : Int} (h : IsS84 w0 W g f0 f1 f2) : g < W.heap.size := by
 obtain ⟨A0, c0, hb, hg, hr0⟩ := h
 exact blk_lt hb
theorem IsS84.ge {w0 W : World} {g : Nat} {f0 : List Int} {f1 : Int} {f2 : Int} (h : IsS84 w0 W g f0 f1 f2) : w0.heap.size ≤ g := by
 obtain ⟨A0, c0, hb, hg, hr0⟩ := h
 exact hg
theorem IsS84.far {w0 W : World} {g : Nat} {f0 : List Int} {f1 : Int} {f2 : Int} {p : Addr} (h : IsS84 w0 W g f0 f1 f2) (hne : g ≠ p.block) (u : Value) : IsS84 w0 (W.setCell p u) g f0 f1 f2 := by
 obtain ⟨A0, c0, hb, hg, hr0⟩ := h
 exact ⟨A0, c0, blk_far hb hne u, hg, hr0⟩
theorem cellS84_0 {W : World} {g : Nat} {A0 : Option Addr} {c0 : Nat} {f0 : List Int} {f1 : Int} {f2 : Int} (h : W.heap[g]? = some (.cells #[.slice A0 f0.length c0, .int .i64 f1, .int .u64 f2] 84 (0, 0))) : W.cell? ⟨g, 0, none⟩ = some (.slice A0 f0.length c0) := (blk_cell h 0).trans rfl
theorem cellS84_1 {W : World} {g : Nat} {A0 : Option Addr} {c0 : Nat} {f0 : List Int} {f1 : Int} {f2 : Int} (h : W.heap[g]? = some (.cells #[.slice A0 f0.length c0, .int .i64 f1, .int .u64 f2] 84 (0, 0))) : W.cell? ⟨g, 1, none⟩ = some (.int .i64 f1) := (blk_cell h 1).trans rfl
theorem IsS84.set_1 {w0 W : World} {g : Nat} {f0 : List Int} {f1 : Int} {f2 : Int} (h : IsS84 w0 W g f0 f1 f2) (x : Int) : IsS84 w0 (W.setCell ⟨g, 1, none⟩ (.int .i64 x)) g f0 x f2 := by
 obtain ⟨A0, c0, hb, hg, hr0⟩ := h
 exact ⟨A0, c0, by simpa using blk_set hb 1 (.int .i64 x), hg, hr0⟩
theorem cellS84_2 {W : World} {g : Nat} {A0 : Option Addr} {c0 : Nat} {f0 : List Int} {f1 : Int} {f2 : Int} (h : W.heap[g]? = some (.cells #[.slice A0 f0.length c0, .int .i64 f1, .int .u64 f2] 84 (0, 0))) : W.cell? ⟨g, 2, none⟩ = some (.int .u64 f2) := (blk_cell h 2).trans rfl
theorem IsS84.set_2 {w0 W : World} {g : Nat} {f0 : List Int} {f1 : Int} {f2 : Int} (h : IsS84 w0 W g f0 f1 f2) (x : Int) : IsS84 w0 (W.setCell ⟨g, 2, none⟩ (.int .u64 x)) g f0 f1 x := by
 obtain ⟨A0, c0, hb, hg, hr0⟩ := h
 exact ⟨A0, c0, by simpa using blk_set hb 2 (.int .u64 x), hg, hr0⟩
theorem IsS84.new (w0 W : World) (A0 : Option Addr) (c0 : Nat) (f0 : List Int) (f1 : Int) (f2 : Int) (hB : Below w0.heap.size w0 W) (hr0 : Kd.C (Kd.int .u8) w0 A0 f0.length f0) : IsS84 w0 (W.alloc (.cells #[.slice A0 f0.length c0, .int .i64 f1, .int .u64 f2] 84)) W.heap.size f0 f1 f2 := ⟨A0, c0, by simpa using heap_alloc_new W _, hB.size, hr0⟩
def spec_l1Cur_next.f (s0_0 : List Int) (s0_1 : Int) (s0_2 : Int) : Option (Int × Int × Int) := if s0_1 < (s0_0.length : Int) then (if 0 ≤ s0_1 then (if (wrap64 (s0_1 + 1)) ≤ (s0_0.length : Int) then (some (wrap64 (rd s0_0 s0_1), wrap64 (s0_1 + 1), IntKind.u64.wrap ((IntKind.u64.wrap ((IntKind.u64.wrap (s0_2 * 6364136223846793005)) + (IntKind.u64.wrap (wrap64 (rd s0_0 s0_1))))) + 1442695040888963407))) else (some (wrap64 (Go.bits .and .u64 ((IntKind.u64.wrap ((IntKind.u64.wrap ((IntKind.u64.wrap (s0_2 * 6364136223846793005)) + (IntKind.u64.wrap (wrap64 (rd s0_0 s0_1))))) + 1442695040888963407)) / 1099511627776) 255), wrap64 (s0_1 + 1), IntKind.u64.wrap ((IntKind.u64.wrap ((IntKind.u64.wrap (s0_2 * 6364136223846793005)) + (IntKind.u64.wrap (wrap64 (rd s0_0 s0_1))))) + 1442695040888963407)))) else (none)) else (if (wrap64 (s0_1 + 1)) ≤ (s0_0.length : Int) then (some (0, wrap64 (s0_1 + 1), IntKind.u64.wrap ((IntKind.u64.wrap ((IntKind.u64.wrap (s0_2 * 6364136223846793005)))) + 1442695040888963407))) else (some (wrap64 (Go.bits .and .u64 ((IntKind.u64.wrap ((IntKind.u64.wrap ((IntKind.u64.wrap (s0_2 * 6364136223846793005)))) + 1442695040888963407)) / 1099511627776) 255), wrap64 (s0_1 + 1), IntKind.u64.wrap ((IntKind.u64.wrap ((IntKind.u64.wrap (s0_2 * 6364136223846793005)))) + 1442695040888963407))))
set_option maxHeartbeats 8000000 in
set_option maxRecDepth 100000 in
theorem spec_l1Cur_next.calls (g : Nat) (s0_0 : List Int) (s0_1 : Int) (s0_2 : Int) (r1 : Int) (r2 : Int) (r3 : Int) (w0 w : World) (hI : IsS84 w0 w g s0_0 s0_1 s0_2) (hB : Below w0.heap.size w0 w) (h : spec_l1Cur_next.f s0_0 s0_1 s0_2 = some (r1, r2, r3)) :
  Calls Tryz.prog 150 #[.pointer (some ⟨g, 0, none⟩)] w fun e w' => e = .returned (.int .i64 r1) ∧ IsS84 w0 w' g s0_0 r2 r3 ∧ Below w0.heap.size w0 w' ∧ KeepBut w w' g none := by
 have HI0 := Aside0.mk hI
 have HK := Aside0.mk (KeepBut.refl w g none)
 have HL := Aside0.mk hB.size
 clear hI
 have HW0 := Aside0.mk hB.size
 have HB := Aside0.mk hB
 clear hB
 have H : (if s0_1 < (s0_0.length : Int) then (if 0 ≤ s0_1 then (if (wrap64 (s0_1 + 1)) ≤ (s0_0.length : Int) then (some (wrap64 (rd s0_0 s0_1), wrap64 (s0_1 + 1), IntKind.u64.wrap ((IntKind.u64.wrap ((IntKind.u64.wrap (s0_2 * 6364136223846793005)) + (IntKind.u64.wrap (wrap64 (rd s0_0 s0_1))))) + 1442695040888963407))) else (some (wrap64 (Go.bits .and .u64 ((IntKind.u64.wrap ((IntKind.u64.wrap ((IntKind.u64.wrap (s0_2 * 6364136223846793005)) + (IntKind.u64.wrap (wrap64 (rd s0_0 s0_1))))) + 1442695040888963407)) / 1099511627776) 255), wrap64 (s0_1 + 1), IntKind.u64.wrap ((IntKind.u64.wrap ((IntKind.u64.wrap (s0_2 * 6364136223846793005)) + (IntKind.u64.wrap (wrap64 (rd s0_0 s0_1))))) + 1442695040888963407)))) else (none)) else (if (wrap64 (s0_1 + 1)) ≤ (s0_0.length : Int) then (some (0, wrap64 (s0_1 + 1), IntKind.u64.wrap ((IntKind.u64.wrap ((IntKind.u64.wrap (s0_2 * 6364136223846793005)))) + 1442695040888963407))) else (some (wrap64 (Go.bits .and .u64 ((IntKind.u64.wrap ((IntKind.u64.wrap ((IntKind.u64.wrap (s0_2 * 6364136223846793005)))) + 1442695040888963407)) / 1099511627776) 255), wrap64 (s0_1 + 1), IntKind.u64.wrap ((IntKind.u64.wrap ((IntKind.u64.wrap (s0_2 * 6364136223846793005)))) + 1442695040888963407))))) = some (r1, r2, r3) := h
 clear h
 by_cases c2 : s0_1 < (s0_0.length : Int)
 ·rw [if_pos c2] at H
  have c2b0 : decide (s0_1 < (s0_0.length : Int)) = true := decide_eq_true c2
  clear c2
  by_cases c3 : 0 ≤ s0_1
  ·rw [if_pos c3] at H
   have c3b0 : decide (0 ≤ s0_1) = true := decide_eq_true c3
   clear c3
   by_cases c4 : (wrap64 (s0_1 + 1)) ≤ (s0_0.length : Int)
   ·rw [if_pos c4] at H
    have c4b0 : decide ((wrap64 (s0_1 + 1)) ≤ (s0_0.length : Int)) = true := decide_eq_true c4
    clear c4
    simp only [Option.some.injEq, Prod.mk.injEq] at H
    obtain ⟨rfl, rfl, rfl⟩ := H
    obtain ⟨ASz5_0, cSz5_0, HGz5, hgz5, HSz5_0⟩ := HI0.out
    have hcz5_0 := cellS84_0 HGz5
    have hcz5_1 := cellS84_1 HGz5
    have hcz5_2 := cellS84_2 HGz5
    have hfz5_1 := blk_frozen HGz5 1
    have hfz5_2 := blk_frozen HGz5 2
    clear HGz5 hgz5
    have p101 : 0 ≤ (s0_1 : Int) := of_decide_eq_true aq9
    have q101 : s0_1 < (s0_0.length : Int) := of_decide_eq_true aq9
    obtain ⟨ad101, e101, hx101_0⟩ := Kd.at_int HSz5_0 s0_1 p101 q101
    cases e101
    replace hx101_0 := pw_cell_below HB.out hx101_0
    replace p101 := eq_true p101
    replace q101 := eq_true q101
    go_enter Tryz.func150, Tryz.ntmps150
    go_wp2
    repeat (go_quiet (fail); try go_wp2)
    go_ret
    exact ⟨aq8, aq4, aq3, aq2⟩
   ·rw [if_neg c4] at H
    have c4b0 : decide ((wrap64 (s0_1 + 1)) ≤ (s0_0.length : Int)) = false := decide_eq_false c4
    clear c4
    simp only [Option.some.injEq, Prod.mk.injEq] at H
    obtain ⟨rfl, rfl, rfl⟩ := H
    obtain ⟨ASz6_0, cSz6_0, HGz6, hgz6, HSz6_0⟩ := HI0.out
    have hcz6_0 := cellS84_0 HGz6
    have hcz6_1 := cellS84_1 HGz6
    have hcz6_2 := cellS84_2 HGz6
    have hfz6_1 := blk_frozen HGz6 1
    have hfz6_2 := blk_frozen HGz6 2
    clear HGz6 hgz6
    have p101 : 0 ≤ (s0_1 : Int) := of_decide_eq_true aq9
    have q101 : s0_1 < (s0_0.length : Int) := of_decide_eq_true aq9
    obtain ⟨ad101, e101, hx101_0⟩ := Kd.at_int HSz6_0 s0_1 p101 q101
    cases e101
    replace hx101_0 := pw_cell_below HB.out hx101_0
    replace p101 := eq_true p101
    replace q101 := eq_true q101
    go_enter Tryz.func150, Tryz.ntmps150
    go_wp2
    repeat (go_quiet (fail); try go_wp2)
    go_ret
    exact ⟨aq8, aq4, aq3, aq2⟩
  ·rw [if_neg c3] at H
   exact absurd H (by simp)
 ·rw [if_neg c2] at H
  have c2b0 : decide (s0_1 < (s0_0.length : Int)) = false := decide_eq_false c2
  clear c2
  by_cases c7 : (wrap64 (s0_1 + 1)) ≤ (s0_0.length : Int)
  ·rw [if_pos c7] at H
   have c7b0 : decide ((wrap64 (s0_1 + 1)) ≤ (s0_0.length : Int)) = true := decide_eq_true c7
   clear c7
   simp only [Option.some.injEq, Prod.mk.injEq] at H
   obtain ⟨rfl, rfl, rfl⟩ := H
   obtain ⟨ASz8_0, cSz8_0, HGz8, hgz8, HSz8_0⟩ := HI0.out
   have hcz8_0 := cellS84_0 HGz8
   have hcz8_1 := cellS84_1 HGz8
   have hcz8_2 := cellS84_2 HGz8
   have hfz8_1 := blk_frozen HGz8 1
   have hfz8_2 := blk_frozen HGz8 2
   clear HGz8 hgz8
   go_enter Tryz.func150, Tryz.ntmps150
   go_wp2
   repeat (go_quiet (fail); try go_wp2)
   go_ret
   exact ⟨aq8, aq4, aq3, aq2⟩
  ·rw [if_neg c7] at H
   have c7b0 : decide ((wrap64 (s0_1 + 1)) ≤ (s0_0.length : Int)) = false := decide_eq_false c7
   clear c7
   simp only [Option.some.injEq, Prod.mk.injEq] at H
   obtain ⟨rfl, rfl, rfl⟩ := H
   obtain ⟨ASz9_0, cSz9_0, HGz9, hgz9, HSz9_0⟩ := HI0.out
   have hcz9_0 := cellS84_0 HGz9
   have hcz9_1 := cellS84_1 HGz9
   have hcz9_2 := cellS84_2 HGz9
   have hfz9_1 := blk_frozen HGz9 1
   have hfz9_2 := blk_frozen HGz9 2
   clear HGz9 hgz9
   go_enter Tryz.func150, Tryz.ntmps150
   go_wp2
   repeat (go_quiet (fail); try go_wp2)
   go_ret
   exact ⟨aq8, aq4, aq3, aq2⟩
end Go.Proofs.YtipjmlcbbimfpaaGreatDoor.F

namespace Go.Proofs.YtipjmlcbbimfpaaGreatDoor.F
open Go.Proofs.YtipjmlcbbimfpaaGreatDoor
open Go.RowKit Go.Proofs.YtipjmlcbbimfpaaGreatDoorW.PrintWords Go.Proofs.YtipjmlcbbimfpaaGreatDoorW.PrintLast Go.Proofs.YtipjmlcbbimfpaaGreatDoorW.PrintMore
attribute [local go_sem] max2_int min2_int max_two min_two max_three min_three max_four min_four   -- for this text's walks alone
set_option linter.unusedVariables false
set_option linter.unusedSimpArgs false
def spec_l1Cur_pick.f (s0_0 : List Int) (s0_1 : Int) (s0_2 : Int) (a1 : Int) : Option (Int × Int × Int) := if a1 ≤ 1 then (some (0, s0_1, s0_2)) else ((spec_l1Cur_next.f s0_0 s0_1 s0_2).bind fun bt101 => (if a1 > 200 then ((spec_l1Cur_next.f s0_0 bt101.2.1 bt101.2.2).bind fun bt104 => (if a1 = 0 then (none) else (some (Int.tmod (wrap64 ((wrap64 (bt101.1 * 256)) + bt104.1)) a1, bt104.2.1, bt104.2.2)))) else (if a1 = 0 then (none) else (some (Int.tmod bt101.1 a1, bt101.2.1, bt101.2.2)))))
set_option maxHeartbeats 8000000 in
set_option maxRecDepth 100000 in
theorem spec_l1Cur_pick.calls (g : Nat) (s0_0 : List Int) (s0_1 : Int) (s0_2 : Int) (a1 : Int) (r1 : Int) (r2 : Int) (r3 : Int) (w0 w : World) (hI : IsS84 w0 w g s0_0 s0_1 s0_2) (hB : Below w0.heap.size w0 w) (h : spec_l1Cur_pick.f s0_0 s0_1 s0_2 a1 = some (r1, r2, r3)) :
  Calls Tryz.prog 94 #[.pointer (some ⟨g, 0, none⟩), .int .i64 a1] w fun e w' => e = .returned (.int .i64 r1) ∧ IsS84 w0 w' g s0_0 r2 r3 ∧ Below w0.heap.size w0 w' ∧ KeepBut w w' g none := by
 have HI0 := Aside0.mk hI
 have HK := Aside0.mk (KeepBut.refl w g none)
 have HL := Aside0.mk hB.size
 clear hI
 have HW0 := Aside0.mk hB.size
 have HB := Aside0.mk hB
 clear hB
 have H : (if a1 ≤ 1 then (some (0, s0_1, s0_2)) else ((spec_l1Cur_next.f s0_0 s0_1 s0_2).bind fun bt101 => (if a1 > 200 then ((spec_l1Cur_next.f s0_0 bt101.2.1 bt101.2.2).bind fun bt104 => (if a1 = 0 then (none) else (some (Int.tmod (wrap64 ((wrap64 (bt101.1 * 256)) + bt104.1)) a1, bt104.2.1, bt104.2.2)))) else (if a1 = 0 then (none) else (some (Int.tmod bt101.1 a1, bt101.2.1, bt101.2.2)))))) = some (r1, r2, r3) := h
 clear h
 by_cases c3 : a1 ≤ 1
 ·rw [if_pos c3] at H
  have c3b0 : decide (a1 ≤ 1) = true := decide_eq_true c3
  clear c3
  simp only [Option.some.injEq, Prod.mk.injEq] at H
  obtain ⟨rfl, rfl, rfl⟩ := H
  go_enter Tryz.func94, Tryz.ntmps94
  go_wp2
  go_ret
  exact ⟨aq8, aq4, aq3, aq2⟩
 ·rw [if_neg c3] at H
  have c3b0 : decide (a1 ≤ 1) = false := decide_eq_false c3
  clear c3
  replace H := Option.bind_eq_some_iff.mp H
  obtain ⟨⟨t101, t102, t103⟩, A40, H⟩ := H
  replace H : (if a1 > 200 then ((spec_l1Cur_next.f s0_0 t102 t103).bind fun bt104 => (if a1 = 0 then (none) else (some (Int.tmod (wrap64 ((wrap64 (t101 * 256)) + bt104.1)) a1, bt104.2.1, bt104.2.2)))) else (if a1 = 0 then (none) else (some (Int.tmod t101 a1, t102, t103)))) = some (r1, r2, r3) := H
  have A4 := Aside0.mk A40
  clear A40
  by_cases c5 : a1 > 200
  ·rw [if_pos c5] at H
   have c5b0 : decide (200 < a1) = true := decide_eq_true c5
   clear c5
   replace H := Option.bind_eq_some_iff.mp H
   obtain ⟨⟨t104, t105, t106⟩, A60, H⟩ := H
   replace H : (if a1 = 0 then (none) else (some (Int.tmod (wrap64 ((wrap64 (t101 * 256)) + t104)) a1, t105, t106))) = some (r1, r2, r3) := H
   have A6 := Aside0.mk A60
   clear A60
   by_cases c7 : a1 = 0
   ·rw [if_pos c7] at H
    exact absurd H (by simp)
   ·rw [if_neg c7] at H
    have c7b0 : (a1 == 0) = false := beq_eq_false_iff_ne.mpr c7
    have c7b1 : (a1 != 0) = true := bne_iff_ne.mpr c7
    simp only [Option.some.injEq, Prod.mk.injEq] at H
    obtain ⟨rfl, rfl, rfl⟩ := H
    go_enter Tryz.func94, Tryz.ntmps94
    go_wp2_with (first | ((with_reducible refine gate_callee (f := 150) rfl ?_); refine goesL_ (some 9) rfl rfl Tryz.func150 (by kernel_rfl) rfl #[.pointer (some ⟨g, 0, none⟩)] rfl aq1 ?_; (with_reducible refine (spec_l1Cur_next.calls g s0_0 s0_1 s0_2 t101 t102 t103 w0 _ ?side1 ?side2 A4.out).mono ?_); (case side1 => exact aq4); (case side2 => exact aq3); rintro e w8 ⟨rfl, hi, hb, hk⟩; refine ⟨_, rfl, ?_⟩; have n0_ := Aside0.mk (KeepBut.trans aq2 hk (.inl rfl)); have n1_ := Aside0.mk (hb); have n2_ := Aside0.mk (hi); clear HK; clear HB; clear HI0; have HK := n0_; have HB := n1_; have HI0 := n2_; clear n0_ n1_ n2_; (try clear hb); (try clear hb2); (try clear hk); (try clear hi)) | ((with_reducible refine gate_callee (f := 150) rfl ?_); refine goesL_ (some 15) rfl rfl Tryz.func150 (by kernel_rfl) rfl #[.pointer (some ⟨g, 0, none⟩)] rfl aq1 ?_; (with_reducible refine (spec_l1Cur_next.calls g s0_0 t102 t103 t104 t105 t106 w0 _ ?side1 ?side2 A6.out).mono ?_); (case side1 => exact aq4); (case side2 => exact aq3); rintro e w9 ⟨rfl, hi, hb, hk⟩; refine ⟨_, rfl, ?_⟩; have n0_ := Aside0.mk (KeepBut.trans aq2 hk (.inl rfl)); have n1_ := Aside0.mk (hb); have n2_ := Aside0.mk (hi); clear HK; clear HB; clear HI0; have HK := n0_; have HB := n1_; have HI0 := n2_; clear n0_ n1_ n2_; (try clear hb); (try clear hb2); (try clear hk); (try clear hi)))
    go_ret
    exact ⟨aq8, aq4, aq3, aq2⟩
  ·rw [if_neg c5] at H
   have c5b0 : decide (200 < a1) = false := decide_eq_false c5
   clear c5
   by_cases c10 : a1 = 0
   ·rw [if_pos c10] at H
    exact absurd H (by simp)
   ·rw [if_neg c10] at H
    have c10b0 : (a1 == 0) = false := beq_eq_false_iff_ne.mpr c10
    have c10b1 : (a1 != 0) = true := bne_iff_ne.mpr c10
    simp only [Option.some.injEq, Prod.mk.injEq] at H
    obtain ⟨rfl, rfl, rfl⟩ := H
    go_enter Tryz.func94, Tryz.ntmps94
    go_wp2_with (first | ((with_reducible refine gate_callee (f := 150) rfl ?_); refine goesL_ (some 9) rfl rfl Tryz.func150 (by kernel_rfl) rfl #[.pointer (some ⟨g, 0, none⟩)] rfl aq1 ?_; (with_reducible refine (spec_l1Cur_next.calls g s0_0 s0_1 s0_2 t101 t102 t103 w0 _ ?side1 ?side2 A4.out).mono ?_); (case side1 => exact aq4); (case side2 => exact aq3); rintro e w11 ⟨rfl, hi, hb, hk⟩; refine ⟨_, rfl, ?_⟩; have n0_ := Aside0.mk (KeepBut.trans aq2 hk (.inl rfl)); have n1_ := Aside0.mk (hb); have n2_ := Aside0.mk (hi); clear HK; clear HB; clear HI0; have HK := n0_; have HB := n1_; have HI0 := n2_; clear n0_ n1_ n2_; (try clear hb); (try clear hb2); (try clear hk); (try clear hi)))
    go_ret
    exact ⟨aq8, aq4, aq3, aq2⟩
end Go.Proofs.YtipjmlcbbimfpaaGreatDoor.F

namespace Go.Proofs.YtipjmlcbbimfpaaGreatDoor.F
open Go.Proofs.YtipjmlcbbimfpaaGreatDoor
open Go.RowKit Go.Proofs.YtipjmlcbbimfpaaGreatDoorW.PrintWords Go.Proofs.YtipjmlcbbimfpaaGreatDoorW.PrintLast Go.Proofs.YtipjmlcbbimfpaaGreatDoorW.PrintMore
attribute [local go_sem] max2_int min2_int max_two min_two max_three min_three max_four min_four   -- for this text's walks alone
set_option linter.unusedVariables false
set_option linter.unusedSimpArgs false
def spec_tyEmpty.l0 : Nat → Int → Int → Int → Int → Int → List Int → Option (Int × Int × List Int)
 | 0, _, _, _, _, _, _ => none
 | k + 1, x0, x1, x6, x103000, x103001, x103002 => if x6 < (wrap64 (x0 * x1)) then (if x103002.length < 140737488355328 then (spec_tyEmpty.l0 k x0 x1 (wrap64 (x6 + 1)) x103000 x103001 (x103002 ++ [46])) else (none)) else (some (x103000, x103001, x103002))
def spec_tyEmpty.f (k : Nat) (a0 : Int) (a1 : Int) : Option (Int × Int × List Int) := spec_tyEmpty.l0 k a0 a1 0 a0 a1 ([] : List Int)
set_option maxHeartbeats 8000000 in
set_option maxRecDepth 100000 in
theorem spec_tyEmpty.calls (k : Nat) (a0 : Int) (a1 : Int) (r1 : Int) (r2 : Int) (r3 : List Int) (w : World) (h : spec_tyEmpty.f k a0 a1 = some (r1, r2, r3)) :
  Calls Tryz.prog 113 #[.int .i64 a0, .int .i64 a1] w fun e w' => ∃ v2_ : Value, e = .returned (.agg #[.int .i64 r1, .int .i64 r2, v2_]) ∧ Kd.R (Kd.int .u8) 5 w' w.heap.size (fun _ => True) v2_ r3 ∧ Below w.heap.size w w' := by
 have hu66 := Tryz.underlying66
 have HB := Aside0.mk (Below.refl w.heap.size w)
 have H : (spec_tyEmpty.l0 k a0 a1 0 a0 a1 ([] : List Int)) = some (r1, r2, r3) := h
 clear h
 have H' := Aside0.mk H
 clear H
 go_enter Tryz.func113, Tryz.ntmps113
 go_wp2_with (first | ((with_reducible refine gate_dst (N := 4) rfl ?_); refine box_event ?hg (N := 4) ?hd (cs := #[.int .i64 0, .int .i64 0, .slice none 0 0]) (t := 66) ?hr ?_; (case hd => rfl); (case hg => rfl); (case hr => exact aq23); intro gb101 hg w3 hbox hb; have n0_ := Aside0.mk (below_step aq0 hb); have n1_ := Aside0.mk (hbox); have n2_ := Aside0.mk ((by rw [hg]; exact (below_size aq0) : w.heap.size ≤ gb101)); have n3_ := Aside0.mk ((by rw [hg]; exact (below_size aq0) : w.heap.size ≤ gb101)); clear HB; have HB := n0_; have BK101 := n1_; have GW101 := n2_; have GE101 := n3_; clear n0_ n1_ n2_ n3_; clear hb hbox hg) | ((with_reducible refine gate_dst (N := 5) rfl ?_); refine box_event ?hg (N := 5) ?hd (cs := #[.int .i64 0, .int .i64 0, .slice none 0 0]) (t := 66) ?hr ?_; (case hd => rfl); (case hg => rfl); (case hr => exact aq23); intro gb102 hg w4 hbox hb; have n0_ := Aside0.mk (blk_below (g := gb101) (o := .cells #[.int .i64 0, .int .i64 0, .slice none 0 0] 66 (0, 0)) aq5 hb); have n1_ := Aside0.mk (below_step aq6 hb); have n2_ := Aside0.mk (hbox); have n3_ := Aside0.mk ((by rw [hg]; exact (below_size aq6) : w.heap.size ≤ gb102)); have n4_ := Aside0.mk ((by rw [hg]; exact (below_size aq6) : w.heap.size ≤ gb102)); have n5_ := Aside0.mk ((by rw [hg]; exact Nat.ne_of_lt (blk_lt (g := gb101) (o := .cells #[.int .i64 0, .int .i64 0, .slice none 0 0] 66 (0, 0)) aq5) : gb101 ≠ gb102)); have n6_ := Aside0.mk ((by rw [hg]; exact Nat.ne_of_gt (blk_lt (g := gb101) (o := .cells #[.int .i64 0, .int .i64 0, .slice none 0 0] 66 (0, 0)) aq5) : gb102 ≠ gb101)); clear BK101; clear HB; have BK101 := n0_; have HB := n1_; have BK102 := n2_; have GW102 := n3_; have GE102 := n4_; have NB101_102 := n5_; have NB102_101 := n6_; clear n0_ n1_ n2_ n3_ n4_ n5_ n6_; clear hb hbox hg; have hnb5 := NB102_101.out; have hnc5 := NB101_102.out; have hcz6_0 : w4.cell? ⟨gb102, 0, none⟩ = some (.int .i64 0) := (blk_cell BK102.out 0).trans rfl; have hcz6_1 : w4.cell? ⟨gb102, 1, none⟩ = some (.int .i64 0) := (blk_cell BK102.out 1).trans rfl; have hcz6_2 : w4.cell? ⟨gb102, 2, none⟩ = some (.slice none 0 0) := (blk_cell BK102.out 2).trans rfl; have hfz6_0 := blk_frozen BK102.out 0; have hfz6_1 := blk_frozen BK102.out 1; have hfz6_2 := blk_frozen BK102.out 2))
 go_loopg [6] k (fun kq v6 w' => ∃ (x6_1 : Int) (x103002_1 : List Int) (u103002 : Value), v6 = .int .i64 x6_1 ∧ Aside0 (spec_tyEmpty.l0 kq a0 a1 x6_1 a0 a1 x103002_1 = some (r1, r2, r3)) ∧ Aside0 (kq ≤ k) ∧ Aside0 (Kd.R (Kd.int .u8) 5 w' w.heap.size (fun _ => True) u103002 x103002_1) ∧ Aside0 (w'.heap[gb101]? = some (.cells #[.int .i64 0, .int .i64 0, (.slice none 0 0)] 66 (0, 0))) ∧ Aside0 (w'.heap[gb102]? = some (.cells #[.int .i64 a0, .int .i64 a1, u103002] 66 (0, 0))) ∧ Aside0 (Below w.heap.size w w'))
 case atStart => exact ⟨(0), (([] : List Int)), (.slice none 0 0), aq11, H', ⟨Nat.le_refl _⟩, ⟨aq30⟩, ⟨aq58⟩, ⟨by (with_reducible repeat (first | refine blk_drewN ?_ _ | refine blk_drew ?_ | refine blk_alloc ?_ _)); refine blk_put (cs := #[.int .i64 a0, .int .i64 a1, .slice none 0 0]) ?_ 2 _ rfl; (with_reducible repeat (first | refine blk_drewN ?_ _ | refine blk_drew ?_ | refine blk_alloc ?_ _)); refine blk_put (cs := #[.int .i64 a0, .int .i64 0, .slice none 0 0]) ?_ 1 _ rfl; (with_reducible repeat (first | refine blk_drewN ?_ _ | refine blk_drew ?_ | refine blk_alloc ?_ _)); refine blk_put (cs := #[.int .i64 0, .int .i64 0, .slice none 0 0]) ?_ 0 _ rfl; (with_reducible repeat (first | refine blk_drewN ?_ _ | refine blk_drew ?_ | refine blk_alloc ?_ _)); exact BK102.out⟩, ⟨aq7⟩⟩
 case round =>
  clear H'
  try clear c1
  try clear p2
  try clear c5
  try clear hcz6_0
  try clear hcz6_1
  try clear hcz6_2
  try clear hfz6_0
  try clear hfz6_1
  try clear hfz6_2
  obtain ⟨x6_1, x103002_1, u103002, rfl, HA, HK1, HO_103002, BK101, BK102, HB⟩ := hrel
  cases gk with
  | zero => exact absurd HA.out (by simp [spec_tyEmpty.l0])
  | succ k1 =>
   have H := HA.out
   clear HA
   simp only [spec_tyEmpty.l0] at H
   by_cases c7 : x6_1 < (wrap64 (a0 * a1))
   ·rw [if_pos c7] at H
    have c7b0 : decide (x6_1 < (wrap64 (a0 * a1))) = true := decide_eq_true c7
    clear c7
    by_cases c8 : x103002_1.length < 140737488355328
    ·rw [if_pos c8] at H
     have LMc8 := Aside0.mk c8
     clear c8
     obtain ⟨y103, hy103⟩ : ∃ y_ : List Int, y_ = (x103002_1 ++ [46]) := ⟨_, rfl⟩
     replace H : (spec_tyEmpty.l0 k1 a0 a1 (wrap64 (x6_1 + 1)) a0 a1 y103) = some (r1, r2, r3) := by first | (rw [hy103]; with_reducible exact H) | (have H2_ := (Option.bind_some _ _).symm.trans H; rw [hy103]; with_reducible exact H2_) | (have H2_ := (Option.bind_some _ _).symm.trans H; with_reducible exact H2_) | with_reducible exact H | (rw [hy103]; exact H) | exact H
     have Ny103 := Aside0.mk hy103
     clear hy103
     have H' := Aside0.mk H
     clear H
     have hnb9 := NB102_101.out
     have hnc9 := NB101_102.out
     have hcz10_0 : wr.cell? ⟨gb102, 0, none⟩ = some (.int .i64 a0) := (blk_cell BK102.out 0).trans rfl
     have hcz10_1 : wr.cell? ⟨gb102, 1, none⟩ = some (.int .i64 a1) := (blk_cell BK102.out 1).trans rfl
     have hcz10_2 : wr.cell? ⟨gb102, 2, none⟩ = some (u103002) := (blk_cell BK102.out 2).trans rfl
     have hfz10_0 := blk_frozen BK102.out 0
     have hfz10_1 := blk_frozen BK102.out 1
     have hfz10_2 := blk_frozen BK102.out 2
     go_wp2_with (first | ((with_reducible refine gate_builtin (b := .append) (xs := #[.tmp 18, .tmp 19]) rfl ?_); at_builtin; refine Kd.R_append (Kd.int .u8) (w0 := w) w.heap.size rfl (.tmp 18) (.tmp 19) 22 5 (.int .u8 0) 1 rfl Tryz.underlying22 info5 rfl (by decide) (by omega) u103002 x103002_1 46 [.int .u8 46] (fun _ => True) (fun _ => False) rfl rfl ?aP (fun _ hk => hk.elim) ?aF ?aO ?aB ?aS ?aL ?_; (case aP => exact rfl); (case aB => exact aq7); (case aF => exact (fun _ _ => trivial)); (case aO => exact aq27); (case aS => exact (below_size aq7)); (case aL => have := LMc8.out; omega); intro v104 w11 ho hb hg hat; rw [← Ny103.out] at ho; have n0_ := Aside0.mk (blk_grown (g := gb101) (o := .cells #[.int .i64 0, .int .i64 0, .slice none 0 0] 66 (0, 0)) aq5 hg (Kd.R_ne HO_103002.out BK101.out (by decide))); have n1_ := Aside0.mk (blk_grown (g := gb102) (o := .cells #[.int .i64 a0, .int .i64 a1, u103002] 66 (0, 0)) aq14 hg (Kd.R_ne HO_103002.out BK102.out (by decide))); have n2_ := Aside0.mk (hb); have n3_ := Aside0.mk (ho); clear BK101; clear BK102; clear HB; clear HO_103002; have BK101 := n0_; have BK102 := n1_; have HB := n2_; have HO105 := n3_; clear n0_ n1_ n2_ n3_; clear ho hb hg hat; obtain ⟨Ao12, co12, eo12⟩ := Kd.R_slice HO105.out; subst eo12; have hcz13_0 : w11.cell? ⟨gb102, 0, none⟩ = some (.int .i64 a0) := (blk_cell BK102.out 0).trans rfl; have hcz13_1 : w11.cell? ⟨gb102, 1, none⟩ = some (.int .i64 a1) := (blk_cell BK102.out 1).trans rfl; have hcz13_2 : w11.cell? ⟨gb102, 2, none⟩ = some (u103002) := (blk_cell BK102.out 2).trans rfl; have hfz13_0 := blk_frozen BK102.out 0; have hfz13_1 := blk_frozen BK102.out 1; have hfz13_2 := blk_frozen BK102.out 2))
     go_roundg k1
     case measure => have := HK1.out; omega
     case rel => exact ⟨(wrap64 (x6_1 + 1)), (y103), (.slice Ao12 y103.length co12), aq11, H', ⟨aq83⟩, ⟨by (with_reducible repeat (first | apply Kd.R_alloc | apply Kd.R_drewN | apply Kd.R_drew)); exact Kd.R_mono (Kd.R_far (p := ⟨gb102, 2, none⟩) (Kd.R_types HO105.out BK102.out (by decide)) (fun _ hk => hk.2) (.slice Ao12 y103.length co12)) (fun _ hk => trivial)⟩, ⟨aq105⟩, ⟨by (with_reducible repeat (first | refine blk_drewN ?_ _ | refine blk_drew ?_ | refine blk_alloc ?_ _)); refine blk_put (cs := #[.int .i64 a0, .int .i64 a1, u103002]) ?_ 2 _ rfl; (with_reducible repeat (first | refine blk_drewN ?_ _ | refine blk_drew ?_ | refine blk_alloc ?_ _)); exact BK102.out⟩, ⟨aq7⟩⟩
    ·rw [if_neg c8] at H
     exact absurd H (by simp)
   ·rw [if_neg c7] at H
    have c7b0 : decide (x6_1 < (wrap64 (a0 * a1))) = false := decide_eq_false c7
    clear c7
    simp only [Option.some.injEq, Prod.mk.injEq] at H
    obtain ⟨rfl, rfl, rfl⟩ := H
    have hnb14 := NB102_101.out
    have hnc14 := NB101_102.out
    have hcz15_0 : wr.cell? ⟨gb102, 0, none⟩ = some (.int .i64 a0) := (blk_cell BK102.out 0).trans rfl
    have hcz15_1 : wr.cell? ⟨gb102, 1, none⟩ = some (.int .i64 a1) := (blk_cell BK102.out 1).trans rfl
    have hcz15_2 : wr.cell? ⟨gb102, 2, none⟩ = some (u103002) := (blk_cell BK102.out 2).trans rfl
    have hfz15_0 := blk_frozen BK102.out 0
    have hfz15_1 := blk_frozen BK102.out 1
    have hfz15_2 := blk_frozen BK102.out 2
    have hcz16_0 : wr.cell? ⟨gb101, 0, none⟩ = some (.int .i64 0) := (blk_cell BK101.out 0).trans rfl
    have hcz16_1 : wr.cell? ⟨gb101, 1, none⟩ = some (.int .i64 0) := (blk_cell BK101.out 1).trans rfl
    have hcz16_2 : wr.cell? ⟨gb101, 2, none⟩ = some (.slice none 0 0) := (blk_cell BK101.out 2).trans rfl
    have hfz16_0 := blk_frozen BK101.out 0
    have hfz16_1 := blk_frozen BK101.out 1
    have hfz16_2 := blk_frozen BK101.out 2
    obtain ⟨Ao17, co17, eo17⟩ := Kd.R_slice HO_103002.out
    subst eo17
    go_wp2
    refine bodyPost_ret (results_cell_row rfl _ _ gb101 66 #[.int .i64 a0, .int .i64 a1, .slice Ao17 x103002_1.length co17] (0, 0) _ rfl (by (with_reducible repeat (first | refine blk_drewN ?_ _ | refine blk_drew ?_ | refine blk_alloc ?_ _)); refine blk_put (cs := #[.int .i64 a0, .int .i64 a1, .slice none 0 0]) ?_ 2 _ rfl; (with_reducible repeat (first | refine blk_drewN ?_ _ | refine blk_drew ?_ | refine blk_alloc ?_ _)); refine blk_put (cs := #[.int .i64 a0, .int .i64 0, .slice none 0 0]) ?_ 1 _ rfl; (with_reducible repeat (first | refine blk_drewN ?_ _ | refine blk_drew ?_ | refine blk_alloc ?_ _)); refine blk_put (cs := #[.int .i64 0, .int .i64 0, .slice none 0 0]) ?_ 0 _ rfl; (with_reducible repeat (first | refine blk_drewN ?_ _ | refine blk_drew ?_ | refine blk_alloc ?_ _)); exact BK101.out) Tryz.underlying66 rfl (by kernel_rfl)) rfl ?_
    exact ⟨_, aq8, by (with_reducible repeat (first | apply Kd.R_alloc | apply Kd.R_drewN | apply Kd.R_drew)); exact Kd.R_mono (Kd.R_far (p := ⟨gb101, 2, none⟩) (Kd.R_far (p := ⟨gb101, 1, none⟩) (Kd.R_far (p := ⟨gb101, 0, none⟩) (Kd.R_types HO_103002.out BK101.out (by decide)) (fun _ hk => hk.2) (.int .i64 a0)) (fun _ hk => hk.2) (.int .i64 a1)) (fun _ hk => hk.2) (.slice Ao17 x103002_1.length co17)) (fun _ hk => trivial), aq7⟩
end Go.Proofs.YtipjmlcbbimfpaaGreatDoor.F

namespace Go.Proofs.YtipjmlcbbimfpaaGreatDoor.F
open Go.Proofs.YtipjmlcbbimfpaaGreatDoor
open Go.RowKit Go.Proofs.YtipjmlcbbimfpaaGreatDoorW.PrintWords Go.Proofs.YtipjmlcbbimfpaaGreatDoorW.PrintLast Go.Proofs.YtipjmlcbbimfpaaGreatDoorW.PrintMore
attribute [local go_sem] max2_int min2_int max_two min_two max_three min_three max_four min_four   -- for this text's walks alone
set_option linter.unusedVariables false
set_option linter.unusedSimpArgs false
def spec_l1Cur_one.f (s0_0 : List Int) (s0_1 : Int) (s0_2 : Int) (a1 : Int) : Option (Bool × Int × Int) := (spec_l1Cur_pick.f s0_0 s0_1 s0_2 a1).bind fun bt101 => (some ((bt101.1 == 0), bt101.2.1, bt101.2.2))
set_option maxHeartbeats 8000000 in
set_option maxRecDepth 100000 in
theorem spec_l1Cur_one.calls (g : Nat) (s0_0 : List Int) (s0_1 : Int) (s0_2 : Int) (a1 : Int) (r1 : Bool) (r2 : Int) (r3 : Int) (w0 w : World) (hI : IsS84 w0 w g s0_0 s0_1 s0_2) (hB : Below w0.heap.size w0 w) (h : spec_l1Cur_one.f s0_0 s0_1 s0_2 a1 = some (r1, r2, r3)) :
  Calls Tryz.prog 100 #[.pointer (some ⟨g, 0, none⟩), .int .i64 a1] w fun e w' => e = .returned (.bool r1) ∧ IsS84 w0 w' g s0_0 r2 r3 ∧ Below w0.heap.size w0 w' ∧ KeepBut w w' g none := by
 have HI0 := Aside0.mk hI
 have HK := Aside0.mk (KeepBut.refl w g none)
 have HL := Aside0.mk hB.size
 clear hI
 have HW0 := Aside0.mk hB.size
 have HB := Aside0.mk hB
 clear hB
 have H : ((spec_l1Cur_pick.f s0_0 s0_1 s0_2 a1).bind fun bt101 => (some ((bt101.1 == 0), bt101.2.1, bt101.2.2))) = some (r1, r2, r3) := h
 clear h
 replace H := Option.bind_eq_some_iff.mp H
 obtain ⟨⟨t101, t102, t103⟩, A30, H⟩ := H
 replace H : (some ((t101 == 0), t102, t103)) = some (r1, r2, r3) := H
 have A3 := Aside0.mk A30
 clear A30
 simp only [Option.some.injEq, Prod.mk.injEq] at H
 obtain ⟨rfl, rfl, rfl⟩ := H
 go_enter Tryz.func100, Tryz.ntmps100
 go_wp2_with (first | ((with_reducible refine gate_callee (f := 94) rfl ?_); refine goesL_ (some 7) rfl rfl Tryz.func94 (by kernel_rfl) rfl #[.pointer (some ⟨g, 0, none⟩), .int .i64 a1] rfl aq1 ?_; (with_reducible refine (spec_l1Cur_pick.calls g s0_0 s0_1 s0_2 a1 t101 t102 t103 w0 _ ?side1 ?side2 A3.out).mono ?_); (case side1 => exact aq4); (case side2 => exact aq3); rintro e w4 ⟨rfl, hi, hb, hk⟩; refine ⟨_, rfl, ?_⟩; have n0_ := Aside0.mk (KeepBut.trans aq2 hk (.inl rfl)); have n1_ := Aside0.mk (hb); have n2_ := Aside0.mk (hi); clear HK; clear HB; clear HI0; have HK := n0_; have HB := n1_; have HI0 := n2_; clear n0_ n1_ n2_; (try clear hb); (try clear hb2); (try clear hk); (try clear hi)))
 go_ret
 exact ⟨aq8, aq4, aq3, aq2⟩
end Go.Proofs.YtipjmlcbbimfpaaGreatDoor.F

namespace Go.Proofs.YtipjmlcbbimfpaaGreatDoor.F
open Go.Proofs.YtipjmlcbbimfpaaGreatDoor
open Go.RowKit Go.Proofs.YtipjmlcbbimfpaaGreatDoorW.PrintWords Go.Proofs.YtipjmlcbbimfpaaGreatDoorW.PrintLast Go.Proofs.YtipjmlcbbimfpaaGreatDoorW.PrintMore
attribute [local go_sem] max2_int min2_int max_two min_two max_three min_three max_four min_four   -- for this text's walks alone
set_option linter.unusedVariables false
set_option linter.unusedSimpArgs false
mutual
def spec_l1Cur_grid.l0 : Nat → Int → Int → List Int → Int → Int → Int → Int → List Int → Option (Int × Int × List Int × Int × Int)
 | 0, _, _, _, _, _, _, _, _ => none
 | k + 1, x3, x10, x1000, x1001, x1002, x114000, x114001, x114002 => if x10 > 0 then ((spec_l1Cur_pick.f x1000 x1001 x1002 (x114002.length : Int)).bind fun bt117 => (if 0 ≤ bt117.1 then (if bt117.1 < (x114002.length : Int) then (spec_l1Cur_grid.l0 k x3 (wrap64 (x10 - 1)) x1000 bt117.2.1 bt117.2.2 x114000 x114001 (x114002.set (bt117.1 : Int).toNat 35)) else (none)) else (none))) else ((spec_l1Cur_pick.f x1000 x1001 x1002 (wrap64 (x3 + 1))).bind fun bt121 => (spec_l1Cur_grid.l1 k (⟨#[97, 98, 99, 100, 101, 102]⟩ : ByteArray) bt121.1 x1000 bt121.2.1 bt121.2.2 x114000 x114001 x114002))
def spec_l1Cur_grid.l1 : Nat → ByteArray → Int → List Int → Int → Int → Int → Int → List Int → Option (Int × Int × List Int × Int × Int)
 | 0, _, _, _, _, _, _, _, _ => none
 | k + 1, x11, x12, x1000, x1001, x1002, x114000, x114001, x114002 => if x12 > 0 then ((spec_l1Cur_pick.f x1000 x1001 x1002 (x114002.length : Int)).bind fun bt124 => (if 0 ≤ bt124.1 then (if bt124.1 < (x114002.length : Int) then (if (rd x114002 bt124.1) = 46 then ((some (x114002.set (bt124.1 : Int).toNat 111 : List Int)).bind fun y128 => ((spec_l1Cur_one.f x1000 bt124.2.1 bt124.2.2 2).bind fun bt129 => (if bt129.1 = true then (if (x11.size : Int) > 0 then (if 0 < (x11.size : Int) then (if 1 ≤ (x11.size : Int) then (spec_l1Cur_grid.l1 k (x11.extract 1 x11.size) (wrap64 (x12 - 1)) x1000 bt129.2.1 bt129.2.2 x114000 x114001 (y128.set (bt124.1 : Int).toNat (bt x11 0))) else (none)) else (none)) else (spec_l1Cur_grid.l1 k x11 (wrap64 (x12 - 1)) x1000 bt129.2.1 bt129.2.2 x114000 x114001 y128)) else (spec_l1Cur_grid.l1 k x11 (wrap64 (x12 - 1)) x1000 bt129.2.1 bt129.2.2 x114000 x114001 y128)))) else (spec_l1Cur_grid.l1 k x11 (wrap64 (x12 - 1)) x1000 bt124.2.1 bt124.2.2 x114000 x114001 x114002)) else (none)) else (none))) else (some (x114000, x114001, x114002, x1001, x1002))
end
def spec_l1Cur_grid.f (k : Nat) (s0_0 : List Int) (s0_1 : Int) (s0_2 : Int) (a1 : Int) (a2 : Int) (a3 : Int) : Option (Int × Int × List Int × Int × Int) := (spec_l1Cur_pick.f s0_0 s0_1 s0_2 a1).bind fun bt102 => ((spec_l1Cur_pick.f s0_0 bt102.2.1 bt102.2.2 a2).bind fun bt105 => ((spec_tyEmpty.f k (wrap64 (1 + bt102.1)) (wrap64 (1 + bt105.1))).bind fun bt108 => ((spec_l1Cur_pick.f s0_0 bt105.2.1 bt105.2.2 (wrap64 (2 + (wrap64 ((bt108.2.2.length : Int) / 3))))).bind fun bt114 => (spec_l1Cur_grid.l0 k a3 bt114.1 s0_0 bt114.2.1 bt114.2.2 bt108.1 bt108.2.1 bt108.2.2))))
def spec_l1Cur_grid.T5 : Bool × List (List Nat × List Nat) := (true, [([], []), ([0], [0]), ([], []), ([], []), ([3], [3]), ([4], [4]), ([2, 5], [2, 5]), ([1, 6, 0, 1, 2, 3, 4, 5, 6], [1, 6]), ([7, 6, 0, 1, 2, 3, 4, 5, 6], [7])])
def spec_l1Cur_grid.B5 : List Nat := [0, 1, 0, 0, 8, 24, 60, 127, 255]
theorem spec_l1Cur_grid.tab5 : rtab .any (opsOf Tryz.f99 5) = spec_l1Cur_grid.T5 := by kernel_rfl
theorem spec_l1Cur_grid.bits5 : waitsOk spec_l1Cur_grid.T5.2 spec_l1Cur_grid.B5 = true := by kernel_rfl
set_option maxHeartbeats 8000000 in
set_option maxRecDepth 100000 in
theorem spec_l1Cur_grid.calls (k : Nat) (g : Nat) (s0_0 : List Int) (s0_1 : Int) (s0_2 : Int) (a1 : Int) (a2 : Int) (a3 : Int) (r1 : Int) (r2 : Int) (r3 : List Int) (r4 : Int) (r5 : Int) (w0 w : World) (hI : IsS84 w0 w g s0_0 s0_1 s0_2) (hB : Below w0.heap.size w0 w) (h : spec_l1Cur_grid.f k s0_0 s0_1 s0_2 a1 a2 a3 = some (r1, r2, r3, r4, r5)) :
  Calls Tryz.prog 99 #[.pointer (some ⟨g, 0, none⟩), .int .i64 a1, .int .i64 a2, .int .i64 a3] w fun e w' => ∃ v2_ : Value, e = .returned (.agg #[.int .i64 r1, .int .i64 r2, v2_]) ∧ Kd.R (Kd.int .u8) 5 w' w.heap.size (fun _ => True) v2_ r3 ∧ IsS84 w0 w' g s0_0 r4 r5 ∧ Below w0.heap.size w0 w' ∧ KeepBut w w' g none := by
 have hu66 := Tryz.underlying66
 have HI0 := Aside0.mk hI
 have HK := Aside0.mk (KeepBut.refl w g none)
 have HL := Aside0.mk hB.size
 clear hI
 have HW0 := Aside0.mk hB.size
 have HB := Aside0.mk hB
 clear hB
 have H : ((spec_l1Cur_pick.f s0_0 s0_1 s0_2 a1).bind fun bt102 => ((spec_l1Cur_pick.f s0_0 bt102.2.1 bt102.2.2 a2).bind fun bt105 => ((spec_tyEmpty.f k (wrap64 (1 + bt102.1)) (wrap64 (1 + bt105.1))).bind fun bt108 => ((spec_l1Cur_pick.f s0_0 bt105.2.1 bt105.2.2 (wrap64 (2 + (wrap64 ((bt108.2.2.length : Int) / 3))))).bind fun bt114 => (spec_l1Cur_grid.l0 k a3 bt114.1 s0_0 bt114.2.1 bt114.2.2 bt108.1 bt108.2.1 bt108.2.2))))) = some (r1, r2, r3, r4, r5) := h
 clear h
 replace H := Option.bind_eq_some_iff.mp H
 obtain ⟨⟨t102, t103, t104⟩, A50, H⟩ := H
 replace H : ((spec_l1Cur_pick.f s0_0 t103 t104 a2).bind fun bt105 => ((spec_tyEmpty.f k (wrap64 (1 + t102)) (wrap64 (1 + bt105.1))).bind fun bt108 => ((spec_l1Cur_pick.f s0_0 bt105.2.1 bt105.2.2 (wrap64 (2 + (wrap64 ((bt108.2.2.length : Int) / 3))))).bind fun bt114 => (spec_l1Cur_grid.l0 k a3 bt114.1 s0_0 bt114.2.1 bt114.2.2 bt108.1 bt108.2.1 bt108.2.2)))) = some (r1, r2, r3, r4, r5) := H
 have A5 := Aside0.mk A50
 clear A50
 replace H := Option.bind_eq_some_iff.mp H
 obtain ⟨⟨t105, t106, t107⟩, A60, H⟩ := H
 replace H : ((spec_tyEmpty.f k (wrap64 (1 + t102)) (wrap64 (1 + t105))).bind fun bt108 => ((spec_l1Cur_pick.f s0_0 t106 t107 (wrap64 (2 + (wrap64 ((bt108.2.2.length : Int) / 3))))).bind fun bt114 => (spec_l1Cur_grid.l0 k a3 bt114.1 s0_0 bt114.2.1 bt114.2.2 bt108.1 bt108.2.1 bt108.2.2))) = some (r1, r2, r3, r4, r5) := H
 have A6 := Aside0.mk A60
 clear A60
 replace H := Option.bind_eq_some_iff.mp H
 obtain ⟨⟨t108, t109, t110⟩, A70, H⟩ := H
 replace H : ((spec_l1Cur_pick.f s0_0 t106 t107 (wrap64 (2 + (wrap64 ((t110.length : Int) / 3))))).bind fun bt114 => (spec_l1Cur_grid.l0 k a3 bt114.1 s0_0 bt114.2.1 bt114.2.2 t108 t109 t110)) = some (r1, r2, r3, r4, r5) := H
 have A7 := Aside0.mk A70
 clear A70
 replace H := Option.bind_eq_some_iff.mp H
 obtain ⟨⟨t114, t115, t116⟩, A80, H⟩ := H
 replace H : (spec_l1Cur_grid.l0 k a3 t114 s0_0 t115 t116 t108 t109 t110) = some (r1, r2, r3, r4, r5) := H
 have A8 := Aside0.mk A80
 clear A80
 have H' := Aside0.mk H
 clear H
 go_enter Tryz.func99, Tryz.ntmps99
 go_wp2_with (first | ((with_reducible refine gate_dst (N := 8) rfl ?_); (try (refine gate_guard (by rfl) ?_; dsimp only)); refine box_event ?hg (N := 8) ?hd (cs := #[.int .i64 0, .int .i64 0, .slice none 0 0]) (t := 66) ?hr ?_; (case hd => rfl); (case hg => rfl); (case hr => exact aq23); intro gb101 hg w9 hbox hb; have n0_ := Aside0.mk (IsS84.below aq4 hb); have n1_ := Aside0.mk (KeepBut.trans aq2 (KeepBut.of_below hb g none) (.inl rfl)); have n2_ := Aside0.mk (below_step aq3 hb); have n3_ := Aside0.mk (hbox); have n4_ := Aside0.mk ((by rw [hg]; exact (keep_size (w := w) (g := g) (row := none) aq2) : w.heap.size ≤ gb101)); have n5_ := Aside0.mk ((Nat.le_trans HW0.out (by rw [hg]; exact (keep_size (w := w) (g := g) (row := none) aq2) : w.heap.size ≤ gb101) : w0.heap.size ≤ gb101)); have n6_ := Aside0.mk ((by rw [hg]; exact Nat.ne_of_lt (IsS84.lt (show IsS84 w0 _ g s0_0 s0_1 s0_2 from by repeat (first | (with_reducible first | exact HI0.out | apply IsS84.alloc | apply IsS84.drewN | apply IsS84.drew | apply IsS84.set_1 | apply IsS84.set_2) | exact HI0.out))) : g ≠ gb101)); have n7_ := Aside0.mk ((by rw [hg]; exact Nat.ne_of_gt (IsS84.lt (show IsS84 w0 _ g s0_0 s0_1 s0_2 from by repeat (first | (with_reducible first | exact HI0.out | apply IsS84.alloc | apply IsS84.drewN | apply IsS84.drew | apply IsS84.set_1 | apply IsS84.set_2) | exact HI0.out))) : gb101 ≠ g)); clear HI0; clear HK; clear HB; have HI0 := n0_; have HK := n1_; have HB := n2_; have BK101 := n3_; have GW101 := n4_; have GE101 := n5_; have NB0_101 := n6_; have NB101_0 := n7_; clear n0_ n1_ n2_ n3_ n4_ n5_ n6_ n7_; clear hb hbox hg) | ((with_reducible refine gate_callee (f := 94) rfl ?_); refine goesL_ (some 16) rfl rfl Tryz.func94 (by kernel_rfl) rfl #[.pointer (some ⟨g, 0, none⟩), .int .i64 a1] rfl aq1 ?_; (with_reducible refine (spec_l1Cur_pick.calls g s0_0 s0_1 s0_2 a1 t102 t103 t104 w0 _ ?side1 ?side2 A5.out).mono ?_); (case side1 => exact aq48); (case side2 => exact aq49); rintro e w10 ⟨rfl, hi, hb, hk⟩; refine ⟨_, rfl, ?_⟩; have n0_ := Aside0.mk (KeepBut.blk hk (g' := gb101) (o := .cells #[.int .i64 0, .int .i64 0, .slice none 0 0] 66 (0, 0)) aq5 NB101_0.out (by simp)); have n1_ := Aside0.mk (KeepBut.trans aq34 hk (.inl rfl)); have n2_ := Aside0.mk (hb); have n3_ := Aside0.mk (hi); clear BK101; clear HK; clear HB; clear HI0; have BK101 := n0_; have HK := n1_; have HB := n2_; have HI0 := n3_; clear n0_ n1_ n2_ n3_; (try clear hb); (try clear hb2); (try clear hk); (try clear hi)) | ((with_reducible refine gate_callee (f := 94) rfl ?_); refine goesL_ (some 20) rfl rfl Tryz.func94 (by kernel_rfl) rfl #[.pointer (some ⟨g, 0, none⟩), .int .i64 a2] rfl aq1 ?_; (with_reducible refine (spec_l1Cur_pick.calls g s0_0 t103 t104 a2 t105 t106 t107 w0 _ ?side1 ?side2 A6.out).mono ?_); (case side1 => exact aq48); (case side2 => exact aq49); rintro e w11 ⟨rfl, hi, hb, hk⟩; refine ⟨_, rfl, ?_⟩; have n0_ := Aside0.mk (KeepBut.blk hk (g' := gb101) (o := .cells #[.int .i64 0, .int .i64 0, .slice none 0 0] 66 (0, 0)) aq5 NB101_0.out (by simp)); have n1_ := Aside0.mk (KeepBut.trans aq34 hk (.inl rfl)); have n2_ := Aside0.mk (hb); have n3_ := Aside0.mk (hi); clear BK101; clear HK; clear HB; clear HI0; have BK101 := n0_; have HK := n1_; have HB := n2_; have HI0 := n3_; clear n0_ n1_ n2_ n3_; (try clear hb); (try clear hb2); (try clear hk); (try clear hi)) | ((with_reducible refine gate_callee (f := 113) rfl ?_); refine goesL_ (some 22) rfl rfl Tryz.func113 (by kernel_rfl) rfl #[.int .i64 (wrap64 (1 + t102)), .int .i64 (wrap64 (1 + t105))] rfl aq1 ?_; (with_reducible refine (spec_tyEmpty.calls k (wrap64 (1 + t102)) (wrap64 (1 + t105)) t108 t109 t110 _ A7.out).mono ?_); rintro e w12 ⟨v111, rfl, ho0, hb⟩; refine ⟨_, rfl, ?_⟩; have n0_ := Aside0.mk (Kd.R_lower ho0 (keep_size (w := w) (g := g) (row := none) aq34)); have n1_ := Aside0.mk (IsS84.below aq48 hb); have n2_ := Aside0.mk (blk_below (g := gb101) (o := .cells #[.int .i64 0, .int .i64 0, .slice none 0 0] 66 (0, 0)) aq5 hb); have n3_ := Aside0.mk (KeepBut.trans aq34 (KeepBut.of_below hb g none) (.inl rfl)); have n4_ := Aside0.mk (below_step aq49 hb); clear HI0; clear BK101; clear HK; clear HB; have HO112 := n0_; have HI0 := n1_; have BK101 := n2_; have HK := n3_; have HB := n4_; clear n0_ n1_ n2_ n3_ n4_; (try clear hb); (try clear hb2); (try clear hk); (try clear hi); (try clear ho0)) | ((with_reducible refine gate_dst (N := 9) rfl ?_); (try (refine gate_guard (by rfl) ?_; dsimp only)); refine box_event ?hg (N := 9) ?hd (cs := #[.int .i64 0, .int .i64 0, .slice none 0 0]) (t := 66) ?hr ?_; (case hd => rfl); (case hg => rfl); (case hr => exact aq23); intro gb113 hg w13 hbox hb; have n0_ := Aside0.mk (Kd.R_below aq28 hb); have n1_ := Aside0.mk (IsS84.below aq48 hb); have n2_ := Aside0.mk (blk_below (g := gb101) (o := .cells #[.int .i64 0, .int .i64 0, .slice none 0 0] 66 (0, 0)) aq5 hb); have n3_ := Aside0.mk (KeepBut.trans aq34 (KeepBut.of_below hb g none) (.inl rfl)); have n4_ := Aside0.mk (below_step aq49 hb); have n5_ := Aside0.mk (hbox); have n6_ := Aside0.mk ((by rw [hg]; exact (keep_size (w := w) (g := g) (row := none) aq34) : w.heap.size ≤ gb113)); have n7_ := Aside0.mk ((Nat.le_trans HW0.out (by rw [hg]; exact (keep_size (w := w) (g := g) (row := none) aq34) : w.heap.size ≤ gb113) : w0.heap.size ≤ gb113)); have n8_ := Aside0.mk ((by rw [hg]; exact Nat.ne_of_lt (blk_lt (g := gb101) (o := .cells #[.int .i64 0, .int .i64 0, .slice none 0 0] 66 (0, 0)) aq5) : gb101 ≠ gb113)); have n9_ := Aside0.mk ((by rw [hg]; exact Nat.ne_of_gt (blk_lt (g := gb101) (o := .cells #[.int .i64 0, .int .i64 0, .slice none 0 0] 66 (0, 0)) aq5) : gb113 ≠ gb101)); have n10_ := Aside0.mk ((by rw [hg]; exact Nat.ne_of_lt (IsS84.lt (show IsS84 w0 _ g s0_0 t106 t107 from by repeat (first | (with_reducible first | exact HI0.out | apply IsS84.alloc | apply IsS84.drewN | apply IsS84.drew | apply IsS84.set_1 | apply IsS84.set_2 | refine IsS84.far ?_ NB0_101.out _) | exact HI0.out))) : g ≠ gb113)); have n11_ := Aside0.mk ((by rw [hg]; exact Nat.ne_of_gt (IsS84.lt (show IsS84 w0 _ g s0_0 t106 t107 from by repeat (first | (with_reducible first | exact HI0.out | apply IsS84.alloc | apply IsS84.drewN | apply IsS84.drew | apply IsS84.set_1 | apply IsS84.set_2 | refine IsS84.far ?_ NB0_101.out _) | exact HI0.out))) : gb113 ≠ g)); clear HO112; clear HI0; clear BK101; clear HK; clear HB; have HO112 := n0_; have HI0 := n1_; have BK101 := n2_; have HK := n3_; have HB := n4_; have BK113 := n5_; have GW113 := n6_; have GE113 := n7_; have NB101_113 := n8_; have NB113_101 := n9_; have NB0_113 := n10_; have NB113_0 := n11_; clear n0_ n1_ n2_ n3_ n4_ n5_ n6_ n7_ n8_ n9_ n10_ n11_; clear hb hbox hg; have hnb14 := NB113_101.out; have hnc14 := NB101_113.out; have hnb15 := NB113_0.out; have hnc15 := NB0_113.out; have hcz16_0 : w13.cell? ⟨gb113, 0, none⟩ = some (.int .i64 0) := (blk_cell BK113.out 0).trans rfl; have hcz16_1 : w13.cell? ⟨gb113, 1, none⟩ = some (.int .i64 0) := (blk_cell BK113.out 1).trans rfl; have hcz16_2 : w13.cell? ⟨gb113, 2, none⟩ = some (.slice none 0 0) := (blk_cell BK113.out 2).trans rfl; have hfz16_0 := blk_frozen BK113.out 0; have hfz16_1 := blk_frozen BK113.out 1; have hfz16_2 := blk_frozen BK113.out 2; obtain ⟨Ao17, co17, eo17⟩ := Kd.R_slice HO112.out; subst eo17) | ((with_reducible refine gate_callee (f := 94) rfl ?_); refine goesL_ (some 29) rfl rfl Tryz.func94 (by kernel_rfl) rfl #[.pointer (some ⟨g, 0, none⟩), .int .i64 (wrap64 (2 + (wrap64 ((t110.length : Int) / 3))))] rfl aq1 ?_; (with_reducible refine (spec_l1Cur_pick.calls g s0_0 t106 t107 (wrap64 (2 + (wrap64 ((t110.length : Int) / 3)))) t114 t115 t116 w0 _ ?side1 ?side2 A8.out).mono ?_); (case side1 => exact aq16); (case side2 => exact aq18); rintro e w18 ⟨rfl, hi, hb, hk⟩; refine ⟨_, rfl, ?_⟩; have n0_ := Aside0.mk (KeepBut.blk hk (g' := gb101) (o := .cells #[.int .i64 0, .int .i64 0, .slice none 0 0] 66 (0, 0)) (by (with_reducible repeat (first | refine blk_drewN ?_ _ | refine blk_drew ?_ | refine blk_alloc ?_ _)); refine blk_far ?_ NB101_113.out _; (with_reducible repeat (first | refine blk_drewN ?_ _ | refine blk_drew ?_ | refine blk_alloc ?_ _)); refine blk_far ?_ NB101_113.out _; (with_reducible repeat (first | refine blk_drewN ?_ _ | refine blk_drew ?_ | refine blk_alloc ?_ _)); refine blk_far ?_ NB101_113.out _; (with_reducible repeat (first | refine blk_drewN ?_ _ | refine blk_drew ?_ | refine blk_alloc ?_ _)); exact BK101.out) NB101_0.out (by simp)); have n1_ := Aside0.mk (Kd.R_mono (Kd.R_keep (IsS84.apart (show IsS84 w0 _ g s0_0 t106 t107 from by repeat (first | (with_reducible first | exact HI0.out | apply IsS84.alloc | apply IsS84.drewN | apply IsS84.drew | apply IsS84.set_1 | apply IsS84.set_2 | refine IsS84.far ?_ NB0_101.out _ | refine IsS84.far ?_ NB0_113.out _) | exact HI0.out)) (by (with_reducible repeat (first | apply Kd.R_alloc | apply Kd.R_drewN | apply Kd.R_drew)); exact (Kd.R_mono (Kd.R_far (p := ⟨gb113, 2, none⟩) (Kd.R_far (p := ⟨gb113, 1, none⟩) (Kd.R_far (p := ⟨gb113, 0, none⟩) (Kd.R_types HO112.out BK113.out (by decide)) (fun _ hk => hk.2) (.int .i64 t108)) (fun _ hk => hk.2) (.int .i64 t109)) (fun _ hk => hk.2) (.slice Ao17 t110.length co17)) (fun _ h_ => h_.1))) (by decide)) hk (fun _ h => h.2)) (fun _ h => h.1)); have n2_ := Aside0.mk (KeepBut.blk hk (g' := gb113) (o := .cells #[.int .i64 t108, .int .i64 t109, .slice Ao17 t110.length co17] 66 (0, 0)) (by (with_reducible repeat (first | refine blk_drewN ?_ _ | refine blk_drew ?_ | refine blk_alloc ?_ _)); refine blk_put (cs := #[.int .i64 t108, .int .i64 t109, .slice none 0 0]) ?_ 2 _ rfl; (with_reducible repeat (first | refine blk_drewN ?_ _ | refine blk_drew ?_ | refine blk_alloc ?_ _)); refine blk_put (cs := #[.int .i64 t108, .int .i64 0, .slice none 0 0]) ?_ 1 _ rfl; (with_reducible repeat (first | refine blk_drewN ?_ _ | refine blk_drew ?_ | refine blk_alloc ?_ _)); refine blk_put (cs := #[.int .i64 0, .int .i64 0, .slice none 0 0]) ?_ 0 _ rfl; (with_reducible repeat (first | refine blk_drewN ?_ _ | refine blk_drew ?_ | refine blk_alloc ?_ _)); exact BK113.out) NB113_0.out (by simp)); have n3_ := Aside0.mk (KeepBut.trans aq17 hk (.inl rfl)); have n4_ := Aside0.mk (hb); have n5_ := Aside0.mk (hi); clear BK101; clear HO112; clear BK113; clear HK; clear HB; clear HI0; have BK101 := n0_; have HO112 := n1_; have BK113 := n2_; have HK := n3_; have HB := n4_; have HI0 := n5_; clear n0_ n1_ n2_ n3_ n4_ n5_; (try clear hb); (try clear hb2); (try clear hk); (try clear hi)))
 go_loopg [10] k (fun kq v10 w' => ∃ (x10_1 : Int) (x1001_1 : Int) (x1002_1 : Int) (x114002_1 : List Int) (u114002 : Value), v10 = .int .i64 x10_1 ∧ Aside0 (spec_l1Cur_grid.l0 kq a3 x10_1 s0_0 x1001_1 x1002_1 t108 t109 x114002_1 = some (r1, r2, r3, r4, r5)) ∧ Aside0 (kq ≤ k) ∧ Aside0 (Kd.R (Kd.int .u8) 5 w' w.heap.size (fun _ => True) u114002 x114002_1) ∧ Aside0 (w'.heap[gb101]? = some (.cells #[.int .i64 0, .int .i64 0, (.slice none 0 0)] 66 (0, 0))) ∧ Aside0 (w'.heap[gb113]? = some (.cells #[.int .i64 t108, .int .i64 t109, u114002] 66 (0, 0))) ∧ Aside0 (IsS84 w0 w' g s0_0 x1001_1 x1002_1) ∧ Aside0 (KeepBut w w' g none) ∧ Aside0 (Below w0.heap.size w0 w'))
 case atStart => exact ⟨(t114), (t115), (t116), (t110), (.slice Ao17 t110.length co17), aq11, H', ⟨Nat.le_refl _⟩, ⟨aq28⟩, ⟨aq5⟩, ⟨aq25⟩, ⟨aq16⟩, ⟨aq17⟩, ⟨aq18⟩⟩
 case round =>
  clear H'
  try clear c1
  try clear p2
  try clear p6
  try clear c9
  try clear c11
  try clear c14
  try clear c15
  try clear hcz16_0
  try clear hcz16_1
  try clear hcz16_2
  try clear hfz16_0
  try clear hfz16_1
  try clear hfz16_2
  obtain ⟨x10_1, x1001_1, x1002_1, x114002_1, u114002, rfl, HA, HK1, HO_114002, BK101, BK113, HI0, HK, HB⟩ := hrel
  cases gk with
  | zero => exact absurd HA.out (by simp [spec_l1Cur_grid.l0])
  | succ k1 =>
   have H := HA.out
   clear HA
   simp only [spec_l1Cur_grid.l0] at H
   by_cases c19 : x10_1 > 0
   ·rw [if_pos c19] at H
    have c19b0 : decide (0 < x10_1) = true := decide_eq_true c19
    clear c19
    replace H := Option.bind_eq_some_iff.mp H
    obtain ⟨⟨t117, t118, t119⟩, A200, H⟩ := H
    replace H : (if 0 ≤ t117 then (if t117 < (x114002_1.length : Int) then (spec_l1Cur_grid.l0 k1 a3 (wrap64 (x10_1 - 1)) s0_0 t118 t119 t108 t109 (x114002_1.set (t117 : Int).toNat 35)) else (none)) else (none)) = some (r1, r2, r3, r4, r5) := H
    have A20 := Aside0.mk A200
    clear A200
    by_cases c21 : 0 ≤ t117
    ·rw [if_pos c21] at H
     have c21b0 : decide (0 ≤ t117) = true := decide_eq_true c21
     clear c21
     by_cases c22 : t117 < (x114002_1.length : Int)
     ·rw [if_pos c22] at H
      have c22b0 : decide (t117 < (x114002_1.length : Int)) = true := decide_eq_true c22
      clear c22
      obtain ⟨y120, hy120⟩ : ∃ y_ : List Int, y_ = (x114002_1.set (t117 : Int).toNat 35) := ⟨_, rfl⟩
      replace H : (spec_l1Cur_grid.l0 k1 a3 (wrap64 (x10_1 - 1)) s0_0 t118 t119 t108 t109 y120) = some (r1, r2, r3, r4, r5) := by first | (rw [hy120]; with_reducible exact H) | (have H2_ := (Option.bind_some _ _).symm.trans H; rw [hy120]; with_reducible exact H2_) | (have H2_ := (Option.bind_some _ _).symm.trans H; with_reducible exact H2_) | with_reducible exact H | (rw [hy120]; exact H) | exact H
      have Ny120 := Aside0.mk hy120
      clear hy120
      have H' := Aside0.mk H
      clear H
      try go_wp2
      have n0_ := Aside0.mk (Kd.R_drew HO_114002.out)
      have n1_ := Aside0.mk (blk_drew BK101.out)
      have n2_ := Aside0.mk (blk_drew BK113.out)
      have n3_ := Aside0.mk (IsS84.drew HI0.out)
      have n4_ := Aside0.mk (keep_drew HK.out)
      have n5_ := Aside0.mk (below_drew1 HB.out)
      clear HO_114002
      clear BK101
      clear BK113
      clear HI0
      clear HK
      clear HB
      have HO_114002 := n0_
      have BK101 := n1_
      have BK113 := n2_
      have HI0 := n3_
      have HK := n4_
      have HB := n5_
      clear n0_ n1_ n2_ n3_ n4_ n5_
      obtain ⟨Ao25, co25, eo25⟩ := Kd.R_slice HO_114002.out
      (first | subst eo25 | (injection eo25 with f1_ f2_ f3_; have f4_ := f1_.symm; have f5_ := f3_.symm; clear f1_ f2_ f3_; subst f4_; subst f5_))
      refine start_ (n := 9) (S := fun w' => w'.cell? ⟨gb113, 0, none⟩ = some (.int .i64 t108) ∧ w'.cell? ⟨gb113, 1, none⟩ = some (.int .i64 t109) ∧ w'.cell? ⟨gb113, 2, none⟩ = some (.slice Ao25 x114002_1.length co25)) (ds := [8]) #[false, false, false, false, false, false, false, false, false] (by kernel_rfl) rfl rfl ⟨(blk_cell BK113.out 0).trans rfl, (blk_cell BK113.out 1).trans rfl, (blk_cell BK113.out 2).trans rfl⟩ (fun hHeld => ?_); refine with_tabW spec_l1Cur_grid.tab5 spec_l1Cur_grid.bits5 (fun HT_ HW_ => ?_)
      generalize wr.drew = w24 at HO_114002 BK101 BK113 HI0 HK HB hHeld ⊢
      refine pure_ (i := 0) (N := some 34) (v := ?_) (a' := ?_) #[true, false, false, false, false, false, false, false, false] rfl rfl (any_of HT_.out (by kernel_rfl)) (fun _ _ _ h => h) (Or.inl ⟨by rfl, ?_⟩) ?_ ?_
      rotate_left
      ·intro w'
       go_simp
       with_reducible rfl
      rotate_left
      ·simp only [Act.put, List.setIfInBounds_toArray, List.set_cons_zero, List.set_cons_succ, i64_w, i32_w]
       rfl
      refine pure_ (i := 2) (N := some 36) (v := ?_) (a' := ?_) #[true, false, true, false, false, false, false, false, false] rfl rfl (any_of HT_.out (by kernel_rfl)) (fun _ _ _ h => h) (Or.inl ⟨by rfl, ?_⟩) ?_ ?_
      rotate_left
      ·intro w'
       go_simp
       with_reducible rfl
      rotate_left
      ·simp only [Act.put, List.setIfInBounds_toArray, List.set_cons_zero, List.set_cons_succ, i64_w, i32_w]
       rfl
      refine pure_ (i := 3) (N := some 37) (v := ?_) (a' := ?_) #[true, false, true, true, false, false, false, false, false] rfl rfl (any_of HT_.out (by kernel_rfl)) (fun _ _ _ h => h) (Or.inl ⟨by rfl, ?_⟩) ?_ ?_
      rotate_left
      ·intro w'
       go_simp
       with_reducible rfl
      rotate_left
      ·simp only [Act.put, List.setIfInBounds_toArray, List.set_cons_zero, List.set_cons_succ, i64_w, i32_w]
       rfl
      refine take_ (i := 1) (N := some 35) (v := ?_) (a' := ?_) #[true, true, true, true, false, false, false, false, false] rfl rfl (take_ofW HT_.out HW_.out (by kernel_rfl)) (fun _ _ _ h => h) (Or.inl ⟨by rfl, ?_⟩) hHeld ?_ ?_
      rotate_left
      ·rintro w' ⟨s0, s1, s2⟩
       go_simp
       with_reducible rfl
      rotate_left
      ·simp only [Act.put, List.setIfInBounds_toArray, List.set_cons_zero, List.set_cons_succ, i64_w, i32_w]
       rfl
      refine take_ (i := 4) (N := some 38) (v := ?_) (a' := ?_) #[true, true, true, true, true, false, false, false, false] rfl rfl (take_ofW HT_.out HW_.out (by kernel_rfl)) (fun _ _ _ h => h) (Or.inl ⟨by rfl, ?_⟩) hHeld ?_ ?_
      rotate_left
      ·rintro w' ⟨s0, s1, s2⟩
       go_simp
       with_reducible rfl
      rotate_left
      ·simp only [Act.put, List.setIfInBounds_toArray, List.set_cons_zero, List.set_cons_succ, i64_w, i32_w]
       rfl
      refine pure_ (i := 5) (N := some 39) (v := ?_) (a' := ?_) #[true, true, true, true, true, true, false, false, false] rfl rfl (any_of HT_.out (by kernel_rfl)) (fun _ _ _ h => h) (Or.inl ⟨by rfl, ?_⟩) ?_ ?_
      rotate_left
      ·intro w'
       go_simp
       with_reducible rfl
      rotate_left
      ·simp only [Act.put, List.setIfInBounds_toArray, List.set_cons_zero, List.set_cons_succ, i64_w, i32_w]
       rfl
      refine one_ (i := 6) (N := some 40) #[true, true, true, true, true, true, true, false, false] rfl rfl (one_of HT_.out (by kernel_rfl)) (by decide) (fun K hK => ?_)
      refine goes_ Tryz.func94 (by kernel_rfl) rfl #[.pointer (some ⟨g, 0, none⟩), .int .i64 (x114002_1.length : Int)] (by rfl) rfl rfl aq1 ?_
      with_reducible refine (spec_l1Cur_pick.calls g s0_0 x1001_1 x1002_1 (x114002_1.length : Int) t117 t118 t119 w0 _ ?side1 ?side2 A20.out).mono ?_
      (case side1 => exact aq16)
      (case side2 => exact aq18)
      rintro e w26 ⟨rfl, hi, hb, hk⟩
      refine ⟨_, rfl, ?_⟩
      have n0_ := Aside0.mk (Kd.R_mono (Kd.R_keep (IsS84.apart (show IsS84 w0 _ g s0_0 x1001_1 x1002_1 from by repeat (first | (with_reducible first | exact HI0.out | apply IsS84.alloc | apply IsS84.drewN | apply IsS84.drew | apply IsS84.set_1 | apply IsS84.set_2 | refine IsS84.far ?_ NB0_101.out _ | refine IsS84.far ?_ NB0_113.out _) | exact HI0.out)) aq32 (by decide)) hk (fun _ h => h.2)) (fun _ h => h.1))
      have n1_ := Aside0.mk (KeepBut.blk hk (g' := gb101) (o := .cells #[.int .i64 0, .int .i64 0, .slice none 0 0] 66 (0, 0)) aq5 NB101_0.out (by simp))
      have n2_ := Aside0.mk (KeepBut.blk hk (g' := gb113) (o := .cells #[.int .i64 t108, .int .i64 t109, .slice Ao25 x114002_1.length co25] 66 (0, 0)) aq25 NB113_0.out (by simp))
      have n3_ := Aside0.mk (KeepBut.trans aq17 hk (.inl rfl))
      have n4_ := Aside0.mk (hb)
      have n5_ := Aside0.mk (hi)
      clear HO_114002
      clear BK101
      clear BK113
      clear HK
      clear HB
      clear HI0
      have HO_114002 := n0_
      have BK101 := n1_
      have BK113 := n2_
      have HK := n3_
      have HB := n4_
      have HI0 := n5_
      clear n0_ n1_ n2_ n3_ n4_ n5_
      (try clear hb)
      (try clear hb2)
      (try clear hk)
      (try clear hi)
      have p23 : 0 ≤ (t117 : Int) := of_decide_eq_true aq9
      have q23 : (t117 : Int) < ((x114002_1.length : Int) : Int) := of_decide_eq_true aq9
      obtain ⟨go23, co23, eo23, gb23, gl23, cl23, HG23⟩ := Kd.R_form HO_114002.out (by omega)
      (first | cases eo23 | (injection eo23 with ea_ en_ ec_; (first | subst ea_ | (injection ea_ with ea_; subst ea_)); subst ec_; clear en_))
      have GB23 := Aside0.mk gb23
      have GG23 := Aside0.mk HG23
      clear gb23 gl23 HG23
      obtain ⟨hx23_0, hf23_0⟩ := Kd.R_celln 0 HO_114002.out (t117 : Int) p23 q23
      replace p23 := eq_true p23
      replace q23 := eq_true q23
      have HN0_go23 := Aside0.mk (show g ≠ go23 from by have h_ := IsS84.own_ne HI0.out HO_114002.out (by decide); intro e_; exact h_ (by rw [e_]; rfl))
      have HP27 := Kd.R_putn HO_114002.out (t117 : Int) 35
      rw [← Ny120.out] at HP27
      have HQ27 := Aside0.mk HP27
      clear HP27
      refine hK.out _ _ ⟨(blk_cell BK113.out 0).trans rfl, (blk_cell BK113.out 1).trans rfl, (blk_cell BK113.out 2).trans rfl⟩ (fun hHeld => ?_)
      clear hK K
      refine norm_ (a' := ?_) ?_ ?_
      rotate_left
      ·show Act.put _ (some 40) _ = _
       simp only [Act.put, List.setIfInBounds_toArray, List.set_cons_zero, List.set_cons_succ, i64_w, i32_w]
       rfl
      refine pure_ (i := 7) (N := some 41) (v := ?_) (a' := ?_) #[true, true, true, true, true, true, true, true, false] rfl rfl (any_of HT_.out (by kernel_rfl)) (fun _ _ _ h => h) (Or.inl ⟨by rfl, ?_⟩) ?_ ?_
      rotate_left
      ·intro w'
       go_simp
       with_reducible rfl
      rotate_left
      ·simp only [Act.put, List.setIfInBounds_toArray, List.set_cons_zero, List.set_cons_succ, i64_w, i32_w]
       rfl
      refine last_ (i := 8) (N := none) #[true, true, true, true, true, true, true, true, true] rfl rfl (one_of HT_.out (by kernel_rfl)) (by decide) (fun K hK => ?_)
      refine skip_ (w1 := ?_) (by rfl) rfl ?_ ?_
      rotate_left
      ·go_simp
       rfl
      refine hK.out _ _ ?_
      clear hK K
      refine done_ (done_of HT_.out (by kernel_rfl)) ?_
      try go_wp2
      go_roundg k1
      case measure => have := HK1.out; omega
      case rel => exact ⟨(wrap64 (x10_1 - 1)), (t118), (t119), (y120), (.slice (some ⟨go23, 0, none⟩) x114002_1.length co25), aq11, H', ⟨aq83⟩, ⟨by (with_reducible repeat (first | apply Kd.R_alloc | apply Kd.R_drewN | apply Kd.R_drew)); exact HQ27.out⟩, ⟨aq71⟩, ⟨aq70⟩, ⟨by repeat (first | (with_reducible first | exact HI0.out | apply IsS84.alloc | apply IsS84.drewN | apply IsS84.drew | apply IsS84.set_1 | apply IsS84.set_2 | refine IsS84.far ?_ HN0_go23.out _ | refine IsS84.far ?_ NB0_101.out _ | refine IsS84.far ?_ NB0_113.out _) | exact HI0.out)⟩, ⟨by repeat (first | (with_reducible first | exact HK.out | apply KeepBut.set_ | apply keep_drewN | apply keep_drew | apply keep_alloc | refine keep_far ?_ GB23.out _ | refine keep_far ?_ GW101.out _ | refine keep_far ?_ GW113.out _) | exact HK.out)⟩, ⟨by repeat (first | (with_reducible first | exact HB.out | apply below_alloc | apply pw_below_drewN | apply below_drew1 | refine below_set ?_ (Nat.le_trans HL.out GB23.out) | refine below_set ?_ (IsS84.ge HI0.out) | refine below_set ?_ GE101.out | refine below_set ?_ GE113.out) | exact HB.out)⟩⟩
     ·rw [if_neg c22] at H
      exact absurd H (by simp)
    ·rw [if_neg c21] at H
     exact absurd H (by simp)
   ·rw [if_neg c19] at H
    have c19b0 : decide (0 < x10_1) = false := decide_eq_false c19
    clear c19
    replace H := Option.bind_eq_some_iff.mp H
    obtain ⟨⟨t121, t122, t123⟩, A280, H⟩ := H
    replace H : (spec_l1Cur_grid.l1 k1 (⟨#[97, 98, 99, 100, 101, 102]⟩ : ByteArray) t121 s0_0 t122 t123 t108 t109 x114002_1) = some (r1, r2, r3, r4, r5) := H
    have A28 := Aside0.mk A280
    clear A280
    have H' := Aside0.mk H
    clear H
    go_wp2_with (first | ((with_reducible refine gate_callee (f := 94) rfl ?_); refine goesL_ (some 45) rfl rfl Tryz.func94 (by kernel_rfl) rfl #[.pointer (some ⟨g, 0, none⟩), .int .i64 (wrap64 (a3 + 1))] rfl aq1 ?_; (with_reducible refine (spec_l1Cur_pick.calls g s0_0 x1001_1 x1002_1 (wrap64 (a3 + 1)) t121 t122 t123 w0 _ ?side1 ?side2 A28.out).mono ?_); (case side1 => exact aq16); (case side2 => exact aq18); rintro e w29 ⟨rfl, hi, hb, hk⟩; refine ⟨_, rfl, ?_⟩; have n0_ := Aside0.mk (Kd.R_mono (Kd.R_keep (IsS84.apart (show IsS84 w0 _ g s0_0 x1001_1 x1002_1 from by repeat (first | (with_reducible first | exact HI0.out | apply IsS84.alloc | apply IsS84.drewN | apply IsS84.drew | apply IsS84.set_1 | apply IsS84.set_2 | refine IsS84.far ?_ NB0_101.out _ | refine IsS84.far ?_ NB0_113.out _) | exact HI0.out)) aq32 (by decide)) hk (fun _ h => h.2)) (fun _ h => h.1)); have n1_ := Aside0.mk (KeepBut.blk hk (g' := gb101) (o := .cells #[.int .i64 0, .int .i64 0, .slice none 0 0] 66 (0, 0)) aq5 NB101_0.out (by simp)); have n2_ := Aside0.mk (KeepBut.blk hk (g' := gb113) (o := .cells #[.int .i64 t108, .int .i64 t109, u114002] 66 (0, 0)) aq25 NB113_0.out (by simp)); have n3_ := Aside0.mk (KeepBut.trans aq17 hk (.inl rfl)); have n4_ := Aside0.mk (hb); have n5_ := Aside0.mk (hi); clear HO_114002; clear BK101; clear BK113; clear HK; clear HB; clear HI0; have HO_114002 := n0_; have BK101 := n1_; have BK113 := n2_; have HK := n3_; have HB := n4_; have HI0 := n5_; clear n0_ n1_ n2_ n3_ n4_ n5_; (try clear hb); (try clear hb2); (try clear hk); (try clear hi)))
    go_loopg [11, 12] k1 (fun kq v11 v12 w' => ∃ (x11_2 : ByteArray) (x12_2 : Int) (x1001_2 : Int) (x1002_2 : Int) (x114002_2 : List Int) (u114002 : Value), v11 = .string x11_2 ∧ v12 = .int .i64 x12_2 ∧ Aside0 (spec_l1Cur_grid.l1 kq x11_2 x12_2 s0_0 x1001_2 x1002_2 t108 t109 x114002_2 = some (r1, r2, r3, r4, r5)) ∧ Aside0 (kq ≤ k1) ∧ Aside0 (Kd.R (Kd.int .u8) 5 w' w.heap.size (fun _ => True) u114002 x114002_2) ∧ Aside0 (w'.heap[gb101]? = some (.cells #[.int .i64 0, .int .i64 0, (.slice none 0 0)] 66 (0, 0))) ∧ Aside0 (w'.heap[gb113]? = some (.cells #[.int .i64 t108, .int .i64 t109, u114002] 66 (0, 0))) ∧ Aside0 (IsS84 w0 w' g s0_0 x1001_2 x1002_2) ∧ Aside0 (KeepBut w w' g none) ∧ Aside0 (Below w0.heap.size w0 w'))
    case atStart => exact ⟨((⟨#[97, 98, 99, 100, 101, 102]⟩ : ByteArray)), (t121), (t122), (t123), (x114002_1), (u114002), aq11, aq11, H', ⟨Nat.le_refl _⟩, ⟨aq32⟩, ⟨aq5⟩, ⟨aq25⟩, ⟨aq16⟩, ⟨aq17⟩, ⟨aq18⟩⟩
    case round =>
     clear H'
     try clear c1
     try clear c2
     try clear p2
     try clear q2
     try clear hx2
     try clear p6
     try clear c9
     try clear c11
     try clear c14
     try clear c15
     try clear c19
     try clear c19b0
     try clear c21
     try clear c21b0
     try clear c22
     try clear c22b0
     try clear p23
     try clear q23
     try clear hx23
     try clear hf23
     try clear hcz16_0
     try clear hcz16_1
     try clear hcz16_2
     try clear hfz16_0
     try clear hfz16_1
     try clear hfz16_2
     try clear hx23_0
     try clear p2
     try clear p23
     try clear p6
     try clear q23
     obtain ⟨x11_2, x12_2, x1001_2, x1002_2, x114002_2, u114002, rfl, rfl, HA, HK2, HO_114002, BK101, BK113, HI0, HK, HB⟩ := hrel
     cases gk with
     | zero => exact absurd HA.out (by simp [spec_l1Cur_grid.l1])
     | succ k2 =>
      have H := HA.out
      clear HA
      simp only [spec_l1Cur_grid.l1] at H
      by_cases c30 : x12_2 > 0
      ·rw [if_pos c30] at H
       have c30b0 : decide (0 < x12_2) = true := decide_eq_true c30
       clear c30
       replace H := Option.bind_eq_some_iff.mp H
       obtain ⟨⟨t124, t125, t126⟩, A310, H⟩ := H
       replace H : (if 0 ≤ t124 then (if t124 < (x114002_2.length : Int) then (if (rd x114002_2 t124) = 46 then ((some (x114002_2.set (t124 : Int).toNat 111 : List Int)).bind fun y128 => ((spec_l1Cur_one.f s0_0 t125 t126 2).bind fun bt129 => (if bt129.1 = true then (if (x11_2.size : Int) > 0 then (if 0 < (x11_2.size : Int) then (if 1 ≤ (x11_2.size : Int) then (spec_l1Cur_grid.l1 k2 (x11_2.extract 1 x11_2.size) (wrap64 (x12_2 - 1)) s0_0 bt129.2.1 bt129.2.2 t108 t109 (y128.set (t124 : Int).toNat (bt x11_2 0))) else (none)) else (none)) else (spec_l1Cur_grid.l1 k2 x11_2 (wrap64 (x12_2 - 1)) s0_0 bt129.2.1 bt129.2.2 t108 t109 y128)) else (spec_l1Cur_grid.l1 k2 x11_2 (wrap64 (x12_2 - 1)) s0_0 bt129.2.1 bt129.2.2 t108 t109 y128)))) else (spec_l1Cur_grid.l1 k2 x11_2 (wrap64 (x12_2 - 1)) s0_0 t125 t126 t108 t109 x114002_2)) else (none)) else (none)) = some (r1, r2, r3, r4, r5) := H
       have A31 := Aside0.mk A310
       clear A310
       by_cases c32 : 0 ≤ t124
       ·rw [if_pos c32] at H
        have c32b0 : decide (0 ≤ t124) = true := decide_eq_true c32
        clear c32
        by_cases c33 : t124 < (x114002_2.length : Int)
        ·rw [if_pos c33] at H
         have c33b0 : decide (t124 < (x114002_2.length : Int)) = true := decide_eq_true c33
         clear c33
         by_cases c34 : (rd x114002_2 t124) = 46
         ·rw [if_pos c34] at H
          have c34b0 : ((rd x114002_2 t124) == 46) = true := beq_iff_eq.mpr c34
          have c34b1 : ((rd x114002_2 t124) != 46) = false := bne_eq_false_iff_eq.mpr c34
          clear c34
          obtain ⟨y128, hy128⟩ : ∃ y_ : List Int, y_ = (x114002_2.set (t124 : Int).toNat 111) := ⟨_, rfl⟩
          replace H : ((spec_l1Cur_one.f s0_0 t125 t126 2).bind fun bt129 => (if bt129.1 = true then (if (x11_2.size : Int) > 0 then (if 0 < (x11_2.size : Int) then (if 1 ≤ (x11_2.size : Int) then (spec_l1Cur_grid.l1 k2 (x11_2.extract 1 x11_2.size) (wrap64 (x12_2 - 1)) s0_0 bt129.2.1 bt129.2.2 t108 t109 (y128.set (t124 : Int).toNat (bt x11_2 0))) else (none)) else (none)) else (spec_l1Cur_grid.l1 k2 x11_2 (wrap64 (x12_2 - 1)) s0_0 bt129.2.1 bt129.2.2 t108 t109 y128)) else (spec_l1Cur_grid.l1 k2 x11_2 (wrap64 (x12_2 - 1)) s0_0 bt129.2.1 bt129.2.2 t108 t109 y128))) = some (r1, r2, r3, r4, r5) := by first | (rw [hy128]; with_reducible exact H) | (have H2_ := (Option.bind_some _ _).symm.trans H; rw [hy128]; with_reducible exact H2_) | (have H2_ := (Option.bind_some _ _).symm.trans H; with_reducible exact H2_) | with_reducible exact H | (rw [hy128]; exact H) | exact H
          have Ny128 := Aside0.mk hy128
          clear hy128
          replace H := Option.bind_eq_some_iff.mp H
          obtain ⟨⟨t129, t130, t131⟩, A360, H⟩ := H
          replace H : (if t129 = true then (if (x11_2.size : Int) > 0 then (if 0 < (x11_2.size : Int) then (if 1 ≤ (x11_2.size : Int) then (spec_l1Cur_grid.l1 k2 (x11_2.extract 1 x11_2.size) (wrap64 (x12_2 - 1)) s0_0 t130 t131 t108 t109 (y128.set (t124 : Int).toNat (bt x11_2 0))) else (none)) else (none)) else (spec_l1Cur_grid.l1 k2 x11_2 (wrap64 (x12_2 - 1)) s0_0 t130 t131 t108 t109 y128)) else (spec_l1Cur_grid.l1 k2 x11_2 (wrap64 (x12_2 - 1)) s0_0 t130 t131 t108 t109 y128)) = some (r1, r2, r3, r4, r5) := H
          have A36 := Aside0.mk A360
          clear A360
          by_cases c37 : t129 = true
          ·subst c37
           have H1 : (if (x11_2.size : Int) > 0 then (if 0 < (x11_2.size : Int) then (if 1 ≤ (x11_2.size : Int) then (spec_l1Cur_grid.l1 k2 (x11_2.extract 1 x11_2.size) (wrap64 (x12_2 - 1)) s0_0 t130 t131 t108 t109 (y128.set (t124 : Int).toNat (bt x11_2 0))) else (none)) else (none)) else (spec_l1Cur_grid.l1 k2 x11_2 (wrap64 (x12_2 - 1)) s0_0 t130 t131 t108 t109 y128)) = some (r1, r2, r3, r4, r5) := by rw [if_pos rfl] at H; exact H
           clear H
           have H := H1
           clear H1
           by_cases c38 : (x11_2.size : Int) > 0
           ·rw [if_pos c38] at H
            have c38b0 : decide (0 < (x11_2.size : Int)) = true := decide_eq_true c38
            have c38b1 : decide (0 < x11_2.size) = true := decide_eq_true (by omega)
            clear c38
            by_cases c39 : 0 < (x11_2.size : Int)
            ·rw [if_pos c39] at H
             have c39b0 : decide (0 < (x11_2.size : Int)) = true := decide_eq_true c39
             have c39b1 : decide (0 < x11_2.size) = true := decide_eq_true (by omega)
             clear c39
             obtain ⟨y132, hy132⟩ : ∃ y_ : List Int, y_ = (y128.set (t124 : Int).toNat (bt x11_2 0)) := ⟨_, rfl⟩
             replace H : (if 1 ≤ (x11_2.size : Int) then (spec_l1Cur_grid.l1 k2 (x11_2.extract 1 x11_2.size) (wrap64 (x12_2 - 1)) s0_0 t130 t131 t108 t109 y132) else (none)) = some (r1, r2, r3, r4, r5) := by first | (rw [hy132]; with_reducible exact H) | (have H2_ := (Option.bind_some _ _).symm.trans H; rw [hy132]; with_reducible exact H2_) | (have H2_ := (Option.bind_some _ _).symm.trans H; with_reducible exact H2_) | with_reducible exact H | (rw [hy132]; exact H) | exact H
             have Ny132 := Aside0.mk hy132
             clear hy132
             by_cases c42 : 1 ≤ (x11_2.size : Int)
             ·rw [if_pos c42] at H
              have c42b0 := eq_true c42
              have c42b1 : decide (1 ≤ (x11_2.size : Int)) = true := decide_eq_true c42
              clear c42
              have H' := Aside0.mk H
              clear H
              have hnb43 := NB113_101.out
              have hnc43 := NB101_113.out
              have hnb44 := NB113_0.out
              have hnc44 := NB0_113.out
              have hcz45_0 : wr.cell? ⟨gb113, 0, none⟩ = some (.int .i64 t108) := (blk_cell BK113.out 0).trans rfl
              have hcz45_1 : wr.cell? ⟨gb113, 1, none⟩ = some (.int .i64 t109) := (blk_cell BK113.out 1).trans rfl
              have hcz45_2 : wr.cell? ⟨gb113, 2, none⟩ = some (u114002) := (blk_cell BK113.out 2).trans rfl
              have hfz45_0 := blk_frozen BK113.out 0
              have hfz45_1 := blk_frozen BK113.out 1
              have hfz45_2 := blk_frozen BK113.out 2
              obtain ⟨Ao46, co46, eo46⟩ := Kd.R_slice HO_114002.out
              subst eo46
              try go_wp2_with (first | ((with_reducible refine gate_callee (f := 94) rfl ?_); refine goesL_ (some 54) rfl rfl Tryz.func94 (by kernel_rfl) rfl #[.pointer (some ⟨g, 0, none⟩), .int .i64 (x114002_2.length : Int)] rfl aq1 ?_; (with_reducible refine (spec_l1Cur_pick.calls g s0_0 x1001_2 x1002_2 (x114002_2.length : Int) t124 t125 t126 w0 _ ?side1 ?side2 A31.out).mono ?_); (case side1 => exact aq16); (case side2 => exact aq18); rintro e w47 ⟨rfl, hi, hb, hk⟩; refine ⟨_, rfl, ?_⟩; have n0_ := Aside0.mk (Kd.R_mono (Kd.R_keep (IsS84.apart (show IsS84 w0 _ g s0_0 x1001_2 x1002_2 from by repeat (first | (with_reducible first | exact HI0.out | apply IsS84.alloc | apply IsS84.drewN | apply IsS84.drew | apply IsS84.set_1 | apply IsS84.set_2 | refine IsS84.far ?_ NB0_101.out _ | refine IsS84.far ?_ NB0_113.out _) | exact HI0.out)) aq32 (by decide)) hk (fun _ h => h.2)) (fun _ h => h.1)); have n1_ := Aside0.mk (KeepBut.blk hk (g' := gb101) (o := .cells #[.int .i64 0, .int .i64 0, .slice none 0 0] 66 (0, 0)) aq5 NB101_0.out (by simp)); have n2_ := Aside0.mk (KeepBut.blk hk (g' := gb113) (o := .cells #[.int .i64 t108, .int .i64 t109, .slice Ao46 x114002_2.length co46] 66 (0, 0)) aq25 NB113_0.out (by simp)); have n3_ := Aside0.mk (KeepBut.trans aq17 hk (.inl rfl)); have n4_ := Aside0.mk (hb); have n5_ := Aside0.mk (hi); clear HO_114002; clear BK101; clear BK113; clear HK; clear HB; clear HI0; have HO_114002 := n0_; have BK101 := n1_; have BK113 := n2_; have HK := n3_; have HB := n4_; have HI0 := n5_; clear n0_ n1_ n2_ n3_ n4_ n5_; (try clear hb); (try clear hb2); (try clear hk); (try clear hi); have hcz48_0 : w47.cell? ⟨gb113, 0, none⟩ = some (.int .i64 t108) := (blk_cell BK113.out 0).trans rfl; have hcz48_1 : w47.cell? ⟨gb113, 1, none⟩ = some (.int .i64 t109) := (blk_cell BK113.out 1).trans rfl; have hcz48_2 : w47.cell? ⟨gb113, 2, none⟩ = some (.slice Ao46 x114002_2.length co46) := (blk_cell BK113.out 2).trans rfl; have hfz48_0 := blk_frozen BK113.out 0; have hfz48_1 := blk_frozen BK113.out 1; have hfz48_2 := blk_frozen BK113.out 2; have p127 : 0 ≤ (t124 : Int) := of_decide_eq_true aq9; have q127 : t124 < (x114002_2.length : Int) := of_decide_eq_true aq9; obtain ⟨ad127, e127, hx127_0⟩ := Kd.at_int (Kd.R_reads' HO_114002.out).2.2 t124 p127 q127; cases e127; replace p127 := eq_true p127; replace q127 := eq_true q127; have p35 : 0 ≤ (t124 : Int) := of_decide_eq_true aq9; have q35 : (t124 : Int) < ((x114002_2.length : Int) : Int) := of_decide_eq_true aq9; obtain ⟨go35, co35, eo35, gb35, gl35, cl35, HG35⟩ := Kd.R_form HO_114002.out (by omega); (first | cases eo35 | (injection eo35 with ea_ en_ ec_; (first | subst ea_ | (injection ea_ with ea_; subst ea_)); subst ec_; clear en_)); have GB35 := Aside0.mk gb35; have GG35 := Aside0.mk HG35; clear gb35 gl35 HG35; (first | simp only [add_plain] at hx127_0 | skip); obtain ⟨hx35_0, hf35_0⟩ := Kd.R_celln 0 HO_114002.out (t124 : Int) p35 q35; replace p35 := eq_true p35; replace q35 := eq_true q35; obtain ⟨hy49_, hz49_⟩ := Kd.R_celln 0 HO_114002.out (t124 : Int) (of_decide_eq_true aq9) (of_decide_eq_true aq9); have HP49 := Kd.R_putg HO_114002.out (t124 : Int) 111) | ((with_reducible refine gate_store (t := 5) (p := 64) rfl ?_); refine store_event (t := 5) (p := 64) (v := ?vo_w50) (w1 := (w47.setCell ⟨go35, (t124 : Int).toNat, none⟩ (.int .u8 111))) ?hg ?ho ?hn ?hr ?_; (case ho => rfl); (case hg => rfl); (case hn => rfl); (case hr => exact aq23); intro w50 hw; have hg : w47.grownBy w50 (some go35) := (by rw [hw]; exact HP49.2); have hp_ : Kd.R (Kd.int .u8) 5 w50 w.heap.size (fun _ => True) (.slice (some ⟨go35, 0, none⟩) x114002_2.length co46) y128 := (by rw [hw, Ny128.out]; exact HP49.1); clear HP49; have n0_ := Aside0.mk (hp_); have n1_ := Aside0.mk (blk_grown (g := gb101) (o := .cells #[.int .i64 0, .int .i64 0, .slice none 0 0] 66 (0, 0)) aq5 hg (Kd.R_ne HO_114002.out BK101.out (by decide))); have n2_ := Aside0.mk (blk_grown (g := gb113) (o := .cells #[.int .i64 t108, .int .i64 t109, .slice (some ⟨go35, 0, none⟩) x114002_2.length co46] 66 (0, 0)) aq25 hg (Kd.R_ne HO_114002.out BK113.out (by decide))); have n3_ := Aside0.mk (IsS84.grown aq16 hg (IsS84.own_ne HI0.out HO_114002.out (by decide))); have n4_ := Aside0.mk ((by rw [hw]; exact below_set (HB.out) (Nat.le_trans HL.out GB35.out) : Below w0.heap.size w0 w50)); have n5_ := Aside0.mk (KeepBut.trans aq17 (KeepBut.of_grown hg g) (Kd.R_base2 HO_114002.out)); clear HO_114002; clear BK101; clear BK113; clear HI0; clear HB; clear HK; have HO_114002 := n0_; have BK101 := n1_; have BK113 := n2_; have HI0 := n3_; have HB := n4_; have HK := n5_; clear n0_ n1_ n2_ n3_ n4_ n5_; clear hg hw hp_) | ((with_reducible refine gate_callee (f := 100) rfl ?_); refine goesL_ (some 66) rfl rfl Tryz.func100 (by kernel_rfl) rfl #[.pointer (some ⟨g, 0, none⟩), .int .i64 2] rfl aq1 ?_; (with_reducible refine (spec_l1Cur_one.calls g s0_0 t125 t126 2 true t130 t131 w0 _ ?side1 ?side2 A36.out).mono ?_); (case side1 => exact aq16); (case side2 => exact aq18); rintro e w51 ⟨rfl, hi, hb, hk⟩; refine ⟨_, rfl, ?_⟩; have n0_ := Aside0.mk (Kd.R_mono (Kd.R_keep (IsS84.apart (show IsS84 w0 _ g s0_0 t125 t126 from by repeat (first | (with_reducible first | exact HI0.out | apply IsS84.alloc | apply IsS84.drewN | apply IsS84.drew | apply IsS84.set_1 | apply IsS84.set_2 | refine IsS84.far ?_ NB0_101.out _ | refine IsS84.far ?_ NB0_113.out _) | exact HI0.out)) aq32 (by decide)) hk (fun _ h => h.2)) (fun _ h => h.1)); have n1_ := Aside0.mk (KeepBut.blk hk (g' := gb101) (o := .cells #[.int .i64 0, .int .i64 0, .slice none 0 0] 66 (0, 0)) aq5 NB101_0.out (by simp)); have n2_ := Aside0.mk (KeepBut.blk hk (g' := gb113) (o := .cells #[.int .i64 t108, .int .i64 t109, .slice (some ⟨go35, 0, none⟩) x114002_2.length co46] 66 (0, 0)) aq25 NB113_0.out (by simp)); have n3_ := Aside0.mk (KeepBut.trans aq17 hk (.inl rfl)); have n4_ := Aside0.mk (hb); have n5_ := Aside0.mk (hi); clear HO_114002; clear BK101; clear BK113; clear HK; clear HB; clear HI0; have HO_114002 := n0_; have BK101 := n1_; have BK113 := n2_; have HK := n3_; have HB := n4_; have HI0 := n5_; clear n0_ n1_ n2_ n3_ n4_ n5_; (try clear hb); (try clear hb2); (try clear hk); (try clear hi)))
              have n0_ := Aside0.mk (Kd.R_drew HO_114002.out)
              have n1_ := Aside0.mk (blk_drew BK101.out)
              have n2_ := Aside0.mk (blk_drew BK113.out)
              have n3_ := Aside0.mk (IsS84.drew HI0.out)
              have n4_ := Aside0.mk (keep_drew HK.out)
              have n5_ := Aside0.mk (below_drew1 HB.out)
              clear HO_114002
              clear BK101
              clear BK113
              clear HI0
              clear HK
              clear HB
              have HO_114002 := n0_
              have BK101 := n1_
              have BK113 := n2_
              have HI0 := n3_
              have HK := n4_
              have HB := n5_
              clear n0_ n1_ n2_ n3_ n4_ n5_
              have p40 : 0 ≤ (0 : Int) := (by omega)
              have q40 : 0 < x11_2.size := (by have : (0 : Int) < (x11_2.size : Int) := of_decide_eq_true aq9; omega)
              have hx40 : ∀ h : 0 < x11_2.size, ((x11_2[0]'h).toNat : Int) = bt x11_2 0 := bt_at x11_2 0
              clear p40
              have qi40 : (0 < (x11_2.size : Int)) = True := eq_true (of_decide_eq_true aq9)
              replace q40 := eq_true q40
              have p41 : 0 ≤ (t124 : Int) := of_decide_eq_true aq9
              have q41 : (t124 : Int) < ((x114002_2.length : Int) : Int) := of_decide_eq_true aq9
              obtain ⟨hx41_0, hf41_0⟩ := Kd.R_celln 0 HO_114002.out (t124 : Int) p41 q41
              replace p41 := eq_true p41
              replace q41 := eq_true q41
              have HN0_go35 := Aside0.mk (show g ≠ go35 from by have h_ := IsS84.own_ne HI0.out HO_114002.out (by decide); intro e_; exact h_ (by rw [e_]; rfl))
              have HP53 := Kd.R_putn HO_114002.out (t124 : Int) (bt x11_2 0)
              rw [← Ny132.out] at HP53
              have HQ53 := Aside0.mk HP53
              clear HP53
              refine start_ (n := 7) (S := fun w' => w'.cell? ⟨gb113, 0, none⟩ = some (.int .i64 t108) ∧ w'.cell? ⟨gb113, 1, none⟩ = some (.int .i64 t109) ∧ w'.cell? ⟨gb113, 2, none⟩ = some (.slice (some ⟨go35, 0, none⟩) x114002_2.length co46)) (ds := [6]) #[false, false, false, false, false, false, false] (by kernel_rfl) rfl rfl ⟨(blk_cell BK113.out 0).trans rfl, (blk_cell BK113.out 1).trans rfl, (blk_cell BK113.out 2).trans rfl⟩ (fun hHeld => ?_)
              generalize w51.drew = w52 at HO_114002 BK101 BK113 HI0 HK HB HQ53 hf41_0 hx41_0 hHeld ⊢
              refine pure_ (i := 0) (N := some 72) (v := ?_) (a' := ?_) #[true, false, false, false, false, false, false] rfl rfl (by kernel_rfl) (fun _ _ _ h => h) (Or.inl ⟨by rfl, ?_⟩) ?_ ?_
              rotate_left
              ·intro w'
               go_simp
               with_reducible rfl
              rotate_left
              ·simp only [Act.put, List.setIfInBounds_toArray, List.set_cons_zero, List.set_cons_succ, i64_w, i32_w]
               rfl
              refine pure_ (i := 2) (N := some 74) (v := ?_) (a' := ?_) #[true, false, true, false, false, false, false] rfl rfl (by kernel_rfl) (fun _ _ _ h => h) (Or.inl ⟨by rfl, ?_⟩) ?_ ?_
              rotate_left
              ·intro w'
               go_simp
               with_reducible rfl
              rotate_left
              ·simp only [Act.put, List.setIfInBounds_toArray, List.set_cons_zero, List.set_cons_succ, i64_w, i32_w]
               rfl
              refine pure_ (i := 3) (N := some 75) (v := ?_) (a' := ?_) #[true, false, true, true, false, false, false] rfl rfl (by kernel_rfl) (fun _ _ _ h => h) (Or.inl ⟨by rfl, ?_⟩) ?_ ?_
              rotate_left
              ·intro w'
               go_simp
               with_reducible rfl
              rotate_left
              ·simp only [Act.put, List.setIfInBounds_toArray, List.set_cons_zero, List.set_cons_succ, i64_w, i32_w]
               rfl
              refine take_ (i := 1) (N := some 73) (v := ?_) (a' := ?_) #[true, true, true, true, false, false, false] rfl rfl (by kernel_rfl) (fun _ _ _ h => h) (Or.inl ⟨by rfl, ?_⟩) hHeld ?_ ?_
              rotate_left
              ·rintro w' ⟨s0, s1, s2⟩
               go_simp
               with_reducible rfl
              rotate_left
              ·simp only [Act.put, List.setIfInBounds_toArray, List.set_cons_zero, List.set_cons_succ, i64_w, i32_w]
               rfl
              refine take_ (i := 4) (N := some 76) (v := ?_) (a' := ?_) #[true, true, true, true, true, false, false] rfl rfl (by kernel_rfl) (fun _ _ _ h => h) (Or.inl ⟨by rfl, ?_⟩) hHeld ?_ ?_
              rotate_left
              ·rintro w' ⟨s0, s1, s2⟩
               go_simp
               with_reducible rfl
              rotate_left
              ·simp only [Act.put, List.setIfInBounds_toArray, List.set_cons_zero, List.set_cons_succ, i64_w, i32_w]
               rfl
              refine pure_ (i := 5) (N := some 77) (v := ?_) (a' := ?_) #[true, true, true, true, true, true, false] rfl rfl (by kernel_rfl) (fun _ _ _ h => h) (Or.inl ⟨by rfl, ?_⟩) ?_ ?_
              rotate_left
              ·intro w'
               go_simp
               with_reducible rfl
              rotate_left
              ·simp only [Act.put, List.setIfInBounds_toArray, List.set_cons_zero, List.set_cons_succ, i64_w, i32_w]
               rfl
              refine last_ (i := 6) (N := none) #[true, true, true, true, true, true, true] rfl rfl (by kernel_rfl) (by decide) (fun K hK => ?_)
              refine skip_ (w1 := ?_) (by rfl) rfl ?_ ?_
              rotate_left
              ·go_simp
               rfl
              refine hK.out _ _ ?_
              clear hK K
              refine done_ (by kernel_rfl) ?_
              try go_wp2
              go_roundg k2
              case measure => have := HK1.out; have := HK2.out; omega
              case rel => exact ⟨(x11_2.extract 1 x11_2.size), (wrap64 (x12_2 - 1)), (t130), (t131), (y132), (.slice (some ⟨go35, 0, none⟩) x114002_2.length co46), aq11, aq11, H', ⟨aq82⟩, ⟨by (with_reducible repeat (first | apply Kd.R_alloc | apply Kd.R_drewN | apply Kd.R_drew)); exact HQ53.out⟩, ⟨aq71⟩, ⟨aq70⟩, ⟨by repeat (first | (with_reducible first | exact HI0.out | apply IsS84.alloc | apply IsS84.drewN | apply IsS84.drew | apply IsS84.set_1 | apply IsS84.set_2 | refine IsS84.far ?_ HN0_go35.out _ | refine IsS84.far ?_ NB0_101.out _ | refine IsS84.far ?_ NB0_113.out _) | exact HI0.out)⟩, ⟨by repeat (first | (with_reducible first | exact HK.out | apply KeepBut.set_ | apply keep_drewN | apply keep_drew | apply keep_alloc | refine keep_far ?_ GB35.out _ | refine keep_far ?_ GW101.out _ | refine keep_far ?_ GW113.out _) | exact HK.out)⟩, ⟨by repeat (first | (with_reducible first | exact HB.out | apply below_alloc | apply pw_below_drewN | apply below_drew1 | refine below_set ?_ (Nat.le_trans HL.out GB35.out) | refine below_set ?_ (IsS84.ge HI0.out) | refine below_set ?_ GE101.out | refine below_set ?_ GE113.out) | exact HB.out)⟩⟩
             ·rw [if_neg c42] at H
              exact absurd H (by simp)
            ·rw [if_neg c39] at H
             exact absurd H (by simp)
           ·rw [if_neg c38] at H
            have c38b0 : decide (0 < (x11_2.size : Int)) = false := decide_eq_false c38
            have c38b1 : decide (0 < x11_2.size) = false := decide_eq_false (by omega)
            clear c38
            have H' := Aside0.mk H
            clear H
            have hnb54 := NB113_101.out
            have hnc54 := NB101_113.out
            have hnb55 := NB113_0.out
            have hnc55 := NB0_113.out
            have hcz56_0 : wr.cell? ⟨gb113, 0, none⟩ = some (.int .i64 t108) := (blk_cell BK113.out 0).trans rfl
            have hcz56_1 : wr.cell? ⟨gb113, 1, none⟩ = some (.int .i64 t109) := (blk_cell BK113.out 1).trans rfl
            have hcz56_2 : wr.cell? ⟨gb113, 2, none⟩ = some (u114002) := (blk_cell BK113.out 2).trans rfl
            have hfz56_0 := blk_frozen BK113.out 0
            have hfz56_1 := blk_frozen BK113.out 1
            have hfz56_2 := blk_frozen BK113.out 2
            obtain ⟨Ao57, co57, eo57⟩ := Kd.R_slice HO_114002.out
            subst eo57
            go_wp2_with (first | ((with_reducible refine gate_callee (f := 94) rfl ?_); refine goesL_ (some 54) rfl rfl Tryz.func94 (by kernel_rfl) rfl #[.pointer (some ⟨g, 0, none⟩), .int .i64 (x114002_2.length : Int)] rfl aq1 ?_; (with_reducible refine (spec_l1Cur_pick.calls g s0_0 x1001_2 x1002_2 (x114002_2.length : Int) t124 t125 t126 w0 _ ?side1 ?side2 A31.out).mono ?_); (case side1 => exact aq16); (case side2 => exact aq18); rintro e w58 ⟨rfl, hi, hb, hk⟩; refine ⟨_, rfl, ?_⟩; have n0_ := Aside0.mk (Kd.R_mono (Kd.R_keep (IsS84.apart (show IsS84 w0 _ g s0_0 x1001_2 x1002_2 from by repeat (first | (with_reducible first | exact HI0.out | apply IsS84.alloc | apply IsS84.drewN | apply IsS84.drew | apply IsS84.set_1 | apply IsS84.set_2 | refine IsS84.far ?_ NB0_101.out _ | refine IsS84.far ?_ NB0_113.out _) | exact HI0.out)) aq32 (by decide)) hk (fun _ h => h.2)) (fun _ h => h.1)); have n1_ := Aside0.mk (KeepBut.blk hk (g' := gb101) (o := .cells #[.int .i64 0, .int .i64 0, .slice none 0 0] 66 (0, 0)) aq5 NB101_0.out (by simp)); have n2_ := Aside0.mk (KeepBut.blk hk (g' := gb113) (o := .cells #[.int .i64 t108, .int .i64 t109, .slice Ao57 x114002_2.length co57] 66 (0, 0)) aq25 NB113_0.out (by simp)); have n3_ := Aside0.mk (KeepBut.trans aq17 hk (.inl rfl)); have n4_ := Aside0.mk (hb); have n5_ := Aside0.mk (hi); clear HO_114002; clear BK101; clear BK113; clear HK; clear HB; clear HI0; have HO_114002 := n0_; have BK101 := n1_; have BK113 := n2_; have HK := n3_; have HB := n4_; have HI0 := n5_; clear n0_ n1_ n2_ n3_ n4_ n5_; (try clear hb); (try clear hb2); (try clear hk); (try clear hi); have hcz59_0 : w58.cell? ⟨gb113, 0, none⟩ = some (.int .i64 t108) := (blk_cell BK113.out 0).trans rfl; have hcz59_1 : w58.cell? ⟨gb113, 1, none⟩ = some (.int .i64 t109) := (blk_cell BK113.out 1).trans rfl; have hcz59_2 : w58.cell? ⟨gb113, 2, none⟩ = some (.slice Ao57 x114002_2.length co57) := (blk_cell BK113.out 2).trans rfl; have hfz59_0 := blk_frozen BK113.out 0; have hfz59_1 := blk_frozen BK113.out 1; have hfz59_2 := blk_frozen BK113.out 2; have p127 : 0 ≤ (t124 : Int) := of_decide_eq_true aq9; have q127 : t124 < (x114002_2.length : Int) := of_decide_eq_true aq9; obtain ⟨ad127, e127, hx127_0⟩ := Kd.at_int (Kd.R_reads' HO_114002.out).2.2 t124 p127 q127; cases e127; replace p127 := eq_true p127; replace q127 := eq_true q127; have p35 : 0 ≤ (t124 : Int) := of_decide_eq_true aq9; have q35 : (t124 : Int) < ((x114002_2.length : Int) : Int) := of_decide_eq_true aq9; obtain ⟨go35, co35, eo35, gb35, gl35, cl35, HG35⟩ := Kd.R_form HO_114002.out (by omega); (first | cases eo35 | (injection eo35 with ea_ en_ ec_; (first | subst ea_ | (injection ea_ with ea_; subst ea_)); subst ec_; clear en_)); have GB35 := Aside0.mk gb35; have GG35 := Aside0.mk HG35; clear gb35 gl35 HG35; (first | simp only [add_plain] at hx127_0 | skip); obtain ⟨hx35_0, hf35_0⟩ := Kd.R_celln 0 HO_114002.out (t124 : Int) p35 q35; replace p35 := eq_true p35; replace q35 := eq_true q35; obtain ⟨hy60_, hz60_⟩ := Kd.R_celln 0 HO_114002.out (t124 : Int) (of_decide_eq_true aq9) (of_decide_eq_true aq9); have HP60 := Kd.R_putg HO_114002.out (t124 : Int) 111) | ((with_reducible refine gate_store (t := 5) (p := 64) rfl ?_); refine store_event (t := 5) (p := 64) (v := ?vo_w61) (w1 := (w58.setCell ⟨go35, (t124 : Int).toNat, none⟩ (.int .u8 111))) ?hg ?ho ?hn ?hr ?_; (case ho => rfl); (case hg => rfl); (case hn => rfl); (case hr => exact aq23); intro w61 hw; have hg : w58.grownBy w61 (some go35) := (by rw [hw]; exact HP60.2); have hp_ : Kd.R (Kd.int .u8) 5 w61 w.heap.size (fun _ => True) (.slice (some ⟨go35, 0, none⟩) x114002_2.length co57) y128 := (by rw [hw, Ny128.out]; exact HP60.1); clear HP60; have n0_ := Aside0.mk (hp_); have n1_ := Aside0.mk (blk_grown (g := gb101) (o := .cells #[.int .i64 0, .int .i64 0, .slice none 0 0] 66 (0, 0)) aq5 hg (Kd.R_ne HO_114002.out BK101.out (by decide))); have n2_ := Aside0.mk (blk_grown (g := gb113) (o := .cells #[.int .i64 t108, .int .i64 t109, .slice (some ⟨go35, 0, none⟩) x114002_2.length co57] 66 (0, 0)) aq25 hg (Kd.R_ne HO_114002.out BK113.out (by decide))); have n3_ := Aside0.mk (IsS84.grown aq16 hg (IsS84.own_ne HI0.out HO_114002.out (by decide))); have n4_ := Aside0.mk ((by rw [hw]; exact below_set (HB.out) (Nat.le_trans HL.out GB35.out) : Below w0.heap.size w0 w61)); have n5_ := Aside0.mk (KeepBut.trans aq17 (KeepBut.of_grown hg g) (Kd.R_base2 HO_114002.out)); clear HO_114002; clear BK101; clear BK113; clear HI0; clear HB; clear HK; have HO_114002 := n0_; have BK101 := n1_; have BK113 := n2_; have HI0 := n3_; have HB := n4_; have HK := n5_; clear n0_ n1_ n2_ n3_ n4_ n5_; clear hg hw hp_) | ((with_reducible refine gate_callee (f := 100) rfl ?_); refine goesL_ (some 66) rfl rfl Tryz.func100 (by kernel_rfl) rfl #[.pointer (some ⟨g, 0, none⟩), .int .i64 2] rfl aq1 ?_; (with_reducible refine (spec_l1Cur_one.calls g s0_0 t125 t126 2 true t130 t131 w0 _ ?side1 ?side2 A36.out).mono ?_); (case side1 => exact aq16); (case side2 => exact aq18); rintro e w62 ⟨rfl, hi, hb, hk⟩; refine ⟨_, rfl, ?_⟩; have n0_ := Aside0.mk (Kd.R_mono (Kd.R_keep (IsS84.apart (show IsS84 w0 _ g s0_0 t125 t126 from by repeat (first | (with_reducible first | exact HI0.out | apply IsS84.alloc | apply IsS84.drewN | apply IsS84.drew | apply IsS84.set_1 | apply IsS84.set_2 | refine IsS84.far ?_ NB0_101.out _ | refine IsS84.far ?_ NB0_113.out _) | exact HI0.out)) aq32 (by decide)) hk (fun _ h => h.2)) (fun _ h => h.1)); have n1_ := Aside0.mk (KeepBut.blk hk (g' := gb101) (o := .cells #[.int .i64 0, .int .i64 0, .slice none 0 0] 66 (0, 0)) aq5 NB101_0.out (by simp)); have n2_ := Aside0.mk (KeepBut.blk hk (g' := gb113) (o := .cells #[.int .i64 t108, .int .i64 t109, .slice (some ⟨go35, 0, none⟩) x114002_2.length co57] 66 (0, 0)) aq25 NB113_0.out (by simp)); have n3_ := Aside0.mk (KeepBut.trans aq17 hk (.inl rfl)); have n4_ := Aside0.mk (hb); have n5_ := Aside0.mk (hi); clear HO_114002; clear BK101; clear BK113; clear HK; clear HB; clear HI0; have HO_114002 := n0_; have BK101 := n1_; have BK113 := n2_; have HK := n3_; have HB := n4_; have HI0 := n5_; clear n0_ n1_ n2_ n3_ n4_ n5_; (try clear hb); (try clear hb2); (try clear hk); (try clear hi)))
            go_roundg k2
            case measure => have := HK1.out; have := HK2.out; omega
            case rel => exact ⟨(x11_2), (wrap64 (x12_2 - 1)), (t130), (t131), (y128), (.slice (some ⟨go35, 0, none⟩) x114002_2.length co57), aq11, aq11, H', ⟨aq82⟩, ⟨aq32⟩, ⟨aq5⟩, ⟨aq25⟩, ⟨aq16⟩, ⟨aq17⟩, ⟨aq18⟩⟩
          ·replace c37 := Bool.eq_false_iff.mpr c37
           subst c37
           have H1 : (spec_l1Cur_grid.l1 k2 x11_2 (wrap64 (x12_2 - 1)) s0_0 t130 t131 t108 t109 y128) = some (r1, r2, r3, r4, r5) := by rw [if_neg (show ¬ (false = true) by decide)] at H; exact H
           clear H
           have H := H1
           clear H1
           have H' := Aside0.mk H
           clear H
           have hnb63 := NB113_101.out
           have hnc63 := NB101_113.out
           have hnb64 := NB113_0.out
           have hnc64 := NB0_113.out
           have hcz65_0 : wr.cell? ⟨gb113, 0, none⟩ = some (.int .i64 t108) := (blk_cell BK113.out 0).trans rfl
           have hcz65_1 : wr.cell? ⟨gb113, 1, none⟩ = some (.int .i64 t109) := (blk_cell BK113.out 1).trans rfl
           have hcz65_2 : wr.cell? ⟨gb113, 2, none⟩ = some (u114002) := (blk_cell BK113.out 2).trans rfl
           have hfz65_0 := blk_frozen BK113.out 0
           have hfz65_1 := blk_frozen BK113.out 1
           have hfz65_2 := blk_frozen BK113.out 2
           obtain ⟨Ao66, co66, eo66⟩ := Kd.R_slice HO_114002.out
           subst eo66
           go_wp2_with (first | ((with_reducible refine gate_callee (f := 94) rfl ?_); refine goesL_ (some 54) rfl rfl Tryz.func94 (by kernel_rfl) rfl #[.pointer (some ⟨g, 0, none⟩), .int .i64 (x114002_2.length : Int)] rfl aq1 ?_; (with_reducible refine (spec_l1Cur_pick.calls g s0_0 x1001_2 x1002_2 (x114002_2.length : Int) t124 t125 t126 w0 _ ?side1 ?side2 A31.out).mono ?_); (case side1 => exact aq16); (case side2 => exact aq18); rintro e w67 ⟨rfl, hi, hb, hk⟩; refine ⟨_, rfl, ?_⟩; have n0_ := Aside0.mk (Kd.R_mono (Kd.R_keep (IsS84.apart (show IsS84 w0 _ g s0_0 x1001_2 x1002_2 from by repeat (first | (with_reducible first | exact HI0.out | apply IsS84.alloc | apply IsS84.drewN | apply IsS84.drew | apply IsS84.set_1 | apply IsS84.set_2 | refine IsS84.far ?_ NB0_101.out _ | refine IsS84.far ?_ NB0_113.out _) | exact HI0.out)) aq32 (by decide)) hk (fun _ h => h.2)) (fun _ h => h.1)); have n1_ := Aside0.mk (KeepBut.blk hk (g' := gb101) (o := .cells #[.int .i64 0, .int .i64 0, .slice none 0 0] 66 (0, 0)) aq5 NB101_0.out (by simp)); have n2_ := Aside0.mk (KeepBut.blk hk (g' := gb113) (o := .cells #[.int .i64 t108, .int .i64 t109, .slice Ao66 x114002_2.length co66] 66 (0, 0)) aq25 NB113_0.out (by simp)); have n3_ := Aside0.mk (KeepBut.trans aq17 hk (.inl rfl)); have n4_ := Aside0.mk (hb); have n5_ := Aside0.mk (hi); clear HO_114002; clear BK101; clear BK113; clear HK; clear HB; clear HI0; have HO_114002 := n0_; have BK101 := n1_; have BK113 := n2_; have HK := n3_; have HB := n4_; have HI0 := n5_; clear n0_ n1_ n2_ n3_ n4_ n5_; (try clear hb); (try clear hb2); (try clear hk); (try clear hi); have hcz68_0 : w67.cell? ⟨gb113, 0, none⟩ = some (.int .i64 t108) := (blk_cell BK113.out 0).trans rfl; have hcz68_1 : w67.cell? ⟨gb113, 1, none⟩ = some (.int .i64 t109) := (blk_cell BK113.out 1).trans rfl; have hcz68_2 : w67.cell? ⟨gb113, 2, none⟩ = some (.slice Ao66 x114002_2.length co66) := (blk_cell BK113.out 2).trans rfl; have hfz68_0 := blk_frozen BK113.out 0; have hfz68_1 := blk_frozen BK113.out 1; have hfz68_2 := blk_frozen BK113.out 2; have p127 : 0 ≤ (t124 : Int) := of_decide_eq_true aq9; have q127 : t124 < (x114002_2.length : Int) := of_decide_eq_true aq9; obtain ⟨ad127, e127, hx127_0⟩ := Kd.at_int (Kd.R_reads' HO_114002.out).2.2 t124 p127 q127; cases e127; replace p127 := eq_true p127; replace q127 := eq_true q127; have p35 : 0 ≤ (t124 : Int) := of_decide_eq_true aq9; have q35 : (t124 : Int) < ((x114002_2.length : Int) : Int) := of_decide_eq_true aq9; obtain ⟨go35, co35, eo35, gb35, gl35, cl35, HG35⟩ := Kd.R_form HO_114002.out (by omega); (first | cases eo35 | (injection eo35 with ea_ en_ ec_; (first | subst ea_ | (injection ea_ with ea_; subst ea_)); subst ec_; clear en_)); have GB35 := Aside0.mk gb35; have GG35 := Aside0.mk HG35; clear gb35 gl35 HG35; (first | simp only [add_plain] at hx127_0 | skip); obtain ⟨hx35_0, hf35_0⟩ := Kd.R_celln 0 HO_114002.out (t124 : Int) p35 q35; replace p35 := eq_true p35; replace q35 := eq_true q35; obtain ⟨hy69_, hz69_⟩ := Kd.R_celln 0 HO_114002.out (t124 : Int) (of_decide_eq_true aq9) (of_decide_eq_true aq9); have HP69 := Kd.R_putg HO_114002.out (t124 : Int) 111) | ((with_reducible refine gate_store (t := 5) (p := 64) rfl ?_); refine store_event (t := 5) (p := 64) (v := ?vo_w70) (w1 := (w67.setCell ⟨go35, (t124 : Int).toNat, none⟩ (.int .u8 111))) ?hg ?ho ?hn ?hr ?_; (case ho => rfl); (case hg => rfl); (case hn => rfl); (case hr => exact aq23); intro w70 hw; have hg : w67.grownBy w70 (some go35) := (by rw [hw]; exact HP69.2); have hp_ : Kd.R (Kd.int .u8) 5 w70 w.heap.size (fun _ => True) (.slice (some ⟨go35, 0, none⟩) x114002_2.length co66) y128 := (by rw [hw, Ny128.out]; exact HP69.1); clear HP69; have n0_ := Aside0.mk (hp_); have n1_ := Aside0.mk (blk_grown (g := gb101) (o := .cells #[.int .i64 0, .int .i64 0, .slice none 0 0] 66 (0, 0)) aq5 hg (Kd.R_ne HO_114002.out BK101.out (by decide))); have n2_ := Aside0.mk (blk_grown (g := gb113) (o := .cells #[.int .i64 t108, .int .i64 t109, .slice (some ⟨go35, 0, none⟩) x114002_2.length co66] 66 (0, 0)) aq25 hg (Kd.R_ne HO_114002.out BK113.out (by decide))); have n3_ := Aside0.mk (IsS84.grown aq16 hg (IsS84.own_ne HI0.out HO_114002.out (by decide))); have n4_ := Aside0.mk ((by rw [hw]; exact below_set (HB.out) (Nat.le_trans HL.out GB35.out) : Below w0.heap.size w0 w70)); have n5_ := Aside0.mk (KeepBut.trans aq17 (KeepBut.of_grown hg g) (Kd.R_base2 HO_114002.out)); clear HO_114002; clear BK101; clear BK113; clear HI0; clear HB; clear HK; have HO_114002 := n0_; have BK101 := n1_; have BK113 := n2_; have HI0 := n3_; have HB := n4_; have HK := n5_; clear n0_ n1_ n2_ n3_ n4_ n5_; clear hg hw hp_) | ((with_reducible refine gate_callee (f := 100) rfl ?_); refine goesL_ (some 66) rfl rfl Tryz.func100 (by kernel_rfl) rfl #[.pointer (some ⟨g, 0, none⟩), .int .i64 2] rfl aq1 ?_; (with_reducible refine (spec_l1Cur_one.calls g s0_0 t125 t126 2 false t130 t131 w0 _ ?side1 ?side2 A36.out).mono ?_); (case side1 => exact aq16); (case side2 => exact aq18); rintro e w71 ⟨rfl, hi, hb, hk⟩; refine ⟨_, rfl, ?_⟩; have n0_ := Aside0.mk (Kd.R_mono (Kd.R_keep (IsS84.apart (show IsS84 w0 _ g s0_0 t125 t126 from by repeat (first | (with_reducible first | exact HI0.out | apply IsS84.alloc | apply IsS84.drewN | apply IsS84.drew | apply IsS84.set_1 | apply IsS84.set_2 | refine IsS84.far ?_ NB0_101.out _ | refine IsS84.far ?_ NB0_113.out _) | exact HI0.out)) aq32 (by decide)) hk (fun _ h => h.2)) (fun _ h => h.1)); have n1_ := Aside0.mk (KeepBut.blk hk (g' := gb101) (o := .cells #[.int .i64 0, .int .i64 0, .slice none 0 0] 66 (0, 0)) aq5 NB101_0.out (by simp)); have n2_ := Aside0.mk (KeepBut.blk hk (g' := gb113) (o := .cells #[.int .i64 t108, .int .i64 t109, .slice (some ⟨go35, 0, none⟩) x114002_2.length co66] 66 (0, 0)) aq25 NB113_0.out (by simp)); have n3_ := Aside0.mk (KeepBut.trans aq17 hk (.inl rfl)); have n4_ := Aside0.mk (hb); have n5_ := Aside0.mk (hi); clear HO_114002; clear BK101; clear BK113; clear HK; clear HB; clear HI0; have HO_114002 := n0_; have BK101 := n1_; have BK113 := n2_; have HK := n3_; have HB := n4_; have HI0 := n5_; clear n0_ n1_ n2_ n3_ n4_ n5_; (try clear hb); (try clear hb2); (try clear hk); (try clear hi)))
           go_roundg k2
           case measure => have := HK1.out; have := HK2.out; omega
           case rel => exact ⟨(x11_2), (wrap64 (x12_2 - 1)), (t130), (t131), (y128), (.slice (some ⟨go35, 0, none⟩) x114002_2.length co66), aq11, aq11, H', ⟨aq82⟩, ⟨aq32⟩, ⟨aq5⟩, ⟨aq25⟩, ⟨aq16⟩, ⟨aq17⟩, ⟨aq18⟩⟩
         ·rw [if_neg c34] at H
          have c34b0 : ((rd x114002_2 t124) == 46) = false := beq_eq_false_iff_ne.mpr c34
          have c34b1 : ((rd x114002_2 t124) != 46) = true := bne_iff_ne.mpr c34
          have H' := Aside0.mk H
          clear H
          have hnb72 := NB113_101.out
          have hnc72 := NB101_113.out
          have hnb73 := NB113_0.out
          have hnc73 := NB0_113.out
          have hcz74_0 : wr.cell? ⟨gb113, 0, none⟩ = some (.int .i64 t108) := (blk_cell BK113.out 0).trans rfl
          have hcz74_1 : wr.cell? ⟨gb113, 1, none⟩ = some (.int .i64 t109) := (blk_cell BK113.out 1).trans rfl
          have hcz74_2 : wr.cell? ⟨gb113, 2, none⟩ = some (u114002) := (blk_cell BK113.out 2).trans rfl
          have hfz74_0 := blk_frozen BK113.out 0
          have hfz74_1 := blk_frozen BK113.out 1
          have hfz74_2 := blk_frozen BK113.out 2
          obtain ⟨Ao75, co75, eo75⟩ := Kd.R_slice HO_114002.out
          subst eo75
          go_wp2_with (first | ((with_reducible refine gate_callee (f := 94) rfl ?_); refine goesL_ (some 54) rfl rfl Tryz.func94 (by kernel_rfl) rfl #[.pointer (some ⟨g, 0, none⟩), .int .i64 (x114002_2.length : Int)] rfl aq1 ?_; (with_reducible refine (spec_l1Cur_pick.calls g s0_0 x1001_2 x1002_2 (x114002_2.length : Int) t124 t125 t126 w0 _ ?side1 ?side2 A31.out).mono ?_); (case side1 => exact aq16); (case side2 => exact aq18); rintro e w76 ⟨rfl, hi, hb, hk⟩; refine ⟨_, rfl, ?_⟩; have n0_ := Aside0.mk (Kd.R_mono (Kd.R_keep (IsS84.apart (show IsS84 w0 _ g s0_0 x1001_2 x1002_2 from by repeat (first | (with_reducible first | exact HI0.out | apply IsS84.alloc | apply IsS84.drewN | apply IsS84.drew | apply IsS84.set_1 | apply IsS84.set_2 | refine IsS84.far ?_ NB0_101.out _ | refine IsS84.far ?_ NB0_113.out _) | exact HI0.out)) aq32 (by decide)) hk (fun _ h => h.2)) (fun _ h => h.1)); have n1_ := Aside0.mk (KeepBut.blk hk (g' := gb101) (o := .cells #[.int .i64 0, .int .i64 0, .slice none 0 0] 66 (0, 0)) aq5 NB101_0.out (by simp)); have n2_ := Aside0.mk (KeepBut.blk hk (g' := gb113) (o := .cells #[.int .i64 t108, .int .i64 t109, .slice Ao75 x114002_2.length co75] 66 (0, 0)) aq25 NB113_0.out (by simp)); have n3_ := Aside0.mk (KeepBut.trans aq17 hk (.inl rfl)); have n4_ := Aside0.mk (hb); have n5_ := Aside0.mk (hi); clear HO_114002; clear BK101; clear BK113; clear HK; clear HB; clear HI0; have HO_114002 := n0_; have BK101 := n1_; have BK113 := n2_; have HK := n3_; have HB := n4_; have HI0 := n5_; clear n0_ n1_ n2_ n3_ n4_ n5_; (try clear hb); (try clear hb2); (try clear hk); (try clear hi); have hcz77_0 : w76.cell? ⟨gb113, 0, none⟩ = some (.int .i64 t108) := (blk_cell BK113.out 0).trans rfl; have hcz77_1 : w76.cell? ⟨gb113, 1, none⟩ = some (.int .i64 t109) := (blk_cell BK113.out 1).trans rfl; have hcz77_2 : w76.cell? ⟨gb113, 2, none⟩ = some (.slice Ao75 x114002_2.length co75) := (blk_cell BK113.out 2).trans rfl; have hfz77_0 := blk_frozen BK113.out 0; have hfz77_1 := blk_frozen BK113.out 1; have hfz77_2 := blk_frozen BK113.out 2; have p127 : 0 ≤ (t124 : Int) := of_decide_eq_true aq9; have q127 : t124 < (x114002_2.length : Int) := of_decide_eq_true aq9; obtain ⟨ad127, e127, hx127_0⟩ := Kd.at_int (Kd.R_reads' HO_114002.out).2.2 t124 p127 q127; cases e127; replace p127 := eq_true p127; replace q127 := eq_true q127))
          go_roundg k2
          case measure => have := HK1.out; have := HK2.out; omega
          case rel => exact ⟨(x11_2), (wrap64 (x12_2 - 1)), (t125), (t126), (x114002_2), (.slice (some ad127) x114002_2.length co75), aq11, aq11, H', ⟨aq82⟩, ⟨aq32⟩, ⟨aq5⟩, ⟨aq25⟩, ⟨aq16⟩, ⟨aq17⟩, ⟨aq18⟩⟩
        ·rw [if_neg c33] at H
         exact absurd H (by simp)
       ·rw [if_neg c32] at H
        exact absurd H (by simp)
      ·rw [if_neg c30] at H
       have c30b0 : decide (0 < x12_2) = false := decide_eq_false c30
       clear c30
       simp only [Option.some.injEq, Prod.mk.injEq] at H
       obtain ⟨rfl, rfl, rfl, rfl, rfl⟩ := H
       have hnb78 := NB113_101.out
       have hnc78 := NB101_113.out
       have hnb79 := NB113_0.out
       have hnc79 := NB0_113.out
       have hcz80_0 : wr.cell? ⟨gb113, 0, none⟩ = some (.int .i64 t108) := (blk_cell BK113.out 0).trans rfl
       have hcz80_1 : wr.cell? ⟨gb113, 1, none⟩ = some (.int .i64 t109) := (blk_cell BK113.out 1).trans rfl
       have hcz80_2 : wr.cell? ⟨gb113, 2, none⟩ = some (u114002) := (blk_cell BK113.out 2).trans rfl
       have hfz80_0 := blk_frozen BK113.out 0
       have hfz80_1 := blk_frozen BK113.out 1
       have hfz80_2 := blk_frozen BK113.out 2
       have hnb81 := NB101_0.out
       have hnc81 := NB0_101.out
       have hcz82_0 : wr.cell? ⟨gb101, 0, none⟩ = some (.int .i64 0) := (blk_cell BK101.out 0).trans rfl
       have hcz82_1 : wr.cell? ⟨gb101, 1, none⟩ = some (.int .i64 0) := (blk_cell BK101.out 1).trans rfl
       have hcz82_2 : wr.cell? ⟨gb101, 2, none⟩ = some (.slice none 0 0) := (blk_cell BK101.out 2).trans rfl
       have hfz82_0 := blk_frozen BK101.out 0
       have hfz82_1 := blk_frozen BK101.out 1
       have hfz82_2 := blk_frozen BK101.out 2
       obtain ⟨Ao83, co83, eo83⟩ := Kd.R_slice HO_114002.out
       subst eo83
       go_wp2
       refine bodyPost_ret (results_cell_row rfl _ _ gb101 66 #[.int .i64 t108, .int .i64 t109, .slice Ao83 x114002_2.length co83] (0, 0) _ rfl (by (with_reducible repeat (first | refine blk_drewN ?_ _ | refine blk_drew ?_ | refine blk_alloc ?_ _)); refine blk_put (cs := #[.int .i64 t108, .int .i64 t109, .slice none 0 0]) ?_ 2 _ rfl; (with_reducible repeat (first | refine blk_drewN ?_ _ | refine blk_drew ?_ | refine blk_alloc ?_ _)); refine blk_put (cs := #[.int .i64 t108, .int .i64 0, .slice none 0 0]) ?_ 1 _ rfl; (with_reducible repeat (first | refine blk_drewN ?_ _ | refine blk_drew ?_ | refine blk_alloc ?_ _)); refine blk_put (cs := #[.int .i64 0, .int .i64 0, .slice none 0 0]) ?_ 0 _ rfl; (with_reducible repeat (first | refine blk_drewN ?_ _ | refine blk_drew ?_ | refine blk_alloc ?_ _)); exact BK101.out) Tryz.underlying66 rfl (by kernel_rfl)) rfl ?_
       exact ⟨_, aq8, by (with_reducible repeat (first | apply Kd.R_alloc | apply Kd.R_drewN | apply Kd.R_drew)); exact Kd.R_mono (Kd.R_far (p := ⟨gb101, 2, none⟩) (Kd.R_far (p := ⟨gb101, 1, none⟩) (Kd.R_far (p := ⟨gb101, 0, none⟩) (Kd.R_types HO_114002.out BK101.out (by decide)) (fun _ hk => hk.2) (.int .i64 t108)) (fun _ hk => hk.2) (.int .i64 t109)) (fun _ hk => hk.2) (.slice Ao83 x114002_2.length co83)) (fun _ hk => trivial), aq16, aq18, aq17⟩
end Go.Proofs.YtipjmlcbbimfpaaGreatDoor.F

namespace Go.Proofs.YtipjmlcbbimfpaaGreatDoor.F
open Go.Proofs.YtipjmlcbbimfpaaGreatDoor
open Go.RowKit Go.Proofs.YtipjmlcbbimfpaaGreatDoorW.PrintWords Go.Proofs.YtipjmlcbbimfpaaGreatDoorW.PrintLast Go.Proofs.YtipjmlcbbimfpaaGreatDoorW.PrintMore
attribute [local go_sem] max2_int min2_int max_two min_two max_three min_three max_four min_four   -- for this text's walks alone
set_option linter.unusedVariables false
set_option linter.unusedSimpArgs false
mutual
def spec_l1Cur_spoilt.l0 : Nat → ByteArray → ByteArray → Int → List Int → Int → Int → Option (ByteArray × Int × Int)
 | 0, _, _, _, _, _, _ => none
 | k + 1, x1, x2, x7, x1000, x1001, x1002 => if x7 > 0 then (spec_l1Cur_spoilt.j1 k x1 x2 x7 (decide ((x1.size : Int) > 0)) x1000 x1001 x1002) else (spec_l1Cur_spoilt.j1 k x1 x2 x7 false x1000 x1001 x1002)
def spec_l1Cur_spoilt.j1 : Nat → ByteArray → ByteArray → Int → Bool → List Int → Int → Int → Option (ByteArray × Int × Int)
 | 0, _, _, _, _, _, _, _ => none
 | k + 1, x1, x2, x7, x19, x1000, x1001, x1002 => if x19 = true then ((spec_l1Cur_pick.f x1000 x1001 x1002 (x1.size : Int)).bind fun bt104 => ((spec_l1Cur_pick.f x1000 bt104.2.1 bt104.2.2 (x2.size : Int)).bind fun bt107 => (if 0 ≤ bt107.1 then (if bt107.1 < (x2.size : Int) then ((some (([bt x2 bt107.1] : List Int) : List Int)).bind fun y110 => ((spec_l1Cur_pick.f x1000 bt107.2.1 bt107.2.2 3).bind fun bt113 => (if bt113.1 = 0 then (if 0 ≤ bt104.1 then (if bt104.1 ≤ (x1.size : Int) then (if (x1.extract 0 (bt104.1 : Int).toNat).size + (strOfNums y110).size ≤ 9223372036854775807 then (if ((x1.extract 0 (bt104.1 : Int).toNat) ++ (strOfNums y110)).size + (x1.extract (bt104.1 : Int).toNat x1.size).size ≤ 9223372036854775807 then (spec_l1Cur_spoilt.l0 k (((x1.extract 0 (bt104.1 : Int).toNat) ++ (strOfNums y110)) ++ (x1.extract (bt104.1 : Int).toNat x1.size)) x2 (wrap64 (x7 - 1)) x1000 bt113.2.1 bt113.2.2) else (none)) else (none)) else (none)) else (none)) else (if bt113.1 = 1 then (if 0 ≤ bt104.1 then (if bt104.1 ≤ (x1.size : Int) then (if (x1.extract 0 (bt104.1 : Int).toNat).size + (strOfNums y110).size ≤ 9223372036854775807 then (if 0 ≤ (wrap64 (bt104.1 + 1)) then (if (wrap64 (bt104.1 + 1)) ≤ (x1.size : Int) then (if ((x1.extract 0 (bt104.1 : Int).toNat) ++ (strOfNums y110)).size + (x1.extract ((wrap64 (bt104.1 + 1)) : Int).toNat x1.size).size ≤ 9223372036854775807 then (spec_l1Cur_spoilt.l0 k (((x1.extract 0 (bt104.1 : Int).toNat) ++ (strOfNums y110)) ++ (x1.extract ((wrap64 (bt104.1 + 1)) : Int).toNat x1.size)) x2 (wrap64 (x7 - 1)) x1000 bt113.2.1 bt113.2.2) else (none)) else (none)) else (none)) else (none)) else (none)) else (none)) else (if 0 ≤ bt104.1 then (if bt104.1 ≤ (x1.size : Int) then (if 0 ≤ (wrap64 (bt104.1 + 1)) then (if (wrap64 (bt104.1 + 1)) ≤ (x1.size : Int) then (if (x1.extract 0 (bt104.1 : Int).toNat).size + (x1.extract ((wrap64 (bt104.1 + 1)) : Int).toNat x1.size).size ≤ 9223372036854775807 then (spec_l1Cur_spoilt.l0 k ((x1.extract 0 (bt104.1 : Int).toNat) ++ (x1.extract ((wrap64 (bt104.1 + 1)) : Int).toNat x1.size)) x2 (wrap64 (x7 - 1)) x1000 bt113.2.1 bt113.2.2) else (none)) else (none)) else (none)) else (none)) else (none)))))) else (none)) else (none)))) else (some (x1, x1001, x1002))
end
def spec_l1Cur_spoilt.f (k : Nat) (s0_0 : List Int) (s0_1 : Int) (s0_2 : Int) (a1 : ByteArray) (a2 : ByteArray) : Option (ByteArray × Int × Int) := (spec_l1Cur_pick.f s0_0 s0_1 s0_2 2).bind fun bt101 => (spec_l1Cur_spoilt.l0 k a1 a2 (wrap64 (1 + bt101.1)) s0_0 bt101.2.1 bt101.2.2)
set_option maxHeartbeats 8000000 in
set_option maxRecDepth 100000 in
theorem spec_l1Cur_spoilt.calls (k : Nat) (g : Nat) (s0_0 : List Int) (s0_1 : Int) (s0_2 : Int) (a1 : ByteArray) (a2 : ByteArray) (r1 : ByteArray) (r2 : Int) (r3 : Int) (w0 w : World) (hI : IsS84 w0 w g s0_0 s0_1 s0_2) (hB : Below w0.heap.size w0 w) (h : spec_l1Cur_spoilt.f k s0_0 s0_1 s0_2 a1 a2 = some (r1, r2, r3)) :
  Calls Tryz.prog 146 #[.pointer (some ⟨g, 0, none⟩), .string a1, .string a2] w fun e w' => e = .returned (.string r1) ∧ IsS84 w0 w' g s0_0 r2 r3 ∧ Below w0.heap.size w0 w' ∧ KeepBut w w' g none := by
 have HI0 := Aside0.mk hI
 have HK := Aside0.mk (KeepBut.refl w g none)
 have HL := Aside0.mk hB.size
 clear hI
 have HW0 := Aside0.mk hB.size
 have HB := Aside0.mk hB
 clear hB
 have H : ((spec_l1Cur_pick.f s0_0 s0_1 s0_2 2).bind fun bt101 => (spec_l1Cur_spoilt.l0 k a1 a2 (wrap64 (1 + bt101.1)) s0_0 bt101.2.1 bt101.2.2)) = some (r1, r2, r3) := h
 clear h
 replace H := Option.bind_eq_some_iff.mp H
 obtain ⟨⟨t101, t102, t103⟩, A40, H⟩ := H
 replace H : (spec_l1Cur_spoilt.l0 k a1 a2 (wrap64 (1 + t101)) s0_0 t102 t103) = some (r1, r2, r3) := H
 have A4 := Aside0.mk A40
 clear A40
 have H' := Aside0.mk H
 clear H
 go_enter Tryz.func146, Tryz.ntmps146
 go_wp2_with (first | (go_at_call 94; (with_reducible refine (spec_l1Cur_pick.calls g s0_0 s0_1 s0_2 2 t101 t102 t103 w0 _ ?side1 ?side2 A4.out).mono ?_); (case side1 => exact aq4); (case side2 => exact aq3); rintro e w5 ⟨rfl, hi, hb, hk⟩; have n0_ := Aside0.mk (KeepBut.trans aq2 hk (.inl rfl)); have n1_ := Aside0.mk (hb); have n2_ := Aside0.mk (hi); clear HK; clear HB; clear HI0; have HK := n0_; have HB := n1_; have HI0 := n2_; clear n0_ n1_ n2_; (try clear hb); (try clear hb2); (try clear hk); (try clear hi)))
 repeat (go_quiet (first | (go_at_call 94; (with_reducible refine (spec_l1Cur_pick.calls g s0_0 s0_1 s0_2 2 t101 t102 t103 w0 _ ?side1 ?side2 A4.out).mono ?_); (case side1 => exact aq4); (case side2 => exact aq3); rintro e w5 ⟨rfl, hi, hb, hk⟩; have n0_ := Aside0.mk (KeepBut.trans aq2 hk (.inl rfl)); have n1_ := Aside0.mk (hb); have n2_ := Aside0.mk (hi); clear HK; clear HB; clear HI0; have HK := n0_; have HB := n1_; have HI0 := n2_; clear n0_ n1_ n2_; (try clear hb); (try clear hb2); (try clear hk); (try clear hi))); try go_wp2_with (first | (go_at_call 94; (with_reducible refine (spec_l1Cur_pick.calls g s0_0 s0_1 s0_2 2 t101 t102 t103 w0 _ ?side1 ?side2 A4.out).mono ?_); (case side1 => exact aq4); (case side2 => exact aq3); rintro e w5 ⟨rfl, hi, hb, hk⟩; have n0_ := Aside0.mk (KeepBut.trans aq2 hk (.inl rfl)); have n1_ := Aside0.mk (hb); have n2_ := Aside0.mk (hi); clear HK; clear HB; clear HI0; have HK := n0_; have HB := n1_; have HI0 := n2_; clear n0_ n1_ n2_; (try clear hb); (try clear hb2); (try clear hk); (try clear hi))))
 go_loopg [1, 7] k (fun kq v1 v7 w' => ∃ (x1_1 : ByteArray) (x7_1 : Int) (x1001_1 : Int) (x1002_1 : Int), v1 = .string x1_1 ∧ v7 = .int .i64 x7_1 ∧ Aside0 (spec_l1Cur_spoilt.l0 kq x1_1 a2 x7_1 s0_0 x1001_1 x1002_1 = some (r1, r2, r3)) ∧ Aside0 (kq ≤ k) ∧ Aside0 (IsS84 w0 w' g s0_0 x1001_1 x1002_1) ∧ Aside0 (KeepBut w w' g none) ∧ Aside0 (Below w0.heap.size w0 w'))
 case atStart => exact ⟨(a1), (wrap64 (1 + t101)), (t102), (t103), aq11, aq11, H', ⟨Nat.le_refl _⟩, ⟨aq4⟩, ⟨aq2⟩, ⟨aq3⟩⟩
 case round =>
  clear H'
  try clear c1
  try clear p2
  obtain ⟨x1_1, x7_1, x1001_1, x1002_1, rfl, rfl, HA, HK1, HI0, HK, HB⟩ := hrel
  cases gk with
  | zero => exact absurd HA.out (by simp [spec_l1Cur_spoilt.l0])
  | succ k1 =>
   have H := HA.out
   clear HA
   simp only [spec_l1Cur_spoilt.l0] at H
   have HC6 := Aside0.mk H
   clear H
   go_upto_region 2 with (fail)
   repeat (go_quiet (fail); go_upto_region 2 with (fail))
   go_cut [19] (fun v19 wc => ∃ (kq : Nat) (x19_5 : Bool), v19 = .bool x19_5 ∧ Aside0 (spec_l1Cur_spoilt.j1 kq x1_1 a2 x7_1 x19_5 s0_0 x1001_1 x1002_1 = some (r1, r2, r3)) ∧ Aside0 (kq ≤ k1) ∧ Aside0 (IsS84 w0 wc g s0_0 x1001_1 x1002_1) ∧ Aside0 (KeepBut w wc g none) ∧ Aside0 (Below w0.heap.size w0 wc))
   case first =>
    have H := HC6.out
    clear HC6
    by_cases c7 : x7_1 > 0
    ·rw [if_pos c7] at H
     have c7b0 : decide (0 < x7_1) = true := decide_eq_true c7
     clear c7
     (first | rw [c7b0] | (simp only [i64_w, i32_w]; rw [c7b0]) | skip)
     have H' := Aside0.mk H
     clear H
     go_wp2
     repeat (go_quiet (fail); try go_wp2)
     go_meet
     case rel => exact ⟨_, (decide ((x1_1.size : Int) > 0)), aq11, H', ⟨aq81⟩, ⟨aq4⟩, ⟨aq2⟩, ⟨aq3⟩⟩
    ·rw [if_neg c7] at H
     have c7b0 : decide (0 < x7_1) = false := decide_eq_false c7
     clear c7
     (first | rw [c7b0] | (simp only [i64_w, i32_w]; rw [c7b0]) | skip)
     have H' := Aside0.mk H
     clear H
     go_wp2
     repeat (go_quiet (fail); try go_wp2)
     go_meet
     case rel => exact ⟨_, (false), aq11, H', ⟨aq81⟩, ⟨aq4⟩, ⟨aq2⟩, ⟨aq3⟩⟩
   case rest =>
    clear HC6
    try clear c1
    try clear p2
    try clear p6
    try clear c7
    try clear c7b0
    try clear p2
    obtain ⟨kq, x19_5, rfl, HA, HJ5, HI0, HK, HB⟩ := hcut
    cases kq with
    | zero => exact absurd HA.out (by simp [spec_l1Cur_spoilt.j1])
    | succ kj5 =>
     have H := HA.out
     clear HA
     simp only [spec_l1Cur_spoilt.j1] at H
     by_cases c8 : x19_5 = true
     ·subst c8
      have H1 : ((spec_l1Cur_pick.f s0_0 x1001_1 x1002_1 (x1_1.size : Int)).bind fun bt104 => ((spec_l1Cur_pick.f s0_0 bt104.2.1 bt104.2.2 (a2.size : Int)).bind fun bt107 => (if 0 ≤ bt107.1 then (if bt107.1 < (a2.size : Int) then ((some (([bt a2 bt107.1] : List Int) : List Int)).bind fun y110 => ((spec_l1Cur_pick.f s0_0 bt107.2.1 bt107.2.2 3).bind fun bt113 => (if bt113.1 = 0 then (if 0 ≤ bt104.1 then (if bt104.1 ≤ (x1_1.size : Int) then (if (x1_1.extract 0 (bt104.1 : Int).toNat).size + (strOfNums y110).size ≤ 9223372036854775807 then (if ((x1_1.extract 0 (bt104.1 : Int).toNat) ++ (strOfNums y110)).size + (x1_1.extract (bt104.1 : Int).toNat x1_1.size).size ≤ 9223372036854775807 then (spec_l1Cur_spoilt.l0 kj5 (((x1_1.extract 0 (bt104.1 : Int).toNat) ++ (strOfNums y110)) ++ (x1_1.extract (bt104.1 : Int).toNat x1_1.size)) a2 (wrap64 (x7_1 - 1)) s0_0 bt113.2.1 bt113.2.2) else (none)) else (none)) else (none)) else (none)) else (if bt113.1 = 1 then (if 0 ≤ bt104.1 then (if bt104.1 ≤ (x1_1.size : Int) then (if (x1_1.extract 0 (bt104.1 : Int).toNat).size + (strOfNums y110).size ≤ 9223372036854775807 then (if 0 ≤ (wrap64 (bt104.1 + 1)) then (if (wrap64 (bt104.1 + 1)) ≤ (x1_1.size : Int) then (if ((x1_1.extract 0 (bt104.1 : Int).toNat) ++ (strOfNums y110)).size + (x1_1.extract ((wrap64 (bt104.1 + 1)) : Int).toNat x1_1.size).size ≤ 9223372036854775807 then (spec_l1Cur_spoilt.l0 kj5 (((x1_1.extract 0 (bt104.1 : Int).toNat) ++ (strOfNums y110)) ++ (x1_1.extract ((wrap64 (bt104.1 + 1)) : Int).toNat x1_1.size)) a2 (wrap64 (x7_1 - 1)) s0_0 bt113.2.1 bt113.2.2) else (none)) else (none)) else (none)) else (none)) else (none)) else (none)) else (if 0 ≤ bt104.1 then (if bt104.1 ≤ (x1_1.size : Int) then (if 0 ≤ (wrap64 (bt104.1 + 1)) then (if (wrap64 (bt104.1 + 1)) ≤ (x1_1.size : Int) then (if (x1_1.extract 0 (bt104.1 : Int).toNat).size + (x1_1.extract ((wrap64 (bt104.1 + 1)) : Int).toNat x1_1.size).size ≤ 9223372036854775807 then (spec_l1Cur_spoilt.l0 kj5 ((x1_1.extract 0 (bt104.1 : Int).toNat) ++ (x1_1.extract ((wrap64 (bt104.1 + 1)) : Int).toNat x1_1.size)) a2 (wrap64 (x7_1 - 1)) s0_0 bt113.2.1 bt113.2.2) else (none)) else (none)) else (none)) else (none)) else (none)))))) else (none)) else (none)))) = some (r1, r2, r3) := by rw [if_pos rfl] at H; exact H
      clear H
      have H := H1
      clear H1
      replace H := Option.bind_eq_some_iff.mp H
      obtain ⟨⟨t104, t105, t106⟩, A90, H⟩ := H
      replace H : ((spec_l1Cur_pick.f s0_0 t105 t106 (a2.size : Int)).bind fun bt107 => (if 0 ≤ bt107.1 then (if bt107.1 < (a2.size : Int) then ((some (([bt a2 bt107.1] : List Int) : List Int)).bind fun y110 => ((spec_l1Cur_pick.f s0_0 bt107.2.1 bt107.2.2 3).bind fun bt113 => (if bt113.1 = 0 then (if 0 ≤ t104 then (if t104 ≤ (x1_1.size : Int) then (if (x1_1.extract 0 (t104 : Int).toNat).size + (strOfNums y110).size ≤ 9223372036854775807 then (if ((x1_1.extract 0 (t104 : Int).toNat) ++ (strOfNums y110)).size + (x1_1.extract (t104 : Int).toNat x1_1.size).size ≤ 9223372036854775807 then (spec_l1Cur_spoilt.l0 kj5 (((x1_1.extract 0 (t104 : Int).toNat) ++ (strOfNums y110)) ++ (x1_1.extract (t104 : Int).toNat x1_1.size)) a2 (wrap64 (x7_1 - 1)) s0_0 bt113.2.1 bt113.2.2) else (none)) else (none)) else (none)) else (none)) else (if bt113.1 = 1 then (if 0 ≤ t104 then (if t104 ≤ (x1_1.size : Int) then (if (x1_1.extract 0 (t104 : Int).toNat).size + (strOfNums y110).size ≤ 9223372036854775807 then (if 0 ≤ (wrap64 (t104 + 1)) then (if (wrap64 (t104 + 1)) ≤ (x1_1.size : Int) then (if ((x1_1.extract 0 (t104 : Int).toNat) ++ (strOfNums y110)).size + (x1_1.extract ((wrap64 (t104 + 1)) : Int).toNat x1_1.size).size ≤ 9223372036854775807 then (spec_l1Cur_spoilt.l0 kj5 (((x1_1.extract 0 (t104 : Int).toNat) ++ (strOfNums y110)) ++ (x1_1.extract ((wrap64 (t104 + 1)) : Int).toNat x1_1.size)) a2 (wrap64 (x7_1 - 1)) s0_0 bt113.2.1 bt113.2.2) else (none)) else (none)) else (none)) else (none)) else (none)) else (none)) else (if 0 ≤ t104 then (if t104 ≤ (x1_1.size : Int) then (if 0 ≤ (wrap64 (t104 + 1)) then (if (wrap64 (t104 + 1)) ≤ (x1_1.size : Int) then (if (x1_1.extract 0 (t104 : Int).toNat).size + (x1_1.extract ((wrap64 (t104 + 1)) : Int).toNat x1_1.size).size ≤ 9223372036854775807 then (spec_l1Cur_spoilt.l0 kj5 ((x1_1.extract 0 (t104 : Int).toNat) ++ (x1_1.extract ((wrap64 (t104 + 1)) : Int).toNat x1_1.size)) a2 (wrap64 (x7_1 - 1)) s0_0 bt113.2.1 bt113.2.2) else (none)) else (none)) else (none)) else (none)) else (none)))))) else (none)) else (none))) = some (r1, r2, r3) := H
      have A9 := Aside0.mk A90
      clear A90
      replace H := Option.bind_eq_some_iff.mp H
      obtain ⟨⟨t107, t108, t109⟩, A100, H⟩ := H
      replace H : (if 0 ≤ t107 then (if t107 < (a2.size : Int) then ((some (([bt a2 t107] : List Int) : List Int)).bind fun y110 => ((spec_l1Cur_pick.f s0_0 t108 t109 3).bind fun bt113 => (if bt113.1 = 0 then (if 0 ≤ t104 then (if t104 ≤ (x1_1.size : Int) then (if (x1_1.extract 0 (t104 : Int).toNat).size + (strOfNums y110).size ≤ 9223372036854775807 then (if ((x1_1.extract 0 (t104 : Int).toNat) ++ (strOfNums y110)).size + (x1_1.extract (t104 : Int).toNat x1_1.size).size ≤ 9223372036854775807 then (spec_l1Cur_spoilt.l0 kj5 (((x1_1.extract 0 (t104 : Int).toNat) ++ (strOfNums y110)) ++ (x1_1.extract (t104 : Int).toNat x1_1.size)) a2 (wrap64 (x7_1 - 1)) s0_0 bt113.2.1 bt113.2.2) else (none)) else (none)) else (none)) else (none)) else (if bt113.1 = 1 then (if 0 ≤ t104 then (if t104 ≤ (x1_1.size : Int) then (if (x1_1.extract 0 (t104 : Int).toNat).size + (strOfNums y110).size ≤ 9223372036854775807 then (if 0 ≤ (wrap64 (t104 + 1)) then (if (wrap64 (t104 + 1)) ≤ (x1_1.size : Int) then (if ((x1_1.extract 0 (t104 : Int).toNat) ++ (strOfNums y110)).size + (x1_1.extract ((wrap64 (t104 + 1)) : Int).toNat x1_1.size).size ≤ 9223372036854775807 then (spec_l1Cur_spoilt.l0 kj5 (((x1_1.extract 0 (t104 : Int).toNat) ++ (strOfNums y110)) ++ (x1_1.extract ((wrap64 (t104 + 1)) : Int).toNat x1_1.size)) a2 (wrap64 (x7_1 - 1)) s0_0 bt113.2.1 bt113.2.2) else (none)) else (none)) else (none)) else (none)) else (none)) else (none)) else (if 0 ≤ t104 then (if t104 ≤ (x1_1.size : Int) then (if 0 ≤ (wrap64 (t104 + 1)) then (if (wrap64 (t104 + 1)) ≤ (x1_1.size : Int) then (if (x1_1.extract 0 (t104 : Int).toNat).size + (x1_1.extract ((wrap64 (t104 + 1)) : Int).toNat x1_1.size).size ≤ 9223372036854775807 then (spec_l1Cur_spoilt.l0 kj5 ((x1_1.extract 0 (t104 : Int).toNat) ++ (x1_1.extract ((wrap64 (t104 + 1)) : Int).toNat x1_1.size)) a2 (wrap64 (x7_1 - 1)) s0_0 bt113.2.1 bt113.2.2) else (none)) else (none)) else (none)) else (none)) else (none)))))) else (none)) else (none)) = some (r1, r2, r3) := H
      have A10 := Aside0.mk A100
      clear A100
      by_cases c11 : 0 ≤ t107
      ·rw [if_pos c11] at H
       have c11b0 : decide (0 ≤ t107) = true := decide_eq_true c11
       clear c11
       by_cases c12 : t107 < (a2.size : Int)
       ·rw [if_pos c12] at H
        have c12b0 : decide (t107 < (a2.size : Int)) = true := decide_eq_true c12
        clear c12
        obtain ⟨y110, hy110⟩ : ∃ y_ : List Int, y_ = (([bt a2 t107] : List Int)) := ⟨_, rfl⟩
        replace H : ((spec_l1Cur_pick.f s0_0 t108 t109 3).bind fun bt113 => (if bt113.1 = 0 then (if 0 ≤ t104 then (if t104 ≤ (x1_1.size : Int) then (if (x1_1.extract 0 (t104 : Int).toNat).size + (strOfNums y110).size ≤ 9223372036854775807 then (if ((x1_1.extract 0 (t104 : Int).toNat) ++ (strOfNums y110)).size + (x1_1.extract (t104 : Int).toNat x1_1.size).size ≤ 9223372036854775807 then (spec_l1Cur_spoilt.l0 kj5 (((x1_1.extract 0 (t104 : Int).toNat) ++ (strOfNums y110)) ++ (x1_1.extract (t104 : Int).toNat x1_1.size)) a2 (wrap64 (x7_1 - 1)) s0_0 bt113.2.1 bt113.2.2) else (none)) else (none)) else (none)) else (none)) else (if bt113.1 = 1 then (if 0 ≤ t104 then (if t104 ≤ (x1_1.size : Int) then (if (x1_1.extract 0 (t104 : Int).toNat).size + (strOfNums y110).size ≤ 9223372036854775807 then (if 0 ≤ (wrap64 (t104 + 1)) then (if (wrap64 (t104 + 1)) ≤ (x1_1.size : Int) then (if ((x1_1.extract 0 (t104 : Int).toNat) ++ (strOfNums y110)).size + (x1_1.extract ((wrap64 (t104 + 1)) : Int).toNat x1_1.size).size ≤ 9223372036854775807 then (spec_l1Cur_spoilt.l0 kj5 (((x1_1.extract 0 (t104 : Int).toNat) ++ (strOfNums y110)) ++ (x1_1.extract ((wrap64 (t104 + 1)) : Int).toNat x1_1.size)) a2 (wrap64 (x7_1 - 1)) s0_0 bt113.2.1 bt113.2.2) else (none)) else (none)) else (none)) else (none)) else (none)) else (none)) else (if 0 ≤ t104 then (if t104 ≤ (x1_1.size : Int) then (if 0 ≤ (wrap64 (t104 + 1)) then (if (wrap64 (t104 + 1)) ≤ (x1_1.size : Int) then (if (x1_1.extract 0 (t104 : Int).toNat).size + (x1_1.extract ((wrap64 (t104 + 1)) : Int).toNat x1_1.size).size ≤ 9223372036854775807 then (spec_l1Cur_spoilt.l0 kj5 ((x1_1.extract 0 (t104 : Int).toNat) ++ (x1_1.extract ((wrap64 (t104 + 1)) : Int).toNat x1_1.size)) a2 (wrap64 (x7_1 - 1)) s0_0 bt113.2.1 bt113.2.2) else (none)) else (none)) else (none)) else (none)) else (none))))) = some (r1, r2, r3) := by first | (rw [hy110]; with_reducible exact H) | (have H2_ := (Option.bind_some _ _).symm.trans H; rw [hy110]; with_reducible exact H2_) | (have H2_ := (Option.bind_some _ _).symm.trans H; with_reducible exact H2_) | with_reducible exact H | (rw [hy110]; exact H) | exact H
        have Ny110 := Aside0.mk hy110
        clear hy110
        replace H := Option.bind_eq_some_iff.mp H
        obtain ⟨⟨t113, t114, t115⟩, A140, H⟩ := H
        replace H : (if t113 = 0 then (if 0 ≤ t104 then (if t104 ≤ (x1_1.size : Int) then (if (x1_1.extract 0 (t104 : Int).toNat).size + (strOfNums y110).size ≤ 9223372036854775807 then (if ((x1_1.extract 0 (t104 : Int).toNat) ++ (strOfNums y110)).size + (x1_1.extract (t104 : Int).toNat x1_1.size).size ≤ 9223372036854775807 then (spec_l1Cur_spoilt.l0 kj5 (((x1_1.extract 0 (t104 : Int).toNat) ++ (strOfNums y110)) ++ (x1_1.extract (t104 : Int).toNat x1_1.size)) a2 (wrap64 (x7_1 - 1)) s0_0 t114 t115) else (none)) else (none)) else (none)) else (none)) else (if t113 = 1 then (if 0 ≤ t104 then (if t104 ≤ (x1_1.size : Int) then (if (x1_1.extract 0 (t104 : Int).toNat).size + (strOfNums y110).size ≤ 9223372036854775807 then (if 0 ≤ (wrap64 (t104 + 1)) then (if (wrap64 (t104 + 1)) ≤ (x1_1.size : Int) then (if ((x1_1.extract 0 (t104 : Int).toNat) ++ (strOfNums y110)).size + (x1_1.extract ((wrap64 (t104 + 1)) : Int).toNat x1_1.size).size ≤ 9223372036854775807 then (spec_l1Cur_spoilt.l0 kj5 (((x1_1.extract 0 (t104 : Int).toNat) ++ (strOfNums y110)) ++ (x1_1.extract ((wrap64 (t104 + 1)) : Int).toNat x1_1.size)) a2 (wrap64 (x7_1 - 1)) s0_0 t114 t115) else (none)) else (none)) else (none)) else (none)) else (none)) else (none)) else (if 0 ≤ t104 then (if t104 ≤ (x1_1.size : Int) then (if 0 ≤ (wrap64 (t104 + 1)) then (if (wrap64 (t104 + 1)) ≤ (x1_1.size : Int) then (if (x1_1.extract 0 (t104 : Int).toNat).size + (x1_1.extract ((wrap64 (t104 + 1)) : Int).toNat x1_1.size).size ≤ 9223372036854775807 then (spec_l1Cur_spoilt.l0 kj5 ((x1_1.extract 0 (t104 : Int).toNat) ++ (x1_1.extract ((wrap64 (t104 + 1)) : Int).toNat x1_1.size)) a2 (wrap64 (x7_1 - 1)) s0_0 t114 t115) else (none)) else (none)) else (none)) else (none)) else (none)))) = some (r1, r2, r3) := H
        have A14 := Aside0.mk A140
        clear A140
        by_cases c15 : t113 = 0
        ·rw [if_pos c15] at H
         have c15b0 : (t113 == 0) = true := beq_iff_eq.mpr c15
         have c15b1 : (t113 != 0) = false := bne_eq_false_iff_eq.mpr c15
         clear c15
         by_cases c16 : 0 ≤ t104
         ·rw [if_pos c16] at H
          have c16b0 := eq_true c16
          have c16b1 : decide (0 ≤ t104) = true := decide_eq_true c16
          clear c16
          by_cases c17 : t104 ≤ (x1_1.size : Int)
          ·rw [if_pos c17] at H
           have c17b0 := eq_true c17
           have c17b1 : decide (t104 ≤ (x1_1.size : Int)) = true := decide_eq_true c17
           clear c17
           by_cases c18 : (x1_1.extract 0 (t104 : Int).toNat).size + (strOfNums y110).size ≤ 9223372036854775807
           ·rw [if_pos c18] at H
            have c18b0 := eq_true c18
            have c18b1 : decide ((x1_1.extract 0 (t104 : Int).toNat).size + (strOfNums y110).size ≤ 9223372036854775807) = true := decide_eq_true c18
            try have c18b2 : (9223372036854775807 < (x1_1.extract 0 (t104 : Int).toNat).size + (strOfNums y110).size) = False := eq_false (Nat.not_lt.2 c18)
            have c19b0 := eq_true (of_decide_eq_true aq9 : 0 ≤ t104)
            have c20b0 := eq_true (of_decide_eq_true aq9 : t104 ≤ (x1_1.size : Int))
            by_cases c21 : ((x1_1.extract 0 (t104 : Int).toNat) ++ (strOfNums y110)).size + (x1_1.extract (t104 : Int).toNat x1_1.size).size ≤ 9223372036854775807
            ·rw [if_pos c21] at H
             have c21b0 := eq_true c21
             have c21b1 : decide (((x1_1.extract 0 (t104 : Int).toNat) ++ (strOfNums y110)).size + (x1_1.extract (t104 : Int).toNat x1_1.size).size ≤ 9223372036854775807) = true := decide_eq_true c21
             try have c21b2 : (9223372036854775807 < ((x1_1.extract 0 (t104 : Int).toNat) ++ (strOfNums y110)).size + (x1_1.extract (t104 : Int).toNat x1_1.size).size) = False := eq_false (Nat.not_lt.2 c21)
             have H' := Aside0.mk H
             clear H
             go_wp2_with (first | (go_at_call 94; (with_reducible refine (spec_l1Cur_pick.calls g s0_0 x1001_1 x1002_1 (x1_1.size : Int) t104 t105 t106 w0 _ ?side1 ?side2 A9.out).mono ?_); (case side1 => exact aq4); (case side2 => exact aq3); rintro e w22 ⟨rfl, hi, hb, hk⟩; have n0_ := Aside0.mk (KeepBut.trans aq2 hk (.inl rfl)); have n1_ := Aside0.mk (hb); have n2_ := Aside0.mk (hi); clear HK; clear HB; clear HI0; have HK := n0_; have HB := n1_; have HI0 := n2_; clear n0_ n1_ n2_; (try clear hb); (try clear hb2); (try clear hk); (try clear hi)) | (go_at_call 94; (with_reducible refine (spec_l1Cur_pick.calls g s0_0 t105 t106 (a2.size : Int) t107 t108 t109 w0 _ ?side1 ?side2 A10.out).mono ?_); (case side1 => exact aq4); (case side2 => exact aq3); rintro e w23 ⟨rfl, hi, hb, hk⟩; have n0_ := Aside0.mk (KeepBut.trans aq2 hk (.inl rfl)); have n1_ := Aside0.mk (hb); have n2_ := Aside0.mk (hi); clear HK; clear HB; clear HI0; have HK := n0_; have HB := n1_; have HI0 := n2_; clear n0_ n1_ n2_; (try clear hb); (try clear hb2); (try clear hk); (try clear hi); have p13 : 0 ≤ (t107 : Int) := of_decide_eq_true aq9; have q13 : t107 < (a2.size : Int) := of_decide_eq_true aq9; have hx13 := bt_at a2 t107; replace p13 := eq_true p13; replace q13 := eq_true q13) | ((with_reducible refine gate_dst (N := 32) rfl ?_); (try (refine gate_guard (by rfl) ?_; dsimp only)); refine Kd.R_lit (Kd.int .u8) _ 5 ?hg (N := 32) ?hd (xs := ([bt a2 t107] : List Int)) (inner := [.int .u8 (bt a2 t107)]) (ok := fun _ => True) (okp := fun _ => True) ?hr ?hp (fun _ hk => hk) trivial (Below.refl _ _) (Nat.le_refl _) (by simp) ?_; (case hd => rfl); (case hg => rfl); (case hr => exact aq23); (case hp => exact aq42); intro v111 w24 ho25 hb hg_ hnew_; clear hg_ hnew_; (first | rw [← Ny110.out] at ho25 | (simp only [Int.reduceToNat] at ho25; rw [← Ny110.out] at ho25)); have n0_ := Aside0.mk (Kd.R_lower ho25 (keep_size (w := w) (g := g) (row := none) aq2)); have n1_ := Aside0.mk (IsS84.below aq4 hb); have n2_ := Aside0.mk (KeepBut.trans aq2 (KeepBut.of_below hb g none) (.inl rfl)); have n3_ := Aside0.mk (below_step aq3 hb); clear HI0; clear HK; clear HB; have HO112 := n0_; have HI0 := n1_; have HK := n2_; have HB := n3_; clear n0_ n1_ n2_ n3_; clear hb ho25; (first | have hcv26 := own_string (P := Tryz.prog) Tryz.underlying22 Tryz.underlying5 Tryz.underlying9 (Kd.own_of_R HO112.out) | have hcv26 := (show ∀ {A : Option Addr} {n c : Nat} {xs : List Int} {ok : Nat → Prop} {W : World} {b : Nat}, Kd.V (Kd.int .u8) 5 W b ok (.slice A n c) xs → (convert 22 9 (.slice A n c)).run Tryz.prog W = .ok (.string (strOfNums xs)) W from fun h => by obtain ⟨rfl, _, hC⟩ := Kd.V_reads' h; exact Kd.C_string Tryz.underlying22 Tryz.underlying5 Tryz.underlying9 hC) HO112.out)) | (go_at_call 94; (with_reducible refine (spec_l1Cur_pick.calls g s0_0 t108 t109 3 t113 t114 t115 w0 _ ?side1 ?side2 A14.out).mono ?_); (case side1 => exact aq4); (case side2 => exact aq3); rintro e w27 ⟨rfl, hi, hb, hk⟩; have n0_ := Aside0.mk (Kd.R_mono (Kd.R_keep (IsS84.apart (show IsS84 w0 _ g s0_0 t108 t109 from by repeat (first | (with_reducible first | exact HI0.out | apply IsS84.alloc | apply IsS84.drewN | apply IsS84.drew | apply IsS84.set_1 | apply IsS84.set_2) | exact HI0.out)) aq28 (by decide)) hk (fun _ h => h.2)) (fun _ h => h.1)); have n1_ := Aside0.mk (KeepBut.trans aq2 hk (.inl rfl)); have n2_ := Aside0.mk (hb); have n3_ := Aside0.mk (hi); clear HO112; clear HK; clear HB; clear HI0; have HO112 := n0_; have HK := n1_; have HB := n2_; have HI0 := n3_; clear n0_ n1_ n2_ n3_; (try clear hb); (try clear hb2); (try clear hk); (try clear hi)))
             repeat (go_quiet (first | (go_at_call 94; (with_reducible refine (spec_l1Cur_pick.calls g s0_0 x1001_1 x1002_1 (x1_1.size : Int) t104 t105 t106 w0 _ ?side1 ?side2 A9.out).mono ?_); (case side1 => exact aq4); (case side2 => exact aq3); rintro e w22 ⟨rfl, hi, hb, hk⟩; have n0_ := Aside0.mk (KeepBut.trans aq2 hk (.inl rfl)); have n1_ := Aside0.mk (hb); have n2_ := Aside0.mk (hi); clear HK; clear HB; clear HI0; have HK := n0_; have HB := n1_; have HI0 := n2_; clear n0_ n1_ n2_; (try clear hb); (try clear hb2); (try clear hk); (try clear hi)) | (go_at_call 94; (with_reducible refine (spec_l1Cur_pick.calls g s0_0 t105 t106 (a2.size : Int) t107 t108 t109 w0 _ ?side1 ?side2 A10.out).mono ?_); (case side1 => exact aq4); (case side2 => exact aq3); rintro e w23 ⟨rfl, hi, hb, hk⟩; have n0_ := Aside0.mk (KeepBut.trans aq2 hk (.inl rfl)); have n1_ := Aside0.mk (hb); have n2_ := Aside0.mk (hi); clear HK; clear HB; clear HI0; have HK := n0_; have HB := n1_; have HI0 := n2_; clear n0_ n1_ n2_; (try clear hb); (try clear hb2); (try clear hk); (try clear hi); have p13 : 0 ≤ (t107 : Int) := of_decide_eq_true aq9; have q13 : t107 < (a2.size : Int) := of_decide_eq_true aq9; have hx13 := bt_at a2 t107; replace p13 := eq_true p13; replace q13 := eq_true q13) | ((with_reducible refine gate_dst (N := 32) rfl ?_); (try (refine gate_guard (by rfl) ?_; dsimp only)); refine Kd.R_lit (Kd.int .u8) _ 5 ?hg (N := 32) ?hd (xs := ([bt a2 t107] : List Int)) (inner := [.int .u8 (bt a2 t107)]) (ok := fun _ => True) (okp := fun _ => True) ?hr ?hp (fun _ hk => hk) trivial (Below.refl _ _) (Nat.le_refl _) (by simp) ?_; (case hd => rfl); (case hg => rfl); (case hr => exact aq23); (case hp => exact aq42); intro v111 w24 ho25 hb hg_ hnew_; clear hg_ hnew_; (first | rw [← Ny110.out] at ho25 | (simp only [Int.reduceToNat] at ho25; rw [← Ny110.out] at ho25)); have n0_ := Aside0.mk (Kd.R_lower ho25 (keep_size (w := w) (g := g) (row := none) aq2)); have n1_ := Aside0.mk (IsS84.below aq4 hb); have n2_ := Aside0.mk (KeepBut.trans aq2 (KeepBut.of_below hb g none) (.inl rfl)); have n3_ := Aside0.mk (below_step aq3 hb); clear HI0; clear HK; clear HB; have HO112 := n0_; have HI0 := n1_; have HK := n2_; have HB := n3_; clear n0_ n1_ n2_ n3_; clear hb ho25; (first | have hcv26 := own_string (P := Tryz.prog) Tryz.underlying22 Tryz.underlying5 Tryz.underlying9 (Kd.own_of_R HO112.out) | have hcv26 := (show ∀ {A : Option Addr} {n c : Nat} {xs : List Int} {ok : Nat → Prop} {W : World} {b : Nat}, Kd.V (Kd.int .u8) 5 W b ok (.slice A n c) xs → (convert 22 9 (.slice A n c)).run Tryz.prog W = .ok (.string (strOfNums xs)) W from fun h => by obtain ⟨rfl, _, hC⟩ := Kd.V_reads' h; exact Kd.C_string Tryz.underlying22 Tryz.underlying5 Tryz.underlying9 hC) HO112.out)) | (go_at_call 94; (with_reducible refine (spec_l1Cur_pick.calls g s0_0 t108 t109 3 t113 t114 t115 w0 _ ?side1 ?side2 A14.out).mono ?_); (case side1 => exact aq4); (case side2 => exact aq3); rintro e w27 ⟨rfl, hi, hb, hk⟩; have n0_ := Aside0.mk (Kd.R_mono (Kd.R_keep (IsS84.apart (show IsS84 w0 _ g s0_0 t108 t109 from by repeat (first | (with_reducible first | exact HI0.out | apply IsS84.alloc | apply IsS84.drewN | apply IsS84.drew | apply IsS84.set_1 | apply IsS84.set_2) | exact HI0.out)) aq28 (by decide)) hk (fun _ h => h.2)) (fun _ h => h.1)); have n1_ := Aside0.mk (KeepBut.trans aq2 hk (.inl rfl)); have n2_ := Aside0.mk (hb); have n3_ := Aside0.mk (hi); clear HO112; clear HK; clear HB; clear HI0; have HO112 := n0_; have HK := n1_; have HB := n2_; have HI0 := n3_; clear n0_ n1_ n2_ n3_; (try clear hb); (try clear hb2); (try clear hk); (try clear hi))); try go_wp2_with (first | (go_at_call 94; (with_reducible refine (spec_l1Cur_pick.calls g s0_0 x1001_1 x1002_1 (x1_1.size : Int) t104 t105 t106 w0 _ ?side1 ?side2 A9.out).mono ?_); (case side1 => exact aq4); (case side2 => exact aq3); rintro e w22 ⟨rfl, hi, hb, hk⟩; have n0_ := Aside0.mk (KeepBut.trans aq2 hk (.inl rfl)); have n1_ := Aside0.mk (hb); have n2_ := Aside0.mk (hi); clear HK; clear HB; clear HI0; have HK := n0_; have HB := n1_; have HI0 := n2_; clear n0_ n1_ n2_; (try clear hb); (try clear hb2); (try clear hk); (try clear hi)) | (go_at_call 94; (with_reducible refine (spec_l1Cur_pick.calls g s0_0 t105 t106 (a2.size : Int) t107 t108 t109 w0 _ ?side1 ?side2 A10.out).mono ?_); (case side1 => exact aq4); (case side2 => exact aq3); rintro e w23 ⟨rfl, hi, hb, hk⟩; have n0_ := Aside0.mk (KeepBut.trans aq2 hk (.inl rfl)); have n1_ := Aside0.mk (hb); have n2_ := Aside0.mk (hi); clear HK; clear HB; clear HI0; have HK := n0_; have HB := n1_; have HI0 := n2_; clear n0_ n1_ n2_; (try clear hb); (try clear hb2); (try clear hk); (try clear hi); have p13 : 0 ≤ (t107 : Int) := of_decide_eq_true aq9; have q13 : t107 < (a2.size : Int) := of_decide_eq_true aq9; have hx13 := bt_at a2 t107; replace p13 := eq_true p13; replace q13 := eq_true q13) | ((with_reducible refine gate_dst (N := 32) rfl ?_); (try (refine gate_guard (by rfl) ?_; dsimp only)); refine Kd.R_lit (Kd.int .u8) _ 5 ?hg (N := 32) ?hd (xs := ([bt a2 t107] : List Int)) (inner := [.int .u8 (bt a2 t107)]) (ok := fun _ => True) (okp := fun _ => True) ?hr ?hp (fun _ hk => hk) trivial (Below.refl _ _) (Nat.le_refl _) (by simp) ?_; (case hd => rfl); (case hg => rfl); (case hr => exact aq23); (case hp => exact aq42); intro v111 w24 ho25 hb hg_ hnew_; clear hg_ hnew_; (first | rw [← Ny110.out] at ho25 | (simp only [Int.reduceToNat] at ho25; rw [← Ny110.out] at ho25)); have n0_ := Aside0.mk (Kd.R_lower ho25 (keep_size (w := w) (g := g) (row := none) aq2)); have n1_ := Aside0.mk (IsS84.below aq4 hb); have n2_ := Aside0.mk (KeepBut.trans aq2 (KeepBut.of_below hb g none) (.inl rfl)); have n3_ := Aside0.mk (below_step aq3 hb); clear HI0; clear HK; clear HB; have HO112 := n0_; have HI0 := n1_; have HK := n2_; have HB := n3_; clear n0_ n1_ n2_ n3_; clear hb ho25; (first | have hcv26 := own_string (P := Tryz.prog) Tryz.underlying22 Tryz.underlying5 Tryz.underlying9 (Kd.own_of_R HO112.out) | have hcv26 := (show ∀ {A : Option Addr} {n c : Nat} {xs : List Int} {ok : Nat → Prop} {W : World} {b : Nat}, Kd.V (Kd.int .u8) 5 W b ok (.slice A n c) xs → (convert 22 9 (.slice A n c)).run Tryz.prog W = .ok (.string (strOfNums xs)) W from fun h => by obtain ⟨rfl, _, hC⟩ := Kd.V_reads' h; exact Kd.C_string Tryz.underlying22 Tryz.underlying5 Tryz.underlying9 hC) HO112.out)) | (go_at_call 94; (with_reducible refine (spec_l1Cur_pick.calls g s0_0 t108 t109 3 t113 t114 t115 w0 _ ?side1 ?side2 A14.out).mono ?_); (case side1 => exact aq4); (case side2 => exact aq3); rintro e w27 ⟨rfl, hi, hb, hk⟩; have n0_ := Aside0.mk (Kd.R_mono (Kd.R_keep (IsS84.apart (show IsS84 w0 _ g s0_0 t108 t109 from by repeat (first | (with_reducible first | exact HI0.out | apply IsS84.alloc | apply IsS84.drewN | apply IsS84.drew | apply IsS84.set_1 | apply IsS84.set_2) | exact HI0.out)) aq28 (by decide)) hk (fun _ h => h.2)) (fun _ h => h.1)); have n1_ := Aside0.mk (KeepBut.trans aq2 hk (.inl rfl)); have n2_ := Aside0.mk (hb); have n3_ := Aside0.mk (hi); clear HO112; clear HK; clear HB; clear HI0; have HO112 := n0_; have HK := n1_; have HB := n2_; have HI0 := n3_; clear n0_ n1_ n2_ n3_; (try clear hb); (try clear hb2); (try clear hk); (try clear hi))))
             go_roundg kj5
             case measure => have := HK1.out; have := HJ5.out; omega
             case rel => exact ⟨(((x1_1.extract 0 (t104 : Int).toNat) ++ (strOfNums y110)) ++ (x1_1.extract (t104 : Int).toNat x1_1.size)), (wrap64 (x7_1 - 1)), (t114), (t115), aq11, aq11, H', ⟨by have := HK1.out; have := HJ5.out; omega⟩, ⟨aq4⟩, ⟨aq2⟩, ⟨aq3⟩⟩
            ·rw [if_neg c21] at H
             exact absurd H (by simp)
           ·rw [if_neg c18] at H
            exact absurd H (by simp)
          ·rw [if_neg c17] at H
           exact absurd H (by simp)
         ·rw [if_neg c16] at H
          exact absurd H (by simp)
        ·rw [if_neg c15] at H
         have c15b0 : (t113 == 0) = false := beq_eq_false_iff_ne.mpr c15
         have c15b1 : (t113 != 0) = true := bne_iff_ne.mpr c15
         by_cases c28 : t113 = 1
         ·rw [if_pos c28] at H
          have c28b0 : (t113 == 1) = true := beq_iff_eq.mpr c28
          have c28b1 : (t113 != 1) = false := bne_eq_false_iff_eq.mpr c28
          clear c28
          by_cases c29 : 0 ≤ t104
          ·rw [if_pos c29] at H
           have c29b0 := eq_true c29
           have c29b1 : decide (0 ≤ t104) = true := decide_eq_true c29
           clear c29
           by_cases c30 : t104 ≤ (x1_1.size : Int)
           ·rw [if_pos c30] at H
            have c30b0 := eq_true c30
            have c30b1 : decide (t104 ≤ (x1_1.size : Int)) = true := decide_eq_true c30
            clear c30
            by_cases c31 : (x1_1.extract 0 (t104 : Int).toNat).size + (strOfNums y110).size ≤ 9223372036854775807
            ·rw [if_pos c31] at H
             have c31b0 := eq_true c31
             have c31b1 : decide ((x1_1.extract 0 (t104 : Int).toNat).size + (strOfNums y110).size ≤ 9223372036854775807) = true := decide_eq_true c31
             try have c31b2 : (9223372036854775807 < (x1_1.extract 0 (t104 : Int).toNat).size + (strOfNums y110).size) = False := eq_false (Nat.not_lt.2 c31)
             obtain ⟨ji32, hji32⟩ : ∃ j_ : Int, (wrap64 (t104 + 1)) = j_ := ⟨_, rfl⟩
             replace H : (if 0 ≤ (ji32) then (if (ji32) ≤ (x1_1.size : Int) then (if ((x1_1.extract 0 (t104 : Int).toNat) ++ (strOfNums y110)).size + (x1_1.extract ((ji32) : Int).toNat x1_1.size).size ≤ 9223372036854775807 then (spec_l1Cur_spoilt.l0 kj5 (((x1_1.extract 0 (t104 : Int).toNat) ++ (strOfNums y110)) ++ (x1_1.extract ((ji32) : Int).toNat x1_1.size)) a2 (wrap64 (x7_1 - 1)) s0_0 t114 t115) else (none)) else (none)) else (none)) = some (r1, r2, r3) := by first | (rw [hji32] at H; exact H) | (simp only [hji32] at H ⊢; exact H)
             (try rw [hji32] at A9)
             (try rw [hji32] at A10)
             (try rw [hji32] at A14)
             have hji32w : (IntKind.i64.wrap (t104 + 1)) = ji32 := (i64_w _).trans hji32
             by_cases c33 : 0 ≤ (ji32)
             ·rw [if_pos c33] at H
              have c33b0 := eq_true c33
              have c33b1 : decide (0 ≤ (ji32)) = true := decide_eq_true c33
              clear c33
              by_cases c34 : (ji32) ≤ (x1_1.size : Int)
              ·rw [if_pos c34] at H
               have c34b0 := eq_true c34
               have c34b1 : decide ((ji32) ≤ (x1_1.size : Int)) = true := decide_eq_true c34
               clear c34
               by_cases c35 : ((x1_1.extract 0 (t104 : Int).toNat) ++ (strOfNums y110)).size + (x1_1.extract ((ji32) : Int).toNat x1_1.size).size ≤ 9223372036854775807
               ·rw [if_pos c35] at H
                have c35b0 := eq_true c35
                have c35b1 : decide (((x1_1.extract 0 (t104 : Int).toNat) ++ (strOfNums y110)).size + (x1_1.extract ((ji32) : Int).toNat x1_1.size).size ≤ 9223372036854775807) = true := decide_eq_true c35
                try have c35b2 : (9223372036854775807 < ((x1_1.extract 0 (t104 : Int).toNat) ++ (strOfNums y110)).size + (x1_1.extract ((ji32) : Int).toNat x1_1.size).size) = False := eq_false (Nat.not_lt.2 c35)
                have H' := Aside0.mk H
                clear H
                go_wp2_with (first | (go_at_call 94; (with_reducible refine (spec_l1Cur_pick.calls g s0_0 x1001_1 x1002_1 (x1_1.size : Int) t104 t105 t106 w0 _ ?side1 ?side2 A9.out).mono ?_); (case side1 => exact aq4); (case side2 => exact aq3); rintro e w36 ⟨rfl, hi, hb, hk⟩; have n0_ := Aside0.mk (KeepBut.trans aq2 hk (.inl rfl)); have n1_ := Aside0.mk (hb); have n2_ := Aside0.mk (hi); clear HK; clear HB; clear HI0; have HK := n0_; have HB := n1_; have HI0 := n2_; clear n0_ n1_ n2_; (try clear hb); (try clear hb2); (try clear hk); (try clear hi)) | (go_at_call 94; (with_reducible refine (spec_l1Cur_pick.calls g s0_0 t105 t106 (a2.size : Int) t107 t108 t109 w0 _ ?side1 ?side2 A10.out).mono ?_); (case side1 => exact aq4); (case side2 => exact aq3); rintro e w37 ⟨rfl, hi, hb, hk⟩; have n0_ := Aside0.mk (KeepBut.trans aq2 hk (.inl rfl)); have n1_ := Aside0.mk (hb); have n2_ := Aside0.mk (hi); clear HK; clear HB; clear HI0; have HK := n0_; have HB := n1_; have HI0 := n2_; clear n0_ n1_ n2_; (try clear hb); (try clear hb2); (try clear hk); (try clear hi); have p13 : 0 ≤ (t107 : Int) := of_decide_eq_true aq9; have q13 : t107 < (a2.size : Int) := of_decide_eq_true aq9; have hx13 := bt_at a2 t107; replace p13 := eq_true p13; replace q13 := eq_true q13) | ((with_reducible refine gate_dst (N := 32) rfl ?_); (try (refine gate_guard (by rfl) ?_; dsimp only)); refine Kd.R_lit (Kd.int .u8) _ 5 ?hg (N := 32) ?hd (xs := ([bt a2 t107] : List Int)) (inner := [.int .u8 (bt a2 t107)]) (ok := fun _ => True) (okp := fun _ => True) ?hr ?hp (fun _ hk => hk) trivial (Below.refl _ _) (Nat.le_refl _) (by simp) ?_; (case hd => rfl); (case hg => rfl); (case hr => exact aq23); (case hp => exact aq42); intro v111 w38 ho39 hb hg_ hnew_; clear hg_ hnew_; (first | rw [← Ny110.out] at ho39 | (simp only [Int.reduceToNat] at ho39; rw [← Ny110.out] at ho39)); have n0_ := Aside0.mk (Kd.R_lower ho39 (keep_size (w := w) (g := g) (row := none) aq2)); have n1_ := Aside0.mk (IsS84.below aq4 hb); have n2_ := Aside0.mk (KeepBut.trans aq2 (KeepBut.of_below hb g none) (.inl rfl)); have n3_ := Aside0.mk (below_step aq3 hb); clear HI0; clear HK; clear HB; have HO112 := n0_; have HI0 := n1_; have HK := n2_; have HB := n3_; clear n0_ n1_ n2_ n3_; clear hb ho39; (first | have hcv40 := own_string (P := Tryz.prog) Tryz.underlying22 Tryz.underlying5 Tryz.underlying9 (Kd.own_of_R HO112.out) | have hcv40 := (show ∀ {A : Option Addr} {n c : Nat} {xs : List Int} {ok : Nat → Prop} {W : World} {b : Nat}, Kd.V (Kd.int .u8) 5 W b ok (.slice A n c) xs → (convert 22 9 (.slice A n c)).run Tryz.prog W = .ok (.string (strOfNums xs)) W from fun h => by obtain ⟨rfl, _, hC⟩ := Kd.V_reads' h; exact Kd.C_string Tryz.underlying22 Tryz.underlying5 Tryz.underlying9 hC) HO112.out)) | (go_at_call 94; (with_reducible refine (spec_l1Cur_pick.calls g s0_0 t108 t109 3 t113 t114 t115 w0 _ ?side1 ?side2 A14.out).mono ?_); (case side1 => exact aq4); (case side2 => exact aq3); rintro e w41 ⟨rfl, hi, hb, hk⟩; have n0_ := Aside0.mk (Kd.R_mono (Kd.R_keep (IsS84.apart (show IsS84 w0 _ g s0_0 t108 t109 from by repeat (first | (with_reducible first | exact HI0.out | apply IsS84.alloc | apply IsS84.drewN | apply IsS84.drew | apply IsS84.set_1 | apply IsS84.set_2) | exact HI0.out)) aq28 (by decide)) hk (fun _ h => h.2)) (fun _ h => h.1)); have n1_ := Aside0.mk (KeepBut.trans aq2 hk (.inl rfl)); have n2_ := Aside0.mk (hb); have n3_ := Aside0.mk (hi); clear HO112; clear HK; clear HB; clear HI0; have HO112 := n0_; have HK := n1_; have HB := n2_; have HI0 := n3_; clear n0_ n1_ n2_ n3_; (try clear hb); (try clear hb2); (try clear hk); (try clear hi)))
                repeat (go_quiet (first | (go_at_call 94; (with_reducible refine (spec_l1Cur_pick.calls g s0_0 x1001_1 x1002_1 (x1_1.size : Int) t104 t105 t106 w0 _ ?side1 ?side2 A9.out).mono ?_); (case side1 => exact aq4); (case side2 => exact aq3); rintro e w36 ⟨rfl, hi, hb, hk⟩; have n0_ := Aside0.mk (KeepBut.trans aq2 hk (.inl rfl)); have n1_ := Aside0.mk (hb); have n2_ := Aside0.mk (hi); clear HK; clear HB; clear HI0; have HK := n0_; have HB := n1_; have HI0 := n2_; clear n0_ n1_ n2_; (try clear hb); (try clear hb2); (try clear hk); (try clear hi)) | (go_at_call 94; (with_reducible refine (spec_l1Cur_pick.calls g s0_0 t105 t106 (a2.size : Int) t107 t108 t109 w0 _ ?side1 ?side2 A10.out).mono ?_); (case side1 => exact aq4); (case side2 => exact aq3); rintro e w37 ⟨rfl, hi, hb, hk⟩; have n0_ := Aside0.mk (KeepBut.trans aq2 hk (.inl rfl)); have n1_ := Aside0.mk (hb); have n2_ := Aside0.mk (hi); clear HK; clear HB; clear HI0; have HK := n0_; have HB := n1_; have HI0 := n2_; clear n0_ n1_ n2_; (try clear hb); (try clear hb2); (try clear hk); (try clear hi); have p13 : 0 ≤ (t107 : Int) := of_decide_eq_true aq9; have q13 : t107 < (a2.size : Int) := of_decide_eq_true aq9; have hx13 := bt_at a2 t107; replace p13 := eq_true p13; replace q13 := eq_true q13) | ((with_reducible refine gate_dst (N := 32) rfl ?_); (try (refine gate_guard (by rfl) ?_; dsimp only)); refine Kd.R_lit (Kd.int .u8) _ 5 ?hg (N := 32) ?hd (xs := ([bt a2 t107] : List Int)) (inner := [.int .u8 (bt a2 t107)]) (ok := fun _ => True) (okp := fun _ => True) ?hr ?hp (fun _ hk => hk) trivial (Below.refl _ _) (Nat.le_refl _) (by simp) ?_; (case hd => rfl); (case hg => rfl); (case hr => exact aq23); (case hp => exact aq42); intro v111 w38 ho39 hb hg_ hnew_; clear hg_ hnew_; (first | rw [← Ny110.out] at ho39 | (simp only [Int.reduceToNat] at ho39; rw [← Ny110.out] at ho39)); have n0_ := Aside0.mk (Kd.R_lower ho39 (keep_size (w := w) (g := g) (row := none) aq2)); have n1_ := Aside0.mk (IsS84.below aq4 hb); have n2_ := Aside0.mk (KeepBut.trans aq2 (KeepBut.of_below hb g none) (.inl rfl)); have n3_ := Aside0.mk (below_step aq3 hb); clear HI0; clear HK; clear HB; have HO112 := n0_; have HI0 := n1_; have HK := n2_; have HB := n3_; clear n0_ n1_ n2_ n3_; clear hb ho39; (first | have hcv40 := own_string (P := Tryz.prog) Tryz.underlying22 Tryz.underlying5 Tryz.underlying9 (Kd.own_of_R HO112.out) | have hcv40 := (show ∀ {A : Option Addr} {n c : Nat} {xs : List Int} {ok : Nat → Prop} {W : World} {b : Nat}, Kd.V (Kd.int .u8) 5 W b ok (.slice A n c) xs → (convert 22 9 (.slice A n c)).run Tryz.prog W = .ok (.string (strOfNums xs)) W from fun h => by obtain ⟨rfl, _, hC⟩ := Kd.V_reads' h; exact Kd.C_string Tryz.underlying22 Tryz.underlying5 Tryz.underlying9 hC) HO112.out)) | (go_at_call 94; (with_reducible refine (spec_l1Cur_pick.calls g s0_0 t108 t109 3 t113 t114 t115 w0 _ ?side1 ?side2 A14.out).mono ?_); (case side1 => exact aq4); (case side2 => exact aq3); rintro e w41 ⟨rfl, hi, hb, hk⟩; have n0_ := Aside0.mk (Kd.R_mono (Kd.R_keep (IsS84.apart (show IsS84 w0 _ g s0_0 t108 t109 from by repeat (first | (with_reducible first | exact HI0.out | apply IsS84.alloc | apply IsS84.drewN | apply IsS84.drew | apply IsS84.set_1 | apply IsS84.set_2) | exact HI0.out)) aq28 (by decide)) hk (fun _ h => h.2)) (fun _ h => h.1)); have n1_ := Aside0.mk (KeepBut.trans aq2 hk (.inl rfl)); have n2_ := Aside0.mk (hb); have n3_ := Aside0.mk (hi); clear HO112; clear HK; clear HB; clear HI0; have HO112 := n0_; have HK := n1_; have HB := n2_; have HI0 := n3_; clear n0_ n1_ n2_ n3_; (try clear hb); (try clear hb2); (try clear hk); (try clear hi))); try go_wp2_with (first | (go_at_call 94; (with_reducible refine (spec_l1Cur_pick.calls g s0_0 x1001_1 x1002_1 (x1_1.size : Int) t104 t105 t106 w0 _ ?side1 ?side2 A9.out).mono ?_); (case side1 => exact aq4); (case side2 => exact aq3); rintro e w36 ⟨rfl, hi, hb, hk⟩; have n0_ := Aside0.mk (KeepBut.trans aq2 hk (.inl rfl)); have n1_ := Aside0.mk (hb); have n2_ := Aside0.mk (hi); clear HK; clear HB; clear HI0; have HK := n0_; have HB := n1_; have HI0 := n2_; clear n0_ n1_ n2_; (try clear hb); (try clear hb2); (try clear hk); (try clear hi)) | (go_at_call 94; (with_reducible refine (spec_l1Cur_pick.calls g s0_0 t105 t106 (a2.size : Int) t107 t108 t109 w0 _ ?side1 ?side2 A10.out).mono ?_); (case side1 => exact aq4); (case side2 => exact aq3); rintro e w37 ⟨rfl, hi, hb, hk⟩; have n0_ := Aside0.mk (KeepBut.trans aq2 hk (.inl rfl)); have n1_ := Aside0.mk (hb); have n2_ := Aside0.mk (hi); clear HK; clear HB; clear HI0; have HK := n0_; have HB := n1_; have HI0 := n2_; clear n0_ n1_ n2_; (try clear hb); (try clear hb2); (try clear hk); (try clear hi); have p13 : 0 ≤ (t107 : Int) := of_decide_eq_true aq9; have q13 : t107 < (a2.size : Int) := of_decide_eq_true aq9; have hx13 := bt_at a2 t107; replace p13 := eq_true p13; replace q13 := eq_true q13) | ((with_reducible refine gate_dst (N := 32) rfl ?_); (try (refine gate_guard (by rfl) ?_; dsimp only)); refine Kd.R_lit (Kd.int .u8) _ 5 ?hg (N := 32) ?hd (xs := ([bt a2 t107] : List Int)) (inner := [.int .u8 (bt a2 t107)]) (ok := fun _ => True) (okp := fun _ => True) ?hr ?hp (fun _ hk => hk) trivial (Below.refl _ _) (Nat.le_refl _) (by simp) ?_; (case hd => rfl); (case hg => rfl); (case hr => exact aq23); (case hp => exact aq42); intro v111 w38 ho39 hb hg_ hnew_; clear hg_ hnew_; (first | rw [← Ny110.out] at ho39 | (simp only [Int.reduceToNat] at ho39; rw [← Ny110.out] at ho39)); have n0_ := Aside0.mk (Kd.R_lower ho39 (keep_size (w := w) (g := g) (row := none) aq2)); have n1_ := Aside0.mk (IsS84.below aq4 hb); have n2_ := Aside0.mk (KeepBut.trans aq2 (KeepBut.of_below hb g none) (.inl rfl)); have n3_ := Aside0.mk (below_step aq3 hb); clear HI0; clear HK; clear HB; have HO112 := n0_; have HI0 := n1_; have HK := n2_; have HB := n3_; clear n0_ n1_ n2_ n3_; clear hb ho39; (first | have hcv40 := own_string (P := Tryz.prog) Tryz.underlying22 Tryz.underlying5 Tryz.underlying9 (Kd.own_of_R HO112.out) | have hcv40 := (show ∀ {A : Option Addr} {n c : Nat} {xs : List Int} {ok : Nat → Prop} {W : World} {b : Nat}, Kd.V (Kd.int .u8) 5 W b ok (.slice A n c) xs → (convert 22 9 (.slice A n c)).run Tryz.prog W = .ok (.string (strOfNums xs)) W from fun h => by obtain ⟨rfl, _, hC⟩ := Kd.V_reads' h; exact Kd.C_string Tryz.underlying22 Tryz.underlying5 Tryz.underlying9 hC) HO112.out)) | (go_at_call 94; (with_reducible refine (spec_l1Cur_pick.calls g s0_0 t108 t109 3 t113 t114 t115 w0 _ ?side1 ?side2 A14.out).mono ?_); (case side1 => exact aq4); (case side2 => exact aq3); rintro e w41 ⟨rfl, hi, hb, hk⟩; have n0_ := Aside0.mk (Kd.R_mono (Kd.R_keep (IsS84.apart (show IsS84 w0 _ g s0_0 t108 t109 from by repeat (first | (with_reducible first | exact HI0.out | apply IsS84.alloc | apply IsS84.drewN | apply IsS84.drew | apply IsS84.set_1 | apply IsS84.set_2) | exact HI0.out)) aq28 (by decide)) hk (fun _ h => h.2)) (fun _ h => h.1)); have n1_ := Aside0.mk (KeepBut.trans aq2 hk (.inl rfl)); have n2_ := Aside0.mk (hb); have n3_ := Aside0.mk (hi); clear HO112; clear HK; clear HB; clear HI0; have HO112 := n0_; have HK := n1_; have HB := n2_; have HI0 := n3_; clear n0_ n1_ n2_ n3_; (try clear hb); (try clear hb2); (try clear hk); (try clear hi))))
                go_roundg kj5
                case measure => have := HK1.out; have := HJ5.out; omega
                case rel => exact ⟨(((x1_1.extract 0 (t104 : Int).toNat) ++ (strOfNums y110)) ++ (x1_1.extract ((ji32) : Int).toNat x1_1.size)), (wrap64 (x7_1 - 1)), (t114), (t115), (by first | rfl | (simp; done) | (simp only [← hji32] <;> (first | rfl | simp)) | (simp [*]; done)), aq11, H', ⟨by have := HK1.out; have := HJ5.out; omega⟩, ⟨aq4⟩, ⟨aq2⟩, ⟨aq3⟩⟩
               ·rw [if_neg c35] at H
                exact absurd H (by simp)
              ·rw [if_neg c34] at H
               exact absurd H (by simp)
             ·rw [if_neg c33] at H
              exact absurd H (by simp)
            ·rw [if_neg c31] at H
             exact absurd H (by simp)
           ·rw [if_neg c30] at H
            exact absurd H (by simp)
          ·rw [if_neg c29] at H
           exact absurd H (by simp)
         ·rw [if_neg c28] at H
          have c28b0 : (t113 == 1) = false := beq_eq_false_iff_ne.mpr c28
          have c28b1 : (t113 != 1) = true := bne_iff_ne.mpr c28
          by_cases c42 : 0 ≤ t104
          ·rw [if_pos c42] at H
           have c42b0 := eq_true c42
           have c42b1 : decide (0 ≤ t104) = true := decide_eq_true c42
           clear c42
           by_cases c43 : t104 ≤ (x1_1.size : Int)
           ·rw [if_pos c43] at H
            have c43b0 := eq_true c43
            have c43b1 : decide (t104 ≤ (x1_1.size : Int)) = true := decide_eq_true c43
            clear c43
            obtain ⟨ji44, hji44⟩ : ∃ j_ : Int, (wrap64 (t104 + 1)) = j_ := ⟨_, rfl⟩
            replace H : (if 0 ≤ (ji44) then (if (ji44) ≤ (x1_1.size : Int) then (if (x1_1.extract 0 (t104 : Int).toNat).size + (x1_1.extract ((ji44) : Int).toNat x1_1.size).size ≤ 9223372036854775807 then (spec_l1Cur_spoilt.l0 kj5 ((x1_1.extract 0 (t104 : Int).toNat) ++ (x1_1.extract ((ji44) : Int).toNat x1_1.size)) a2 (wrap64 (x7_1 - 1)) s0_0 t114 t115) else (none)) else (none)) else (none)) = some (r1, r2, r3) := by first | (rw [hji44] at H; exact H) | (simp only [hji44] at H ⊢; exact H)
            (try rw [hji44] at A9)
            (try rw [hji44] at A10)
            (try rw [hji44] at A14)
            have hji44w : (IntKind.i64.wrap (t104 + 1)) = ji44 := (i64_w _).trans hji44
            by_cases c45 : 0 ≤ (ji44)
            ·rw [if_pos c45] at H
             have c45b0 := eq_true c45
             have c45b1 : decide (0 ≤ (ji44)) = true := decide_eq_true c45
             clear c45
             by_cases c46 : (ji44) ≤ (x1_1.size : Int)
             ·rw [if_pos c46] at H
              have c46b0 := eq_true c46
              have c46b1 : decide ((ji44) ≤ (x1_1.size : Int)) = true := decide_eq_true c46
              clear c46
              by_cases c47 : (x1_1.extract 0 (t104 : Int).toNat).size + (x1_1.extract ((ji44) : Int).toNat x1_1.size).size ≤ 9223372036854775807
              ·rw [if_pos c47] at H
               have c47b0 := eq_true c47
               have c47b1 : decide ((x1_1.extract 0 (t104 : Int).toNat).size + (x1_1.extract ((ji44) : Int).toNat x1_1.size).size ≤ 9223372036854775807) = true := decide_eq_true c47
               try have c47b2 : (9223372036854775807 < (x1_1.extract 0 (t104 : Int).toNat).size + (x1_1.extract ((ji44) : Int).toNat x1_1.size).size) = False := eq_false (Nat.not_lt.2 c47)
               have H' := Aside0.mk H
               clear H
               go_wp2_with (first | (go_at_call 94; (with_reducible refine (spec_l1Cur_pick.calls g s0_0 x1001_1 x1002_1 (x1_1.size : Int) t104 t105 t106 w0 _ ?side1 ?side2 A9.out).mono ?_); (case side1 => exact aq4); (case side2 => exact aq3); rintro e w48 ⟨rfl, hi, hb, hk⟩; have n0_ := Aside0.mk (KeepBut.trans aq2 hk (.inl rfl)); have n1_ := Aside0.mk (hb); have n2_ := Aside0.mk (hi); clear HK; clear HB; clear HI0; have HK := n0_; have HB := n1_; have HI0 := n2_; clear n0_ n1_ n2_; (try clear hb); (try clear hb2); (try clear hk); (try clear hi)) | (go_at_call 94; (with_reducible refine (spec_l1Cur_pick.calls g s0_0 t105 t106 (a2.size : Int) t107 t108 t109 w0 _ ?side1 ?side2 A10.out).mono ?_); (case side1 => exact aq4); (case side2 => exact aq3); rintro e w49 ⟨rfl, hi, hb, hk⟩; have n0_ := Aside0.mk (KeepBut.trans aq2 hk (.inl rfl)); have n1_ := Aside0.mk (hb); have n2_ := Aside0.mk (hi); clear HK; clear HB; clear HI0; have HK := n0_; have HB := n1_; have HI0 := n2_; clear n0_ n1_ n2_; (try clear hb); (try clear hb2); (try clear hk); (try clear hi); have p13 : 0 ≤ (t107 : Int) := of_decide_eq_true aq9; have q13 : t107 < (a2.size : Int) := of_decide_eq_true aq9; have hx13 := bt_at a2 t107; replace p13 := eq_true p13; replace q13 := eq_true q13) | ((with_reducible refine gate_dst (N := 32) rfl ?_); (try (refine gate_guard (by rfl) ?_; dsimp only)); refine Kd.R_lit (Kd.int .u8) _ 5 ?hg (N := 32) ?hd (xs := ([bt a2 t107] : List Int)) (inner := [.int .u8 (bt a2 t107)]) (ok := fun _ => True) (okp := fun _ => True) ?hr ?hp (fun _ hk => hk) trivial (Below.refl _ _) (Nat.le_refl _) (by simp) ?_; (case hd => rfl); (case hg => rfl); (case hr => exact aq23); (case hp => exact aq42); intro v111 w50 ho51 hb hg_ hnew_; clear hg_ hnew_; (first | rw [← Ny110.out] at ho51 | (simp only [Int.reduceToNat] at ho51; rw [← Ny110.out] at ho51)); have n0_ := Aside0.mk (Kd.R_lower ho51 (keep_size (w := w) (g := g) (row := none) aq2)); have n1_ := Aside0.mk (IsS84.below aq4 hb); have n2_ := Aside0.mk (KeepBut.trans aq2 (KeepBut.of_below hb g none) (.inl rfl)); have n3_ := Aside0.mk (below_step aq3 hb); clear HI0; clear HK; clear HB; have HO112 := n0_; have HI0 := n1_; have HK := n2_; have HB := n3_; clear n0_ n1_ n2_ n3_; clear hb ho51; (first | have hcv52 := own_string (P := Tryz.prog) Tryz.underlying22 Tryz.underlying5 Tryz.underlying9 (Kd.own_of_R HO112.out) | have hcv52 := (show ∀ {A : Option Addr} {n c : Nat} {xs : List Int} {ok : Nat → Prop} {W : World} {b : Nat}, Kd.V (Kd.int .u8) 5 W b ok (.slice A n c) xs → (convert 22 9 (.slice A n c)).run Tryz.prog W = .ok (.string (strOfNums xs)) W from fun h => by obtain ⟨rfl, _, hC⟩ := Kd.V_reads' h; exact Kd.C_string Tryz.underlying22 Tryz.underlying5 Tryz.underlying9 hC) HO112.out)) | (go_at_call 94; (with_reducible refine (spec_l1Cur_pick.calls g s0_0 t108 t109 3 t113 t114 t115 w0 _ ?side1 ?side2 A14.out).mono ?_); (case side1 => exact aq4); (case side2 => exact aq3); rintro e w53 ⟨rfl, hi, hb, hk⟩; have n0_ := Aside0.mk (Kd.R_mono (Kd.R_keep (IsS84.apart (show IsS84 w0 _ g s0_0 t108 t109 from by repeat (first | (with_reducible first | exact HI0.out | apply IsS84.alloc | apply IsS84.drewN | apply IsS84.drew | apply IsS84.set_1 | apply IsS84.set_2) | exact HI0.out)) aq28 (by decide)) hk (fun _ h => h.2)) (fun _ h => h.1)); have n1_ := Aside0.mk (KeepBut.trans aq2 hk (.inl rfl)); have n2_ := Aside0.mk (hb); have n3_ := Aside0.mk (hi); clear HO112; clear HK; clear HB; clear HI0; have HO112 := n0_; have HK := n1_; have HB := n2_; have HI0 := n3_; clear n0_ n1_ n2_ n3_; (try clear hb); (try clear hb2); (try clear hk); (try clear hi)))
               repeat (go_quiet (first | (go_at_call 94; (with_reducible refine (spec_l1Cur_pick.calls g s0_0 x1001_1 x1002_1 (x1_1.size : Int) t104 t105 t106 w0 _ ?side1 ?side2 A9.out).mono ?_); (case side1 => exact aq4); (case side2 => exact aq3); rintro e w48 ⟨rfl, hi, hb, hk⟩; have n0_ := Aside0.mk (KeepBut.trans aq2 hk (.inl rfl)); have n1_ := Aside0.mk (hb); have n2_ := Aside0.mk (hi); clear HK; clear HB; clear HI0; have HK := n0_; have HB := n1_; have HI0 := n2_; clear n0_ n1_ n2_; (try clear hb); (try clear hb2); (try clear hk); (try clear hi)) | (go_at_call 94; (with_reducible refine (spec_l1Cur_pick.calls g s0_0 t105 t106 (a2.size : Int) t107 t108 t109 w0 _ ?side1 ?side2 A10.out).mono ?_); (case side1 => exact aq4); (case side2 => exact aq3); rintro e w49 ⟨rfl, hi, hb, hk⟩; have n0_ := Aside0.mk (KeepBut.trans aq2 hk (.inl rfl)); have n1_ := Aside0.mk (hb); have n2_ := Aside0.mk (hi); clear HK; clear HB; clear HI0; have HK := n0_; have HB := n1_; have HI0 := n2_; clear n0_ n1_ n2_; (try clear hb); (try clear hb2); (try clear hk); (try clear hi); have p13 : 0 ≤ (t107 : Int) := of_decide_eq_true aq9; have q13 : t107 < (a2.size : Int) := of_decide_eq_true aq9; have hx13 := bt_at a2 t107; replace p13 := eq_true p13; replace q13 := eq_true q13) | ((with_reducible refine gate_dst (N := 32) rfl ?_); (try (refine gate_guard (by rfl) ?_; dsimp only)); refine Kd.R_lit (Kd.int .u8) _ 5 ?hg (N := 32) ?hd (xs := ([bt a2 t107] : List Int)) (inner := [.int .u8 (bt a2 t107)]) (ok := fun _ => True) (okp := fun _ => True) ?hr ?hp (fun _ hk => hk) trivial (Below.refl _ _) (Nat.le_refl _) (by simp) ?_; (case hd => rfl); (case hg => rfl); (case hr => exact aq23); (case hp => exact aq42); intro v111 w50 ho51 hb hg_ hnew_; clear hg_ hnew_; (first | rw [← Ny110.out] at ho51 | (simp only [Int.reduceToNat] at ho51; rw [← Ny110.out] at ho51)); have n0_ := Aside0.mk (Kd.R_lower ho51 (keep_size (w := w) (g := g) (row := none) aq2)); have n1_ := Aside0.mk (IsS84.below aq4 hb); have n2_ := Aside0.mk (KeepBut.trans aq2 (KeepBut.of_below hb g none) (.inl rfl)); have n3_ := Aside0.mk (below_step aq3 hb); clear HI0; clear HK; clear HB; have HO112 := n0_; have HI0 := n1_; have HK := n2_; have HB := n3_; clear n0_ n1_ n2_ n3_; clear hb ho51; (first | have hcv52 := own_string (P := Tryz.prog) Tryz.underlying22 Tryz.underlying5 Tryz.underlying9 (Kd.own_of_R HO112.out) | have hcv52 := (show ∀ {A : Option Addr} {n c : Nat} {xs : List Int} {ok : Nat → Prop} {W : World} {b : Nat}, Kd.V (Kd.int .u8) 5 W b ok (.slice A n c) xs → (convert 22 9 (.slice A n c)).run Tryz.prog W = .ok (.string (strOfNums xs)) W from fun h => by obtain ⟨rfl, _, hC⟩ := Kd.V_reads' h; exact Kd.C_string Tryz.underlying22 Tryz.underlying5 Tryz.underlying9 hC) HO112.out)) | (go_at_call 94; (with_reducible refine (spec_l1Cur_pick.calls g s0_0 t108 t109 3 t113 t114 t115 w0 _ ?side1 ?side2 A14.out).mono ?_); (case side1 => exact aq4); (case side2 => exact aq3); rintro e w53 ⟨rfl, hi, hb, hk⟩; have n0_ := Aside0.mk (Kd.R_mono (Kd.R_keep (IsS84.apart (show IsS84 w0 _ g s0_0 t108 t109 from by repeat (first | (with_reducible first | exact HI0.out | apply IsS84.alloc | apply IsS84.drewN | apply IsS84.drew | apply IsS84.set_1 | apply IsS84.set_2) | exact HI0.out)) aq28 (by decide)) hk (fun _ h => h.2)) (fun _ h => h.1)); have n1_ := Aside0.mk (KeepBut.trans aq2 hk (.inl rfl)); have n2_ := Aside0.mk (hb); have n3_ := Aside0.mk (hi); clear HO112; clear HK; clear HB; clear HI0; have HO112 := n0_; have HK := n1_; have HB := n2_; have HI0 := n3_; clear n0_ n1_ n2_ n3_; (try clear hb); (try clear hb2); (try clear hk); (try clear hi))); try go_wp2_with (first | (go_at_call 94; (with_reducible refine (spec_l1Cur_pick.calls g s0_0 x1001_1 x1002_1 (x1_1.size : Int) t104 t105 t106 w0 _ ?side1 ?side2 A9.out).mono ?_); (case side1 => exact aq4); (case side2 => exact aq3); rintro e w48 ⟨rfl, hi, hb, hk⟩; have n0_ := Aside0.mk (KeepBut.trans aq2 hk (.inl rfl)); have n1_ := Aside0.mk (hb); have n2_ := Aside0.mk (hi); clear HK; clear HB; clear HI0; have HK := n0_; have HB := n1_; have HI0 := n2_; clear n0_ n1_ n2_; (try clear hb); (try clear hb2); (try clear hk); (try clear hi)) | (go_at_call 94; (with_reducible refine (spec_l1Cur_pick.calls g s0_0 t105 t106 (a2.size : Int) t107 t108 t109 w0 _ ?side1 ?side2 A10.out).mono ?_); (case side1 => exact aq4); (case side2 => exact aq3); rintro e w49 ⟨rfl, hi, hb, hk⟩; have n0_ := Aside0.mk (KeepBut.trans aq2 hk (.inl rfl)); have n1_ := Aside0.mk (hb); have n2_ := Aside0.mk (hi); clear HK; clear HB; clear HI0; have HK := n0_; have HB := n1_; have HI0 := n2_; clear n0_ n1_ n2_; (try clear hb); (try clear hb2); (try clear hk); (try clear hi); have p13 : 0 ≤ (t107 : Int) := of_decide_eq_true aq9; have q13 : t107 < (a2.size : Int) := of_decide_eq_true aq9; have hx13 := bt_at a2 t107; replace p13 := eq_true p13; replace q13 := eq_true q13) | ((with_reducible refine gate_dst (N := 32) rfl ?_); (try (refine gate_guard (by rfl) ?_; dsimp only)); refine Kd.R_lit (Kd.int .u8) _ 5 ?hg (N := 32) ?hd (xs := ([bt a2 t107] : List Int)) (inner := [.int .u8 (bt a2 t107)]) (ok := fun _ => True) (okp := fun _ => True) ?hr ?hp (fun _ hk => hk) trivial (Below.refl _ _) (Nat.le_refl _) (by simp) ?_; (case hd => rfl); (case hg => rfl); (case hr => exact aq23); (case hp => exact aq42); intro v111 w50 ho51 hb hg_ hnew_; clear hg_ hnew_; (first | rw [← Ny110.out] at ho51 | (simp only [Int.reduceToNat] at ho51; rw [← Ny110.out] at ho51)); have n0_ := Aside0.mk (Kd.R_lower ho51 (keep_size (w := w) (g := g) (row := none) aq2)); have n1_ := Aside0.mk (IsS84.below aq4 hb); have n2_ := Aside0.mk (KeepBut.trans aq2 (KeepBut.of_below hb g none) (.inl rfl)); have n3_ := Aside0.mk (below_step aq3 hb); clear HI0; clear HK; clear HB; have HO112 := n0_; have HI0 := n1_; have HK := n2_; have HB := n3_; clear n0_ n1_ n2_ n3_; clear hb ho51; (first | have hcv52 := own_string (P := Tryz.prog) Tryz.underlying22 Tryz.underlying5 Tryz.underlying9 (Kd.own_of_R HO112.out) | have hcv52 := (show ∀ {A : Option Addr} {n c : Nat} {xs : List Int} {ok : Nat → Prop} {W : World} {b : Nat}, Kd.V (Kd.int .u8) 5 W b ok (.slice A n c) xs → (convert 22 9 (.slice A n c)).run Tryz.prog W = .ok (.string (strOfNums xs)) W from fun h => by obtain ⟨rfl, _, hC⟩ := Kd.V_reads' h; exact Kd.C_string Tryz.underlying22 Tryz.underlying5 Tryz.underlying9 hC) HO112.out)) | (go_at_call 94; (with_reducible refine (spec_l1Cur_pick.calls g s0_0 t108 t109 3 t113 t114 t115 w0 _ ?side1 ?side2 A14.out).mono ?_); (case side1 => exact aq4); (case side2 => exact aq3); rintro e w53 ⟨rfl, hi, hb, hk⟩; have n0_ := Aside0.mk (Kd.R_mono (Kd.R_keep (IsS84.apart (show IsS84 w0 _ g s0_0 t108 t109 from by repeat (first | (with_reducible first | exact HI0.out | apply IsS84.alloc | apply IsS84.drewN | apply IsS84.drew | apply IsS84.set_1 | apply IsS84.set_2) | exact HI0.out)) aq28 (by decide)) hk (fun _ h => h.2)) (fun _ h => h.1)); have n1_ := Aside0.mk (KeepBut.trans aq2 hk (.inl rfl)); have n2_ := Aside0.mk (hb); have n3_ := Aside0.mk (hi); clear HO112; clear HK; clear HB; clear HI0; have HO112 := n0_; have HK := n1_; have HB := n2_; have HI0 := n3_; clear n0_ n1_ n2_ n3_; (try clear hb); (try clear hb2); (try clear hk); (try clear hi))))
               go_roundg kj5
               case measure => have := HK1.out; have := HJ5.out; omega
               case rel => exact ⟨((x1_1.extract 0 (t104 : Int).toNat) ++ (x1_1.extract ((ji44) : Int).toNat x1_1.size)), (wrap64 (x7_1 - 1)), (t114), (t115), (by first | rfl | (simp; done) | (simp only [← hji44] <;> (first | rfl | simp)) | (simp [*]; done)), aq11, H', ⟨by have := HK1.out; have := HJ5.out; omega⟩, ⟨aq4⟩, ⟨aq2⟩, ⟨aq3⟩⟩
              ·rw [if_neg c47] at H
               exact absurd H (by simp)
             ·rw [if_neg c46] at H
              exact absurd H (by simp)
            ·rw [if_neg c45] at H
             exact absurd H (by simp)
           ·rw [if_neg c43] at H
            exact absurd H (by simp)
          ·rw [if_neg c42] at H
           exact absurd H (by simp)
       ·rw [if_neg c12] at H
        exact absurd H (by simp)
      ·rw [if_neg c11] at H
       exact absurd H (by simp)
     ·replace c8 := Bool.eq_false_iff.mpr c8
      subst c8
      have H1 : (some (x1_1, x1001_1, x1002_1)) = some (r1, r2, r3) := by rw [if_neg (show ¬ (false = true) by decide)] at H; exact H
      clear H
      have H := H1
      clear H1
      simp only [Option.some.injEq, Prod.mk.injEq] at H
      obtain ⟨rfl, rfl, rfl⟩ := H
      go_wp2
      repeat (go_quiet (fail); try go_wp2)
      go_ret
      exact ⟨aq8, aq4, aq3, aq2⟩
end Go.Proofs.YtipjmlcbbimfpaaGreatDoor.F

namespace Go.Proofs.YtipjmlcbbimfpaaGreatDoor.F
open Go.Proofs.YtipjmlcbbimfpaaGreatDoor
open Go.RowKit Go.Proofs.YtipjmlcbbimfpaaGreatDoorW.PrintWords Go.Proofs.YtipjmlcbbimfpaaGreatDoorW.PrintLast Go.Proofs.YtipjmlcbbimfpaaGreatDoorW.PrintMore
attribute [local go_sem] max2_int min2_int max_two min_two max_three min_three max_four min_four   -- for this text's walks alone
set_option linter.unusedVariables false
set_option linter.unusedSimpArgs false
def spec_l1Cur_among.f (s0_0 : List Int) (s0_1 : Int) (s0_2 : Int) (l1 : List Int) : Option (Int × Int × Int) := (spec_l1Cur_pick.f s0_0 s0_1 s0_2 (l1.length : Int)).bind fun bt101 => (if 0 ≤ bt101.1 then (if bt101.1 < (l1.length : Int) then (some (rd l1 bt101.1, bt101.2.1, bt101.2.2)) else (none)) else (none))
set_option maxHeartbeats 8000000 in
set_option maxRecDepth 100000 in
theorem spec_l1Cur_among.calls (g : Nat) (s0_0 : List Int) (s0_1 : Int) (s0_2 : Int) (A1 : Option Addr) (c1 : Nat) (l1 : List Int) (r1 : Int) (r2 : Int) (r3 : Int) (w0 w : World) (hI : IsS84 w0 w g s0_0 s0_1 s0_2) (hB : Below w0.heap.size w0 w) (hr1 : Kd.C (Kd.int .i64) w A1 l1.length l1) (hc1 : l1.length ≤ c1) (hf1 : ∀ ad, A1 = some ad → 0 < l1.length → ad.block ≠ g) (h : spec_l1Cur_among.f s0_0 s0_1 s0_2 l1 = some (r1, r2, r3)) :
  Calls Tryz.prog 147 #[.pointer (some ⟨g, 0, none⟩), .slice A1 l1.length c1] w fun e w' => e = .returned (.int .i64 r1) ∧ IsS84 w0 w' g s0_0 r2 r3 ∧ Below w0.heap.size w0 w' ∧ KeepBut w w' g none := by
 have HR1 := Aside0.mk hr1
 have HC1 := Aside0.mk hc1
 clear hr1 hc1
 have HI0 := Aside0.mk hI
 have HK := Aside0.mk (KeepBut.refl w g none)
 have HL := Aside0.mk hB.size
 clear hI
 have HW0 := Aside0.mk hB.size
 have HB := Aside0.mk hB
 clear hB
 have H : ((spec_l1Cur_pick.f s0_0 s0_1 s0_2 (l1.length : Int)).bind fun bt101 => (if 0 ≤ bt101.1 then (if bt101.1 < (l1.length : Int) then (some (rd l1 bt101.1, bt101.2.1, bt101.2.2)) else (none)) else (none))) = some (r1, r2, r3) := h
 clear h
 replace H := Option.bind_eq_some_iff.mp H
 obtain ⟨⟨t101, t102, t103⟩, A30, H⟩ := H
 replace H : (if 0 ≤ t101 then (if t101 < (l1.length : Int) then (some (rd l1 t101, t102, t103)) else (none)) else (none)) = some (r1, r2, r3) := H
 have A3 := Aside0.mk A30
 clear A30
 by_cases c4 : 0 ≤ t101
 ·rw [if_pos c4] at H
  have c4b0 : decide (0 ≤ t101) = true := decide_eq_true c4
  clear c4
  by_cases c5 : t101 < (l1.length : Int)
  ·rw [if_pos c5] at H
   have c5b0 : decide (t101 < (l1.length : Int)) = true := decide_eq_true c5
   clear c5
   simp only [Option.some.injEq, Prod.mk.injEq] at H
   obtain ⟨rfl, rfl, rfl⟩ := H
   go_enter Tryz.func147, Tryz.ntmps147
   go_wp2_with (first | ((with_reducible refine gate_callee (f := 94) rfl ?_); refine goesL_ (some 9) rfl rfl Tryz.func94 (by kernel_rfl) rfl #[.pointer (some ⟨g, 0, none⟩), .int .i64 (l1.length : Int)] rfl aq1 ?_; (with_reducible refine (spec_l1Cur_pick.calls g s0_0 s0_1 s0_2 (l1.length : Int) t101 t102 t103 w0 _ ?side1 ?side2 A3.out).mono ?_); (case side1 => exact aq4); (case side2 => exact aq3); rintro e w6 ⟨rfl, hi, hb, hk⟩; refine ⟨_, rfl, ?_⟩; have n0_ := Aside0.mk (KeepBut.trans aq2 hk (.inl rfl)); have n1_ := Aside0.mk (hb); have n2_ := Aside0.mk (hi); clear HK; clear HB; clear HI0; have HK := n0_; have HB := n1_; have HI0 := n2_; clear n0_ n1_ n2_; (try clear hb); (try clear hb2); (try clear hk); (try clear hi); have p104 : 0 ≤ (t101 : Int) := of_decide_eq_true aq9; have q104 : t101 < (l1.length : Int) := of_decide_eq_true aq9; obtain ⟨ad104, e104, hx104_0⟩ := Kd.at_int HR1.out t101 p104 q104; cases e104; replace hx104_0 := keep_cell HK.out hx104_0 (by first | (rw [add_block]; exact hf1 _ rfl (by omega)) | exact hf1 _ rfl (by omega) | exact hf1 ad104 rfl (by omega)); replace p104 := eq_true p104; replace q104 := eq_true q104))
   go_ret
   exact ⟨aq8, aq4, aq3, aq2⟩
  ·rw [if_neg c5] at H
   exact absurd H (by simp)
 ·rw [if_neg c4] at H
  exact absurd H (by simp)
end Go.Proofs.YtipjmlcbbimfpaaGreatDoor.F

namespace Go.Proofs.YtipjmlcbbimfpaaGreatDoor.F
open Go.Proofs.YtipjmlcbbimfpaaGreatDoor
open Go.RowKit Go.Proofs.YtipjmlcbbimfpaaGreatDoorW.PrintWords Go.Proofs.YtipjmlcbbimfpaaGreatDoorW.PrintLast Go.Proofs.YtipjmlcbbimfpaaGreatDoorW.PrintMore
attribute [local go_sem] max2_int min2_int max_two min_two max_three min_three max_four min_four   -- for this text's walks alone
set_option linter.unusedVariables false
set_option linter.unusedSimpArgs false
def spec_l1Cur_tray.f (k : Nat) (s0_0 : List Int) (s0_1 : Int) (s0_2 : Int) : Option (ByteArray × Int × Int) := (spec_l1Cur_grid.f k s0_0 s0_1 s0_2 5 5 6).bind fun bt101 => ((spec_tyText.f k bt101.1 bt101.2.1 bt101.2.2.1).bind fun t108 => ((spec_l1Cur_pick.f s0_0 bt101.2.2.2.1 bt101.2.2.2.2 16).bind fun bt109 => (if bt109.1 = 0 then ((spec_l1Cur_spoilt.f k s0_0 bt109.2.1 bt109.2.2 t108 (⟨#[35, 46, 111, 97, 98, 102, 47, 103, 32]⟩ : ByteArray)).bind fun bt112 => (some (bt112.1, bt112.2.1, bt112.2.2))) else (if bt109.1 = 1 then ((spec_l1Cur_pick.f s0_0 bt109.2.1 bt109.2.2 2).bind fun bt115 => ((spec_tyEmpty.f k 6 (wrap64 (6 + bt115.1))).bind fun bt118 => ((spec_tyText.f k bt118.1 bt118.2.1 bt118.2.2).bind fun t123 => (some (t123, bt115.2.1, bt115.2.2))))) else (if bt109.1 = 2 then ((spec_l1Cur_among.f s0_0 bt109.2.1 bt109.2.2 (([7, 8] : List Int))).bind fun bt127 => ((spec_tyEmpty.f k bt127.1 5).bind fun bt130 => ((spec_tyText.f k bt130.1 bt130.2.1 bt130.2.2).bind fun t135 => (some (t135, bt127.2.1, bt127.2.2))))) else (some (t108, bt109.2.1, bt109.2.2)))))))
set_option maxHeartbeats 8000000 in
set_option maxRecDepth 100000 in
theorem spec_l1Cur_tray.calls (k : Nat) (g : Nat) (s0_0 : List Int) (s0_1 : Int) (s0_2 : Int) (r1 : ByteArray) (r2 : Int) (r3 : Int) (w0 w : World) (hI : IsS84 w0 w g s0_0 s0_1 s0_2) (hB : Below w0.heap.size w0 w) (h : spec_l1Cur_tray.f k s0_0 s0_1 s0_2 = some (r1, r2, r3)) :
  Calls Tryz.prog 89 #[.pointer (some ⟨g, 0, none⟩)] w fun e w' => e = .returned (.string r1) ∧ IsS84 w0 w' g s0_0 r2 r3 ∧ Below w0.heap.size w0 w' ∧ KeepBut w w' g none := by
 have HI0 := Aside0.mk hI
 have HK := Aside0.mk (KeepBut.refl w g none)
 have HL := Aside0.mk hB.size
 clear hI
 have HW0 := Aside0.mk hB.size
 have HB := Aside0.mk hB
 clear hB
 have H : ((spec_l1Cur_grid.f k s0_0 s0_1 s0_2 5 5 6).bind fun bt101 => ((spec_tyText.f k bt101.1 bt101.2.1 bt101.2.2.1).bind fun t108 => ((spec_l1Cur_pick.f s0_0 bt101.2.2.2.1 bt101.2.2.2.2 16).bind fun bt109 => (if bt109.1 = 0 then ((spec_l1Cur_spoilt.f k s0_0 bt109.2.1 bt109.2.2 t108 (⟨#[35, 46, 111, 97, 98, 102, 47, 103, 32]⟩ : ByteArray)).bind fun bt112 => (some (bt112.1, bt112.2.1, bt112.2.2))) else (if bt109.1 = 1 then ((spec_l1Cur_pick.f s0_0 bt109.2.1 bt109.2.2 2).bind fun bt115 => ((spec_tyEmpty.f k 6 (wrap64 (6 + bt115.1))).bind fun bt118 => ((spec_tyText.f k bt118.1 bt118.2.1 bt118.2.2).bind fun t123 => (some (t123, bt115.2.1, bt115.2.2))))) else (if bt109.1 = 2 then ((spec_l1Cur_among.f s0_0 bt109.2.1 bt109.2.2 (([7, 8] : List Int))).bind fun bt127 => ((spec_tyEmpty.f k bt127.1 5).bind fun bt130 => ((spec_tyText.f k bt130.1 bt130.2.1 bt130.2.2).bind fun t135 => (some (t135, bt127.2.1, bt127.2.2))))) else (some (t108, bt109.2.1, bt109.2.2)))))))) = some (r1, r2, r3) := h
 clear h
 replace H := Option.bind_eq_some_iff.mp H
 obtain ⟨⟨t101, t102, t103, t106, t107⟩, A20, H⟩ := H
 replace H : ((spec_tyText.f k t101 t102 t103).bind fun t108 => ((spec_l1Cur_pick.f s0_0 t106 t107 16).bind fun bt109 => (if bt109.1 = 0 then ((spec_l1Cur_spoilt.f k s0_0 bt109.2.1 bt109.2.2 t108 (⟨#[35, 46, 111, 97, 98, 102, 47, 103, 32]⟩ : ByteArray)).bind fun bt112 => (some (bt112.1, bt112.2.1, bt112.2.2))) else (if bt109.1 = 1 then ((spec_l1Cur_pick.f s0_0 bt109.2.1 bt109.2.2 2).bind fun bt115 => ((spec_tyEmpty.f k 6 (wrap64 (6 + bt115.1))).bind fun bt118 => ((spec_tyText.f k bt118.1 bt118.2.1 bt118.2.2).bind fun t123 => (some (t123, bt115.2.1, bt115.2.2))))) else (if bt109.1 = 2 then ((spec_l1Cur_among.f s0_0 bt109.2.1 bt109.2.2 (([7, 8] : List Int))).bind fun bt127 => ((spec_tyEmpty.f k bt127.1 5).bind fun bt130 => ((spec_tyText.f k bt130.1 bt130.2.1 bt130.2.2).bind fun t135 => (some (t135, bt127.2.1, bt127.2.2))))) else (some (t108, bt109.2.1, bt109.2.2))))))) = some (r1, r2, r3) := H
 have A2 := Aside0.mk A20
 clear A20
 replace H := Option.bind_eq_some_iff.mp H
 obtain ⟨t108, A30, H⟩ := H
 replace H : ((spec_l1Cur_pick.f s0_0 t106 t107 16).bind fun bt109 => (if bt109.1 = 0 then ((spec_l1Cur_spoilt.f k s0_0 bt109.2.1 bt109.2.2 t108 (⟨#[35, 46, 111, 97, 98, 102, 47, 103, 32]⟩ : ByteArray)).bind fun bt112 => (some (bt112.1, bt112.2.1, bt112.2.2))) else (if bt109.1 = 1 then ((spec_l1Cur_pick.f s0_0 bt109.2.1 bt109.2.2 2).bind fun bt115 => ((spec_tyEmpty.f k 6 (wrap64 (6 + bt115.1))).bind fun bt118 => ((spec_tyText.f k bt118.1 bt118.2.1 bt118.2.2).bind fun t123 => (some (t123, bt115.2.1, bt115.2.2))))) else (if bt109.1 = 2 then ((spec_l1Cur_among.f s0_0 bt109.2.1 bt109.2.2 (([7, 8] : List Int))).bind fun bt127 => ((spec_tyEmpty.f k bt127.1 5).bind fun bt130 => ((spec_tyText.f k bt130.1 bt130.2.1 bt130.2.2).bind fun t135 => (some (t135, bt127.2.1, bt127.2.2))))) else (some (t108, bt109.2.1, bt109.2.2)))))) = some (r1, r2, r3) := H
 have A3 := Aside0.mk A30
 clear A30
 replace H := Option.bind_eq_some_iff.mp H
 obtain ⟨⟨t109, t110, t111⟩, A40, H⟩ := H
 replace H : (if t109 = 0 then ((spec_l1Cur_spoilt.f k s0_0 t110 t111 t108 (⟨#[35, 46, 111, 97, 98, 102, 47, 103, 32]⟩ : ByteArray)).bind fun bt112 => (some (bt112.1, bt112.2.1, bt112.2.2))) else (if t109 = 1 then ((spec_l1Cur_pick.f s0_0 t110 t111 2).bind fun bt115 => ((spec_tyEmpty.f k 6 (wrap64 (6 + bt115.1))).bind fun bt118 => ((spec_tyText.f k bt118.1 bt118.2.1 bt118.2.2).bind fun t123 => (some (t123, bt115.2.1, bt115.2.2))))) else (if t109 = 2 then ((spec_l1Cur_among.f s0_0 t110 t111 (([7, 8] : List Int))).bind fun bt127 => ((spec_tyEmpty.f k bt127.1 5).bind fun bt130 => ((spec_tyText.f k bt130.1 bt130.2.1 bt130.2.2).bind fun t135 => (some (t135, bt127.2.1, bt127.2.2))))) else (some (t108, t110, t111))))) = some (r1, r2, r3) := H
 have A4 := Aside0.mk A40
 clear A40
 by_cases c5 : t109 = 0
 ·rw [if_pos c5] at H
  have c5b0 : (t109 == 0) = true := beq_iff_eq.mpr c5
  have c5b1 : (t109 != 0) = false := bne_eq_false_iff_eq.mpr c5
  clear c5
  replace H := Option.bind_eq_some_iff.mp H
  obtain ⟨⟨t112, t113, t114⟩, A60, H⟩ := H
  replace H : (some (t112, t113, t114)) = some (r1, r2, r3) := H
  have A6 := Aside0.mk A60
  clear A60
  simp only [Option.some.injEq, Prod.mk.injEq] at H
  obtain ⟨rfl, rfl, rfl⟩ := H
  go_enter Tryz.func89, Tryz.ntmps89
  go_wp2_with (first | ((with_reducible refine gate_callee (f := 99) rfl ?_); refine goesL_ (some 5) rfl rfl Tryz.func99 (by kernel_rfl) rfl #[.pointer (some ⟨g, 0, none⟩), .int .i64 5, .int .i64 5, .int .i64 6] rfl aq1 ?_; (with_reducible refine (spec_l1Cur_grid.calls k g s0_0 s0_1 s0_2 5 5 6 t101 t102 t103 t106 t107 w0 _ ?side1 ?side2 A2.out).mono ?_); (case side1 => exact aq4); (case side2 => exact aq3); rintro e w7 ⟨v104, rfl, ho0, hi, hb, hk⟩; refine ⟨_, rfl, ?_⟩; have n0_ := Aside0.mk (Kd.R_lower ho0 (keep_size (w := w) (g := g) (row := none) aq2)); have n1_ := Aside0.mk (KeepBut.trans aq2 hk (.inl rfl)); have n2_ := Aside0.mk (hb); have n3_ := Aside0.mk (hi); clear HK; clear HB; clear HI0; have HO105 := n0_; have HK := n1_; have HB := n2_; have HI0 := n3_; clear n0_ n1_ n2_ n3_; (try clear hb); (try clear hb2); (try clear hk); (try clear hi); (try clear ho0); obtain ⟨Ao8, co8, eo8⟩ := Kd.R_slice HO105.out; subst eo8) | ((with_reducible refine gate_callee (f := 76) rfl ?_); refine goesL_ (some 6) rfl rfl Tryz.func76 (by kernel_rfl) rfl #[.agg #[.int .i64 t101, .int .i64 t102, .slice Ao8 t103.length co8]] rfl aq1 ?_; (with_reducible refine (spec_tyText.calls k t101 t102 _ _ t103 t108 _ ?side1 ?side2 A3.out).mono ?_); (case side1 => exact aq60); (case side2 => exact aq98); rintro e w9 ⟨rfl, hb⟩; refine ⟨_, rfl, ?_⟩; have n0_ := Aside0.mk (Kd.R_below aq15 hb); have n1_ := Aside0.mk (IsS84.below aq4 hb); have n2_ := Aside0.mk (KeepBut.trans aq2 (KeepBut.of_below hb g none) (.inl rfl)); have n3_ := Aside0.mk (below_step aq3 hb); clear HO105; clear HI0; clear HK; clear HB; have HO105 := n0_; have HI0 := n1_; have HK := n2_; have HB := n3_; clear n0_ n1_ n2_ n3_; (try clear hb); (try clear hb2); (try clear hk); (try clear hi)) | ((with_reducible refine gate_callee (f := 94) rfl ?_); refine goesL_ (some 8) rfl rfl Tryz.func94 (by kernel_rfl) rfl #[.pointer (some ⟨g, 0, none⟩), .int .i64 16] rfl aq1 ?_; (with_reducible refine (spec_l1Cur_pick.calls g s0_0 t106 t107 16 t109 t110 t111 w0 _ ?side1 ?side2 A4.out).mono ?_); (case side1 => exact aq4); (case side2 => exact aq3); rintro e w10 ⟨rfl, hi, hb, hk⟩; refine ⟨_, rfl, ?_⟩; have n0_ := Aside0.mk (Kd.R_mono (Kd.R_keep (IsS84.apart (show IsS84 w0 _ g s0_0 t106 t107 from by repeat (first | (with_reducible first | exact HI0.out | apply IsS84.alloc | apply IsS84.drewN | apply IsS84.drew | apply IsS84.set_1 | apply IsS84.set_2) | exact HI0.out)) aq15 (by decide)) hk (fun _ h => h.2)) (fun _ h => h.1)); have n1_ := Aside0.mk (KeepBut.trans aq2 hk (.inl rfl)); have n2_ := Aside0.mk (hb); have n3_ := Aside0.mk (hi); clear HO105; clear HK; clear HB; clear HI0; have HO105 := n0_; have HK := n1_; have HB := n2_; have HI0 := n3_; clear n0_ n1_ n2_ n3_; (try clear hb); (try clear hb2); (try clear hk); (try clear hi)) | ((with_reducible refine gate_callee (f := 146) rfl ?_); refine goesL_ (some 13) rfl rfl Tryz.func146 (by kernel_rfl) rfl #[.pointer (some ⟨g, 0, none⟩), .string t108, .string (⟨#[35, 46, 111, 97, 98, 102, 47, 103, 32]⟩ : ByteArray)] rfl aq1 ?_; (with_reducible refine (spec_l1Cur_spoilt.calls k g s0_0 t110 t111 t108 (⟨#[35, 46, 111, 97, 98, 102, 47, 103, 32]⟩ : ByteArray) t112 t113 t114 w0 _ ?side1 ?side2 A6.out).mono ?_); (case side1 => exact aq4); (case side2 => exact aq3); rintro e w11 ⟨rfl, hi, hb, hk⟩; refine ⟨_, rfl, ?_⟩; have n0_ := Aside0.mk (Kd.R_mono (Kd.R_keep (IsS84.apart (show IsS84 w0 _ g s0_0 t110 t111 from by repeat (first | (with_reducible first | exact HI0.out | apply IsS84.alloc | apply IsS84.drewN | apply IsS84.drew | apply IsS84.set_1 | apply IsS84.set_2) | exact HI0.out)) aq15 (by decide)) hk (fun _ h => h.2)) (fun _ h => h.1)); have n1_ := Aside0.mk (KeepBut.trans aq2 hk (.inl rfl)); have n2_ := Aside0.mk (hb); have n3_ := Aside0.mk (hi); clear HO105; clear HK; clear HB; clear HI0; have HO105 := n0_; have HK := n1_; have HB := n2_; have HI0 := n3_; clear n0_ n1_ n2_ n3_; (try clear hb); (try clear hb2); (try clear hk); (try clear hi)))
  go_ret
  exact ⟨aq8, aq4, aq3, aq2⟩
 ·rw [if_neg c5] at H
  have c5b0 : (t109 == 0) = false := beq_eq_false_iff_ne.mpr c5
  have c5b1 : (t109 != 0) = true := bne_iff_ne.mpr c5
  by_cases c12 : t109 = 1
  ·rw [if_pos c12] at H
   have c12b0 : (t109 == 1) = true := beq_iff_eq.mpr c12
   have c12b1 : (t109 != 1) = false := bne_eq_false_iff_eq.mpr c12
   clear c12
   replace H := Option.bind_eq_some_iff.mp H
   obtain ⟨⟨t115, t116, t117⟩, A130, H⟩ := H
   replace H : ((spec_tyEmpty.f k 6 (wrap64 (6 + t115))).bind fun bt118 => ((spec_tyText.f k bt118.1 bt118.2.1 bt118.2.2).bind fun t123 => (some (t123, t116, t117)))) = some (r1, r2, r3) := H
   have A13 := Aside0.mk A130
   clear A130
   replace H := Option.bind_eq_some_iff.mp H
   obtain ⟨⟨t118, t119, t120⟩, A140, H⟩ := H
   replace H : ((spec_tyText.f k t118 t119 t120).bind fun t123 => (some (t123, t116, t117))) = some (r1, r2, r3) := H
   have A14 := Aside0.mk A140
   clear A140
   replace H := Option.bind_eq_some_iff.mp H
   obtain ⟨t123, A150, H⟩ := H
   replace H : (some (t123, t116, t117)) = some (r1, r2, r3) := H
   have A15 := Aside0.mk A150
   clear A150
   simp only [Option.some.injEq, Prod.mk.injEq] at H
   obtain ⟨rfl, rfl, rfl⟩ := H
   go_enter Tryz.func89, Tryz.ntmps89
   go_wp2_with (first | ((with_reducible refine gate_callee (f := 99) rfl ?_); refine goesL_ (some 5) rfl rfl Tryz.func99 (by kernel_rfl) rfl #[.pointer (some ⟨g, 0, none⟩), .int .i64 5, .int .i64 5, .int .i64 6] rfl aq1 ?_; (with_reducible refine (spec_l1Cur_grid.calls k g s0_0 s0_1 s0_2 5 5 6 t101 t102 t103 t106 t107 w0 _ ?side1 ?side2 A2.out).mono ?_); (case side1 => exact aq4); (case side2 => exact aq3); rintro e w16 ⟨v104, rfl, ho0, hi, hb, hk⟩; refine ⟨_, rfl, ?_⟩; have n0_ := Aside0.mk (Kd.R_lower ho0 (keep_size (w := w) (g := g) (row := none) aq2)); have n1_ := Aside0.mk (KeepBut.trans aq2 hk (.inl rfl)); have n2_ := Aside0.mk (hb); have n3_ := Aside0.mk (hi); clear HK; clear HB; clear HI0; have HO105 := n0_; have HK := n1_; have HB := n2_; have HI0 := n3_; clear n0_ n1_ n2_ n3_; (try clear hb); (try clear hb2); (try clear hk); (try clear hi); (try clear ho0); obtain ⟨Ao17, co17, eo17⟩ := Kd.R_slice HO105.out; subst eo17) | ((with_reducible refine gate_callee (f := 76) rfl ?_); refine goesL_ (some 6) rfl rfl Tryz.func76 (by kernel_rfl) rfl #[.agg #[.int .i64 t101, .int .i64 t102, .slice Ao17 t103.length co17]] rfl aq1 ?_; (with_reducible refine (spec_tyText.calls k t101 t102 _ _ t103 t108 _ ?side1 ?side2 A3.out).mono ?_); (case side1 => exact aq60); (case side2 => exact aq98); rintro e w18 ⟨rfl, hb⟩; refine ⟨_, rfl, ?_⟩; have n0_ := Aside0.mk (Kd.R_below aq15 hb); have n1_ := Aside0.mk (IsS84.below aq4 hb); have n2_ := Aside0.mk (KeepBut.trans aq2 (KeepBut.of_below hb g none) (.inl rfl)); have n3_ := Aside0.mk (below_step aq3 hb); clear HO105; clear HI0; clear HK; clear HB; have HO105 := n0_; have HI0 := n1_; have HK := n2_; have HB := n3_; clear n0_ n1_ n2_ n3_; (try clear hb); (try clear hb2); (try clear hk); (try clear hi)) | ((with_reducible refine gate_callee (f := 94) rfl ?_); refine goesL_ (some 8) rfl rfl Tryz.func94 (by kernel_rfl) rfl #[.pointer (some ⟨g, 0, none⟩), .int .i64 16] rfl aq1 ?_; (with_reducible refine (spec_l1Cur_pick.calls g s0_0 t106 t107 16 t109 t110 t111 w0 _ ?side1 ?side2 A4.out).mono ?_); (case side1 => exact aq4); (case side2 => exact aq3); rintro e w19 ⟨rfl, hi, hb, hk⟩; refine ⟨_, rfl, ?_⟩; have n0_ := Aside0.mk (Kd.R_mono (Kd.R_keep (IsS84.apart (show IsS84 w0 _ g s0_0 t106 t107 from by repeat (first | (with_reducible first | exact HI0.out | apply IsS84.alloc | apply IsS84.drewN | apply IsS84.drew | apply IsS84.set_1 | apply IsS84.set_2) | exact HI0.out)) aq15 (by decide)) hk (fun _ h => h.2)) (fun _ h => h.1)); have n1_ := Aside0.mk (KeepBut.trans aq2 hk (.inl rfl)); have n2_ := Aside0.mk (hb); have n3_ := Aside0.mk (hi); clear HO105; clear HK; clear HB; clear HI0; have HO105 := n0_; have HK := n1_; have HB := n2_; have HI0 := n3_; clear n0_ n1_ n2_ n3_; (try clear hb); (try clear hb2); (try clear hk); (try clear hi)) | ((with_reducible refine gate_callee (f := 94) rfl ?_); refine goesL_ (some 17) rfl rfl Tryz.func94 (by kernel_rfl) rfl #[.pointer (some ⟨g, 0, none⟩), .int .i64 2] rfl aq1 ?_; (with_reducible refine (spec_l1Cur_pick.calls g s0_0 t110 t111 2 t115 t116 t117 w0 _ ?side1 ?side2 A13.out).mono ?_); (case side1 => exact aq4); (case side2 => exact aq3); rintro e w20 ⟨rfl, hi, hb, hk⟩; refine ⟨_, rfl, ?_⟩; have n0_ := Aside0.mk (Kd.R_mono (Kd.R_keep (IsS84.apart (show IsS84 w0 _ g s0_0 t110 t111 from by repeat (first | (with_reducible first | exact HI0.out | apply IsS84.alloc | apply IsS84.drewN | apply IsS84.drew | apply IsS84.set_1 | apply IsS84.set_2) | exact HI0.out)) aq15 (by decide)) hk (fun _ h => h.2)) (fun _ h => h.1)); have n1_ := Aside0.mk (KeepBut.trans aq2 hk (.inl rfl)); have n2_ := Aside0.mk (hb); have n3_ := Aside0.mk (hi); clear HO105; clear HK; clear HB; clear HI0; have HO105 := n0_; have HK := n1_; have HB := n2_; have HI0 := n3_; clear n0_ n1_ n2_ n3_; (try clear hb); (try clear hb2); (try clear hk); (try clear hi)) | ((with_reducible refine gate_callee (f := 113) rfl ?_); refine goesL_ (some 19) rfl rfl Tryz.func113 (by kernel_rfl) rfl #[.int .i64 6, .int .i64 (wrap64 (6 + t115))] rfl aq1 ?_; (with_reducible refine (spec_tyEmpty.calls k 6 (wrap64 (6 + t115)) t118 t119 t120 _ A14.out).mono ?_); rintro e w21 ⟨v121, rfl, ho0, hb⟩; refine ⟨_, rfl, ?_⟩; have n0_ := Aside0.mk (Kd.R_elder' aq15 (Kd.R_base ho0) hb); have n1_ := Aside0.mk (Kd.R_lower (Kd.R_new' ho0 (Kd.R_lt aq15)) (keep_size (w := w) (g := g) (row := none) aq2)); have n2_ := Aside0.mk (IsS84.below aq4 hb); have n3_ := Aside0.mk (KeepBut.trans aq2 (KeepBut.of_below hb g none) (.inl rfl)); have n4_ := Aside0.mk (below_step aq3 hb); clear HO105; clear HI0; clear HK; clear HB; have HO105 := n0_; have HO122 := n1_; have HI0 := n2_; have HK := n3_; have HB := n4_; clear n0_ n1_ n2_ n3_ n4_; (try clear hb); (try clear hb2); (try clear hk); (try clear hi); (try clear ho0); obtain ⟨Ao22, co22, eo22⟩ := Kd.R_slice HO122.out; subst eo22) | ((with_reducible refine gate_callee (f := 76) rfl ?_); refine goesL_ (some 20) rfl rfl Tryz.func76 (by kernel_rfl) rfl #[.agg #[.int .i64 t118, .int .i64 t119, .slice Ao22 t120.length co22]] rfl aq1 ?_; (with_reducible refine (spec_tyText.calls k t118 t119 _ _ t120 t123 _ ?side1 ?side2 A15.out).mono ?_); (case side1 => repeat (first | exact (Kd.R_reads' HO122.out).2.2 | (with_reducible refine Kd.C_alloc ?_ _) | (with_reducible refine Kd.C_drewN ?_ _) | (with_reducible refine Kd.C_drew ?_))); (case side2 => exact (Kd.R_reads' HO122.out).2.1); rintro e w23 ⟨rfl, hb⟩; refine ⟨_, rfl, ?_⟩; have n0_ := Aside0.mk (Kd.R_below aq15 hb); have n1_ := Aside0.mk (Kd.R_below (by (with_reducible repeat (first | apply Kd.R_alloc | apply Kd.R_drewN | apply Kd.R_drew)); exact HO122.out) hb); have n2_ := Aside0.mk (IsS84.below aq4 hb); have n3_ := Aside0.mk (KeepBut.trans aq2 (KeepBut.of_below hb g none) (.inl rfl)); have n4_ := Aside0.mk (below_step aq3 hb); clear HO105; clear HO122; clear HI0; clear HK; clear HB; have HO105 := n0_; have HO122 := n1_; have HI0 := n2_; have HK := n3_; have HB := n4_; clear n0_ n1_ n2_ n3_ n4_; (try clear hb); (try clear hb2); (try clear hk); (try clear hi)))
   go_ret
   exact ⟨aq8, aq4, aq3, aq2⟩
  ·rw [if_neg c12] at H
   have c12b0 : (t109 == 1) = false := beq_eq_false_iff_ne.mpr c12
   have c12b1 : (t109 != 1) = true := bne_iff_ne.mpr c12
   by_cases c24 : t109 = 2
   ·rw [if_pos c24] at H
    have c24b0 : (t109 == 2) = true := beq_iff_eq.mpr c24
    have c24b1 : (t109 != 2) = false := bne_eq_false_iff_eq.mpr c24
    clear c24
    obtain ⟨y124, hy124⟩ : ∃ y_ : List Int, y_ = (([7, 8] : List Int)) := ⟨_, rfl⟩
    replace H : ((spec_l1Cur_among.f s0_0 t110 t111 y124).bind fun bt127 => ((spec_tyEmpty.f k bt127.1 5).bind fun bt130 => ((spec_tyText.f k bt130.1 bt130.2.1 bt130.2.2).bind fun t135 => (some (t135, bt127.2.1, bt127.2.2))))) = some (r1, r2, r3) := by first | (rw [hy124]; with_reducible exact H) | (have H2_ := (Option.bind_some _ _).symm.trans H; rw [hy124]; with_reducible exact H2_) | (have H2_ := (Option.bind_some _ _).symm.trans H; with_reducible exact H2_) | with_reducible exact H | (rw [hy124]; exact H) | exact H
    have Ny124 := Aside0.mk hy124
    clear hy124
    replace H := Option.bind_eq_some_iff.mp H
    obtain ⟨⟨t127, t128, t129⟩, A250, H⟩ := H
    replace H : ((spec_tyEmpty.f k t127 5).bind fun bt130 => ((spec_tyText.f k bt130.1 bt130.2.1 bt130.2.2).bind fun t135 => (some (t135, t128, t129)))) = some (r1, r2, r3) := H
    have A25 := Aside0.mk A250
    clear A250
    replace H := Option.bind_eq_some_iff.mp H
    obtain ⟨⟨t130, t131, t132⟩, A260, H⟩ := H
    replace H : ((spec_tyText.f k t130 t131 t132).bind fun t135 => (some (t135, t128, t129))) = some (r1, r2, r3) := H
    have A26 := Aside0.mk A260
    clear A260
    replace H := Option.bind_eq_some_iff.mp H
    obtain ⟨t135, A270, H⟩ := H
    replace H : (some (t135, t128, t129)) = some (r1, r2, r3) := H
    have A27 := Aside0.mk A270
    clear A270
    simp only [Option.some.injEq, Prod.mk.injEq] at H
    obtain ⟨rfl, rfl, rfl⟩ := H
    go_enter Tryz.func89, Tryz.ntmps89
    go_wp2_with (first | ((with_reducible refine gate_callee (f := 99) rfl ?_); refine goesL_ (some 5) rfl rfl Tryz.func99 (by kernel_rfl) rfl #[.pointer (some ⟨g, 0, none⟩), .int .i64 5, .int .i64 5, .int .i64 6] rfl aq1 ?_; (with_reducible refine (spec_l1Cur_grid.calls k g s0_0 s0_1 s0_2 5 5 6 t101 t102 t103 t106 t107 w0 _ ?side1 ?side2 A2.out).mono ?_); (case side1 => exact aq4); (case side2 => exact aq3); rintro e w28 ⟨v104, rfl, ho0, hi, hb, hk⟩; refine ⟨_, rfl, ?_⟩; have n0_ := Aside0.mk (Kd.R_lower ho0 (keep_size (w := w) (g := g) (row := none) aq2)); have n1_ := Aside0.mk (KeepBut.trans aq2 hk (.inl rfl)); have n2_ := Aside0.mk (hb); have n3_ := Aside0.mk (hi); clear HK; clear HB; clear HI0; have HO105 := n0_; have HK := n1_; have HB := n2_; have HI0 := n3_; clear n0_ n1_ n2_ n3_; (try clear hb); (try clear hb2); (try clear hk); (try clear hi); (try clear ho0); obtain ⟨Ao29, co29, eo29⟩ := Kd.R_slice HO105.out; subst eo29) | ((with_reducible refine gate_callee (f := 76) rfl ?_); refine goesL_ (some 6) rfl rfl Tryz.func76 (by kernel_rfl) rfl #[.agg #[.int .i64 t101, .int .i64 t102, .slice Ao29 t103.length co29]] rfl aq1 ?_; (with_reducible refine (spec_tyText.calls k t101 t102 _ _ t103 t108 _ ?side1 ?side2 A3.out).mono ?_); (case side1 => exact aq60); (case side2 => exact aq98); rintro e w30 ⟨rfl, hb⟩; refine ⟨_, rfl, ?_⟩; have n0_ := Aside0.mk (Kd.R_below aq15 hb); have n1_ := Aside0.mk (IsS84.below aq4 hb); have n2_ := Aside0.mk (KeepBut.trans aq2 (KeepBut.of_below hb g none) (.inl rfl)); have n3_ := Aside0.mk (below_step aq3 hb); clear HO105; clear HI0; clear HK; clear HB; have HO105 := n0_; have HI0 := n1_; have HK := n2_; have HB := n3_; clear n0_ n1_ n2_ n3_; (try clear hb); (try clear hb2); (try clear hk); (try clear hi)) | ((with_reducible refine gate_callee (f := 94) rfl ?_); refine goesL_ (some 8) rfl rfl Tryz.func94 (by kernel_rfl) rfl #[.pointer (some ⟨g, 0, none⟩), .int .i64 16] rfl aq1 ?_; (with_reducible refine (spec_l1Cur_pick.calls g s0_0 t106 t107 16 t109 t110 t111 w0 _ ?side1 ?side2 A4.out).mono ?_); (case side1 => exact aq4); (case side2 => exact aq3); rintro e w31 ⟨rfl, hi, hb, hk⟩; refine ⟨_, rfl, ?_⟩; have n0_ := Aside0.mk (Kd.R_mono (Kd.R_keep (IsS84.apart (show IsS84 w0 _ g s0_0 t106 t107 from by repeat (first | (with_reducible first | exact HI0.out | apply IsS84.alloc | apply IsS84.drewN | apply IsS84.drew | apply IsS84.set_1 | apply IsS84.set_2) | exact HI0.out)) aq15 (by decide)) hk (fun _ h => h.2)) (fun _ h => h.1)); have n1_ := Aside0.mk (KeepBut.trans aq2 hk (.inl rfl)); have n2_ := Aside0.mk (hb); have n3_ := Aside0.mk (hi); clear HO105; clear HK; clear HB; clear HI0; have HO105 := n0_; have HK := n1_; have HB := n2_; have HI0 := n3_; clear n0_ n1_ n2_ n3_; (try clear hb); (try clear hb2); (try clear hk); (try clear hi)) | ((with_reducible refine gate_dst (N := 24) rfl ?_); refine Kd.R_lit (Kd.int .i64) _ 3 ?hg (N := 24) ?hd (xs := ([7, 8] : List Int)) (inner := [.int .i64 7, .int .i64 8]) (ok := fun _ => True) (okp := fun _ => True) ?hr ?hp (fun _ hk => hk) trivial (Below.refl _ _) (Nat.le_refl _) (by simp) ?_; (case hd => rfl); (case hg => rfl); (case hr => exact aq23); (case hp => exact (Reps.one (show Kd.M (Kd.int .i64) _ _ _ 7 [.int .i64 7] from rfl) (Reps.one (show Kd.M (Kd.int .i64) _ _ _ 8 [.int .i64 8] from rfl) (Reps.none _ _)))); intro v125 w32 ho33 hb hg_ hnew_; clear hg_ hnew_; (first | rw [← Ny124.out] at ho33 | (simp only [Int.reduceToNat] at ho33; rw [← Ny124.out] at ho33)); have n0_ := Aside0.mk (Kd.R_below aq15 hb); have n1_ := Aside0.mk (Kd.R_lower ho33 (keep_size (w := w) (g := g) (row := none) aq2)); have n2_ := Aside0.mk (IsS84.below aq4 hb); have n3_ := Aside0.mk (KeepBut.trans aq2 (KeepBut.of_below hb g none) (.inl rfl)); have n4_ := Aside0.mk (below_step aq3 hb); clear HO105; clear HI0; clear HK; clear HB; have HO105 := n0_; have HO126 := n1_; have HI0 := n2_; have HK := n3_; have HB := n4_; clear n0_ n1_ n2_ n3_ n4_; clear hb ho33; obtain ⟨Ao34, co34, eo34⟩ := Kd.R_slice HO126.out; subst eo34) | ((with_reducible refine gate_callee (f := 147) rfl ?_); refine goesL_ (some 25) rfl rfl Tryz.func147 (by kernel_rfl) rfl #[.pointer (some ⟨g, 0, none⟩), .slice Ao34 y124.length co34] rfl aq1 ?_; (with_reducible refine (spec_l1Cur_among.calls g s0_0 t110 t111 _ _ y124 t127 t128 t129 w0 _ ?side1 ?side2 ?side3 ?side4 ?side5 A25.out).mono ?_); (case side1 => exact aq4); (case side2 => exact aq3); (case side3 => repeat (first | exact (Kd.R_reads' HO126.out).2.2 | (with_reducible refine Kd.C_alloc ?_ _) | (with_reducible refine Kd.C_drewN ?_ _) | (with_reducible refine Kd.C_drew ?_))); (case side4 => exact (Kd.R_reads' HO126.out).2.1); (case side5 => exact far_slice (IsS84.own_ne HI0.out HO126.out (by decide))); rintro e w35 ⟨rfl, hi, hb, hk⟩; refine ⟨_, rfl, ?_⟩; have n0_ := Aside0.mk (Kd.R_mono (Kd.R_keep (IsS84.apart (show IsS84 w0 _ g s0_0 t110 t111 from by repeat (first | (with_reducible first | exact HI0.out | apply IsS84.alloc | apply IsS84.drewN | apply IsS84.drew | apply IsS84.set_1 | apply IsS84.set_2) | exact HI0.out)) aq15 (by decide)) hk (fun _ h => h.2)) (fun _ h => h.1)); have n1_ := Aside0.mk (Kd.R_mono (Kd.R_keep (IsS84.apart (show IsS84 w0 _ g s0_0 t110 t111 from by repeat (first | (with_reducible first | exact HI0.out | apply IsS84.alloc | apply IsS84.drewN | apply IsS84.drew | apply IsS84.set_1 | apply IsS84.set_2) | exact HI0.out)) aq89 (by decide)) hk (fun _ h => h.2)) (fun _ h => h.1)); have n2_ := Aside0.mk (KeepBut.trans aq2 hk (.inl rfl)); have n3_ := Aside0.mk (hb); have n4_ := Aside0.mk (hi); clear HO105; clear HO126; clear HK; clear HB; clear HI0; have HO105 := n0_; have HO126 := n1_; have HK := n2_; have HB := n3_; have HI0 := n4_; clear n0_ n1_ n2_ n3_ n4_; (try clear hb); (try clear hb2); (try clear hk); (try clear hi)) | ((with_reducible refine gate_callee (f := 113) rfl ?_); refine goesL_ (some 26) rfl rfl Tryz.func113 (by kernel_rfl) rfl #[.int .i64 t127, .int .i64 5] rfl aq1 ?_; (with_reducible refine (spec_tyEmpty.calls k t127 5 t130 t131 t132 _ A26.out).mono ?_); rintro e w36 ⟨v133, rfl, ho0, hb⟩; refine ⟨_, rfl, ?_⟩; have n0_ := Aside0.mk (Kd.R_elder' aq15 (Kd.R_base ho0) hb); have n1_ := Aside0.mk (Kd.R_below aq89 hb); have n2_ := Aside0.mk (Kd.R_lower (Kd.R_new' ho0 (Kd.R_lt aq15)) (keep_size (w := w) (g := g) (row := none) aq2)); have n3_ := Aside0.mk (IsS84.below aq4 hb); have n4_ := Aside0.mk (KeepBut.trans aq2 (KeepBut.of_below hb g none) (.inl rfl)); have n5_ := Aside0.mk (below_step aq3 hb); clear HO105; clear HO126; clear HI0; clear HK; clear HB; have HO105 := n0_; have HO126 := n1_; have HO134 := n2_; have HI0 := n3_; have HK := n4_; have HB := n5_; clear n0_ n1_ n2_ n3_ n4_ n5_; (try clear hb); (try clear hb2); (try clear hk); (try clear hi); (try clear ho0); obtain ⟨Ao37, co37, eo37⟩ := Kd.R_slice HO134.out; subst eo37) | ((with_reducible refine gate_callee (f := 76) rfl ?_); refine goesL_ (some 27) rfl rfl Tryz.func76 (by kernel_rfl) rfl #[.agg #[.int .i64 t130, .int .i64 t131, .slice Ao37 t132.length co37]] rfl aq1 ?_; (with_reducible refine (spec_tyText.calls k t130 t131 _ _ t132 t135 _ ?side1 ?side2 A27.out).mono ?_); (case side1 => repeat (first | exact (Kd.R_reads' HO134.out).2.2 | (with_reducible refine Kd.C_alloc ?_ _) | (with_reducible refine Kd.C_drewN ?_ _) | (with_reducible refine Kd.C_drew ?_))); (case side2 => exact (Kd.R_reads' HO134.out).2.1); rintro e w38 ⟨rfl, hb⟩; refine ⟨_, rfl, ?_⟩; have n0_ := Aside0.mk (Kd.R_below aq15 hb); have n1_ := Aside0.mk (Kd.R_below aq89 hb); have n2_ := Aside0.mk (Kd.R_below (by (with_reducible repeat (first | apply Kd.R_alloc | apply Kd.R_drewN | apply Kd.R_drew)); exact HO134.out) hb); have n3_ := Aside0.mk (IsS84.below aq4 hb); have n4_ := Aside0.mk (KeepBut.trans aq2 (KeepBut.of_below hb g none) (.inl rfl)); have n5_ := Aside0.mk (below_step aq3 hb); clear HO105; clear HO126; clear HO134; clear HI0; clear HK; clear HB; have HO105 := n0_; have HO126 := n1_; have HO134 := n2_; have HI0 := n3_; have HK := n4_; have HB := n5_; clear n0_ n1_ n2_ n3_ n4_ n5_; (try clear hb); (try clear hb2); (try clear hk); (try clear hi)))
    go_ret
    exact ⟨aq8, aq4, aq3, aq2⟩
   ·rw [if_neg c24] at H
    have c24b0 : (t109 == 2) = false := beq_eq_false_iff_ne.mpr c24
    have c24b1 : (t109 != 2) = true := bne_iff_ne.mpr c24
    simp only [Option.some.injEq, Prod.mk.injEq] at H
    obtain ⟨rfl, rfl, rfl⟩ := H
    go_enter Tryz.func89, Tryz.ntmps89
    go_wp2_with (first | ((with_reducible refine gate_callee (f := 99) rfl ?_); refine goesL_ (some 5) rfl rfl Tryz.func99 (by kernel_rfl) rfl #[.pointer (some ⟨g, 0, none⟩), .int .i64 5, .int .i64 5, .int .i64 6] rfl aq1 ?_; (with_reducible refine (spec_l1Cur_grid.calls k g s0_0 s0_1 s0_2 5 5 6 t101 t102 t103 t106 t107 w0 _ ?side1 ?side2 A2.out).mono ?_); (case side1 => exact aq4); (case side2 => exact aq3); rintro e w39 ⟨v104, rfl, ho0, hi, hb, hk⟩; refine ⟨_, rfl, ?_⟩; have n0_ := Aside0.mk (Kd.R_lower ho0 (keep_size (w := w) (g := g) (row := none) aq2)); have n1_ := Aside0.mk (KeepBut.trans aq2 hk (.inl rfl)); have n2_ := Aside0.mk (hb); have n3_ := Aside0.mk (hi); clear HK; clear HB; clear HI0; have HO105 := n0_; have HK := n1_; have HB := n2_; have HI0 := n3_; clear n0_ n1_ n2_ n3_; (try clear hb); (try clear hb2); (try clear hk); (try clear hi); (try clear ho0); obtain ⟨Ao40, co40, eo40⟩ := Kd.R_slice HO105.out; subst eo40) | ((with_reducible refine gate_callee (f := 76) rfl ?_); refine goesL_ (some 6) rfl rfl Tryz.func76 (by kernel_rfl) rfl #[.agg #[.int .i64 t101, .int .i64 t102, .slice Ao40 t103.length co40]] rfl aq1 ?_; (with_reducible refine (spec_tyText.calls k t101 t102 _ _ t103 t108 _ ?side1 ?side2 A3.out).mono ?_); (case side1 => exact aq60); (case side2 => exact aq98); rintro e w41 ⟨rfl, hb⟩; refine ⟨_, rfl, ?_⟩; have n0_ := Aside0.mk (Kd.R_below aq15 hb); have n1_ := Aside0.mk (IsS84.below aq4 hb); have n2_ := Aside0.mk (KeepBut.trans aq2 (KeepBut.of_below hb g none) (.inl rfl)); have n3_ := Aside0.mk (below_step aq3 hb); clear HO105; clear HI0; clear HK; clear HB; have HO105 := n0_; have HI0 := n1_; have HK := n2_; have HB := n3_; clear n0_ n1_ n2_ n3_; (try clear hb); (try clear hb2); (try clear hk); (try clear hi)) | ((with_reducible refine gate_callee (f := 94) rfl ?_); refine goesL_ (some 8) rfl rfl Tryz.func94 (by kernel_rfl) rfl #[.pointer (some ⟨g, 0, none⟩), .int .i64 16] rfl aq1 ?_; (with_reducible refine (spec_l1Cur_pick.calls g s0_0 t106 t107 16 t109 t110 t111 w0 _ ?side1 ?side2 A4.out).mono ?_); (case side1 => exact aq4); (case side2 => exact aq3); rintro e w42 ⟨rfl, hi, hb, hk⟩; refine ⟨_, rfl, ?_⟩; have n0_ := Aside0.mk (Kd.R_mono (Kd.R_keep (IsS84.apart (show IsS84 w0 _ g s0_0 t106 t107 from by repeat (first | (with_reducible first | exact HI0.out | apply IsS84.alloc | apply IsS84.drewN | apply IsS84.drew | apply IsS84.set_1 | apply IsS84.set_2) | exact HI0.out)) aq15 (by decide)) hk (fun _ h => h.2)) (fun _ h => h.1)); have n1_ := Aside0.mk (KeepBut.trans aq2 hk (.inl rfl)); have n2_ := Aside0.mk (hb); have n3_ := Aside0.mk (hi); clear HO105; clear HK; clear HB; clear HI0; have HO105 := n0_; have HK := n1_; have HB := n2_; have HI0 := n3_; clear n0_ n1_ n2_ n3_; (try clear hb); (try clear hb2); (try clear hk); (try clear hi)))
    go_ret
    exact ⟨aq8, aq4, aq3, aq2⟩
end Go.Proofs.YtipjmlcbbimfpaaGreatDoor.F

namespace Go.Proofs.YtipjmlcbbimfpaaGreatDoor.F
open Go.Proofs.YtipjmlcbbimfpaaGreatDoor
open Go.RowKit Go.Proofs.YtipjmlcbbimfpaaGreatDoorW.PrintWords Go.Proofs.YtipjmlcbbimfpaaGreatDoorW.PrintLast Go.Proofs.YtipjmlcbbimfpaaGreatDoorW.PrintMore
attribute [local go_sem] max2_int min2_int max_two min_two max_three min_three max_four min_four   -- for this text's walks alone
set_option linter.unusedVariables false
set_option linter.unusedSimpArgs false
def spec_DrawIsTray.f (k : Nat) (l0 : List Int) : Option (ByteArray) := (spec_l1Cur_tray.f k l0 0 0).bind fun bt102 => (some bt102.1)
set_option maxHeartbeats 8000000 in
set_option maxRecDepth 100000 in
theorem spec_DrawIsTray.calls (k : Nat) (A0 : Option Addr) (c0 : Nat) (l0 : List Int) (r : ByteArray) (w : World) (hr0 : Kd.C (Kd.int .u8) w A0 l0.length l0) (hc0 : l0.length ≤ c0) (h : spec_DrawIsTray.f k l0 = some r) :
  Calls Tryz.prog 68 #[.slice A0 l0.length c0] w fun e w' => e = .returned (.string r) ∧ Below w.heap.size w w' := by
 have hu84 := Tryz.underlying84
 have HR0 := Aside0.mk hr0
 have HC0 := Aside0.mk hc0
 clear hr0 hc0
 have HB := Aside0.mk (Below.refl w.heap.size w)
 have H : ((spec_l1Cur_tray.f k l0 0 0).bind fun bt102 => (some bt102.1)) = some r := h
 clear h
 replace H := Option.bind_eq_some_iff.mp H
 obtain ⟨⟨t102, t103, t104⟩, A20, H⟩ := H
 replace H : (some t102) = some r := H
 have A2 := Aside0.mk A20
 clear A20
 obtain rfl := Option.some.inj H
 go_enter Tryz.func68, Tryz.ntmps68
 go_wp2_with (first | ((with_reducible refine gate_dst (N := 6) rfl ?_); refine box_event ?hg (N := 6) ?hd (cs := #[.slice A0 l0.length c0, .int .i64 0, .int .u64 0]) (t := 84) ?hr ?_; (case hd => rfl); (case hg => rfl); (case hr => exact aq23); intro gb101 hg w3 hbox hb; have n0_ := Aside0.mk (below_step aq0 hb); have n1_ := Aside0.mk ((show IsS84 w _ gb101 l0 0 0 from ⟨_, _, hbox, (by rw [hg]; exact (below_size aq0)), HR0.out⟩)); clear HB; have HB := n0_; have HI101 := n1_; clear n0_ n1_; clear hb hbox hg) | ((with_reducible refine gate_callee (f := 89) rfl ?_); refine goesL_ (some 8) rfl rfl Tryz.func89 (by kernel_rfl) rfl #[.pointer (some ⟨gb101, 0, none⟩)] rfl aq1 ?_; (with_reducible refine (spec_l1Cur_tray.calls k gb101 l0 0 0 t102 t103 t104 w _ ?side1 ?side2 A2.out).mono ?_); (case side1 => exact aq36); (case side2 => exact aq26); rintro e w4 ⟨rfl, hi, hb, hk⟩; refine ⟨_, rfl, ?_⟩; have n0_ := Aside0.mk (hb); have n1_ := Aside0.mk (hi); clear HB; clear HI101; have HB := n0_; have HI101 := n1_; clear n0_ n1_; (try clear hb); (try clear hb2); (try clear hk); (try clear hi)))
 go_ret
 exact ⟨aq8, aq26⟩
end Go.Proofs.YtipjmlcbbimfpaaGreatDoor.F

namespace Go.Proofs.YtipjmlcbbimfpaaGreatDoor.F
open Go.Proofs.YtipjmlcbbimfpaaGreatDoor
open Go.RowKit Go.Proofs.YtipjmlcbbimfpaaGreatDoorW.PrintWords Go.Proofs.YtipjmlcbbimfpaaGreatDoorW.PrintLast Go.Proofs.YtipjmlcbbimfpaaGreatDoorW.PrintMore
attribute [local go_sem] max2_int min2_int max_two min_two max_three min_three max_four min_four   -- for this text's walks alone
set_option linter.unusedVariables false
set_option linter.unusedSimpArgs false
def spec_DrawLeastTray.f (k : Nat) (l0 : List Int) : Option (ByteArray) := (spec_DrawIsTray.f k l0).bind fun t101 => (some t101)
set_option maxHeartbeats 8000000 in
set_option maxRecDepth 100000 in
theorem spec_DrawLeastTray.calls (k : Nat) (A0 : Option Addr) (c0 : Nat) (l0 : List Int) (r : ByteArray) (w : World) (hr0 : Kd.C (Kd.int .u8) w A0 l0.length l0) (hc0 : l0.length ≤ c0) (h : spec_DrawLeastTray.f k l0 = some r) :
  Calls Tryz.prog 7 #[.slice A0 l0.length c0] w fun e w' => e = .returned (.string r) ∧ Below w.heap.size w w' := by
 have HR0 := Aside0.mk hr0
 have HC0 := Aside0.mk hc0
 clear hr0 hc0
 have HB := Aside0.mk (Below.refl w.heap.size w)
 have H : ((spec_DrawIsTray.f k l0).bind fun t101 => (some t101)) = some r := h
 clear h
 replace H := Option.bind_eq_some_iff.mp H
 obtain ⟨t101, A20, H⟩ := H
 replace H : (some t101) = some r := H
 have A2 := Aside0.mk A20
 clear A20
 obtain rfl := Option.some.inj H
 go_enter Tryz.func7, Tryz.ntmps7
 go_wp2_with (first | ((with_reducible refine gate_callee (f := 68) rfl ?_); refine goesL_ (some 4) rfl rfl Tryz.func68 (by kernel_rfl) rfl #[.slice A0 l0.length c0] rfl aq1 ?_; (with_reducible refine (spec_DrawIsTray.calls k _ _ l0 t101 _ ?side1 ?side2 A2.out).mono ?_); (case side1 => exact aq64); (case side2 => exact HC0.out); rintro e w3 ⟨rfl, hb⟩; refine ⟨_, rfl, ?_⟩; have n0_ := Aside0.mk (below_step aq0 hb); clear HB; have HB := n0_; clear n0_; (try clear hb); (try clear hb2); (try clear hk); (try clear hi)))
 go_ret
 exact ⟨aq8, aq0⟩
end Go.Proofs.YtipjmlcbbimfpaaGreatDoor.F

namespace Go.Proofs.YtipjmlcbbimfpaaGreatDoor.F
open Go.Proofs.YtipjmlcbbimfpaaGreatDoor
open Go.RowKit Go.Proofs.YtipjmlcbbimfpaaGreatDoorW.PrintWords Go.Proofs.YtipjmlcbbimfpaaGreatDoorW.PrintLast Go.Proofs.YtipjmlcbbimfpaaGreatDoorW.PrintMore
attribute [local go_sem] max2_int min2_int max_two min_two max_three min_three max_four min_four   -- for this text's walks alone
set_option linter.unusedVariables false
set_option linter.unusedSimpArgs false
def spec_l1Cur_of.f (s0_0 : List Int) (s0_1 : Int) (s0_2 : Int) (l1 : List ByteArray) : Option (ByteArray × Int × Int) := (spec_l1Cur_pick.f s0_0 s0_1 s0_2 (l1.length : Int)).bind fun bt101 => (if 0 ≤ bt101.1 then (if bt101.1 < (l1.length : Int) then (some (rdOf ByteArray.empty l1 bt101.1, bt101.2.1, bt101.2.2)) else (none)) else (none))
set_option maxHeartbeats 8000000 in
set_option maxRecDepth 100000 in
theorem spec_l1Cur_of.calls (g : Nat) (s0_0 : List Int) (s0_1 : Int) (s0_2 : Int) (A1 : Option Addr) (c1 : Nat) (l1 : List ByteArray) (r1 : ByteArray) (r2 : Int) (r3 : Int) (w0 w : World) (hI : IsS84 w0 w g s0_0 s0_1 s0_2) (hB : Below w0.heap.size w0 w) (hr1 : Kd.C Kd.string w A1 l1.length l1) (hc1 : l1.length ≤ c1) (hf1 : ∀ ad, A1 = some ad → 0 < l1.length → ad.block ≠ g) (h : spec_l1Cur_of.f s0_0 s0_1 s0_2 l1 = some (r1, r2, r3)) :
  Calls Tryz.prog 90 #[.pointer (some ⟨g, 0, none⟩), .slice A1 l1.length c1] w fun e w' => e = .returned (.string r1) ∧ IsS84 w0 w' g s0_0 r2 r3 ∧ Below w0.heap.size w0 w' ∧ KeepBut w w' g none := by
 have HR1 := Aside0.mk hr1
 have HC1 := Aside0.mk hc1
 clear hr1 hc1
 have HI0 := Aside0.mk hI
 have HK := Aside0.mk (KeepBut.refl w g none)
 have HL := Aside0.mk hB.size
 clear hI
 have HW0 := Aside0.mk hB.size
 have HB := Aside0.mk hB
 clear hB
 have H : ((spec_l1Cur_pick.f s0_0 s0_1 s0_2 (l1.length : Int)).bind fun bt101 => (if 0 ≤ bt101.1 then (if bt101.1 < (l1.length : Int) then (some (rdOf ByteArray.empty l1 bt101.1, bt101.2.1, bt101.2.2)) else (none)) else (none))) = some (r1, r2, r3) := h
 clear h
 replace H := Option.bind_eq_some_iff.mp H
 obtain ⟨⟨t101, t102, t103⟩, A30, H⟩ := H
 replace H : (if 0 ≤ t101 then (if t101 < (l1.length : Int) then (some (rdOf ByteArray.empty l1 t101, t102, t103)) else (none)) else (none)) = some (r1, r2, r3) := H
 have A3 := Aside0.mk A30
 clear A30
 by_cases c4 : 0 ≤ t101
 ·rw [if_pos c4] at H
  have c4b0 : decide (0 ≤ t101) = true := decide_eq_true c4
  clear c4
  by_cases c5 : t101 < (l1.length : Int)
  ·rw [if_pos c5] at H
   have c5b0 : decide (t101 < (l1.length : Int)) = true := decide_eq_true c5
   clear c5
   simp only [Option.some.injEq, Prod.mk.injEq] at H
   obtain ⟨rfl, rfl, rfl⟩ := H
   go_enter Tryz.func90, Tryz.ntmps90
   go_wp2_with (first | ((with_reducible refine gate_callee (f := 94) rfl ?_); refine goesL_ (some 9) rfl rfl Tryz.func94 (by kernel_rfl) rfl #[.pointer (some ⟨g, 0, none⟩), .int .i64 (l1.length : Int)] rfl aq1 ?_; (with_reducible refine (spec_l1Cur_pick.calls g s0_0 s0_1 s0_2 (l1.length : Int) t101 t102 t103 w0 _ ?side1 ?side2 A3.out).mono ?_); (case side1 => exact aq4); (case side2 => exact aq3); rintro e w6 ⟨rfl, hi, hb, hk⟩; refine ⟨_, rfl, ?_⟩; have n0_ := Aside0.mk (KeepBut.trans aq2 hk (.inl rfl)); have n1_ := Aside0.mk (hb); have n2_ := Aside0.mk (hi); clear HK; clear HB; clear HI0; have HK := n0_; have HB := n1_; have HI0 := n2_; clear n0_ n1_ n2_; (try clear hb); (try clear hb2); (try clear hk); (try clear hi); have p104 : 0 ≤ (t101 : Int) := of_decide_eq_true aq9; have q104 : t101 < (l1.length : Int) := of_decide_eq_true aq9; obtain ⟨ad104, e104, hx104_0⟩ := Kd.at_string HR1.out t101 p104 q104; cases e104; replace hx104_0 := keep_cell HK.out hx104_0 (by first | (rw [add_block]; exact hf1 _ rfl (by omega)) | exact hf1 _ rfl (by omega) | exact hf1 ad104 rfl (by omega)); replace p104 := eq_true p104; replace q104 := eq_true q104))
   go_ret
   exact ⟨aq8, aq4, aq3, aq2⟩
  ·rw [if_neg c5] at H
   exact absurd H (by simp)
 ·rw [if_neg c4] at H
  exact absurd H (by simp)
end Go.Proofs.YtipjmlcbbimfpaaGreatDoor.F

namespace Go.Proofs.YtipjmlcbbimfpaaGreatDoor.F
open Go.Proofs.YtipjmlcbbimfpaaGreatDoor
open Go.RowKit Go.Proofs.YtipjmlcbbimfpaaGreatDoorW.PrintWords Go.Proofs.YtipjmlcbbimfpaaGreatDoorW.PrintLast Go.Proofs.YtipjmlcbbimfpaaGreatDoorW.PrintMore
attribute [local go_sem] max2_int min2_int max_two min_two max_three min_three max_four min_four   -- for this text's walks alone
set_option linter.unusedVariables false
set_option linter.unusedSimpArgs false
def spec_DrawCountCells.f (k : Nat) (l0 : List Int) : Option (ByteArray × ByteArray) := (spec_l1Cur_tray.f k l0 0 0).bind fun bt102 => ((spec_l1Cur_of.f l0 bt102.2.1 bt102.2.2 (([(⟨#[35]⟩ : ByteArray), (⟨#[46]⟩ : ByteArray), (⟨#[111]⟩ : ByteArray), (⟨#[97]⟩ : ByteArray), (⟨#[98]⟩ : ByteArray), (⟨#[103]⟩ : ByteArray), (⟨#[]⟩ : ByteArray), (⟨#[47]⟩ : ByteArray)] : List ByteArray))).bind fun bt108 => (some (bt102.1, bt108.1)))
set_option maxHeartbeats 8000000 in
set_option maxRecDepth 100000 in
theorem spec_DrawCountCells.calls (k : Nat) (A0 : Option Addr) (c0 : Nat) (l0 : List Int) (r1 : ByteArray) (r2 : ByteArray) (w : World) (hr0 : Kd.C (Kd.int .u8) w A0 l0.length l0) (hc0 : l0.length ≤ c0) (h : spec_DrawCountCells.f k l0 = some (r1, r2)) :
  Calls Tryz.prog 23 #[.slice A0 l0.length c0] w fun e w' => e = .returned (.tuple #[.string r1, .string r2]) ∧ Below w.heap.size w w' := by
 have hu84 := Tryz.underlying84
 have HR0 := Aside0.mk hr0
 have HC0 := Aside0.mk hc0
 clear hr0 hc0
 have HB := Aside0.mk (Below.refl w.heap.size w)
 have H : ((spec_l1Cur_tray.f k l0 0 0).bind fun bt102 => ((spec_l1Cur_of.f l0 bt102.2.1 bt102.2.2 (([(⟨#[35]⟩ : ByteArray), (⟨#[46]⟩ : ByteArray), (⟨#[111]⟩ : ByteArray), (⟨#[97]⟩ : ByteArray), (⟨#[98]⟩ : ByteArray), (⟨#[103]⟩ : ByteArray), (⟨#[]⟩ : ByteArray), (⟨#[47]⟩ : ByteArray)] : List ByteArray))).bind fun bt108 => (some (bt102.1, bt108.1)))) = some (r1, r2) := h
 clear h
 replace H := Option.bind_eq_some_iff.mp H
 obtain ⟨⟨t102, t103, t104⟩, A20, H⟩ := H
 replace H : ((spec_l1Cur_of.f l0 t103 t104 (([(⟨#[35]⟩ : ByteArray), (⟨#[46]⟩ : ByteArray), (⟨#[111]⟩ : ByteArray), (⟨#[97]⟩ : ByteArray), (⟨#[98]⟩ : ByteArray), (⟨#[103]⟩ : ByteArray), (⟨#[]⟩ : ByteArray), (⟨#[47]⟩ : ByteArray)] : List ByteArray))).bind fun bt108 => (some (t102, bt108.1))) = some (r1, r2) := H
 have A2 := Aside0.mk A20
 clear A20
 obtain ⟨y105, hy105⟩ : ∃ y_ : List ByteArray, y_ = (([(⟨#[35]⟩ : ByteArray), (⟨#[46]⟩ : ByteArray), (⟨#[111]⟩ : ByteArray), (⟨#[97]⟩ : ByteArray), (⟨#[98]⟩ : ByteArray), (⟨#[103]⟩ : ByteArray), (⟨#[]⟩ : ByteArray), (⟨#[47]⟩ : ByteArray)] : List ByteArray)) := ⟨_, rfl⟩
 replace H : ((spec_l1Cur_of.f l0 t103 t104 y105).bind fun bt108 => (some (t102, bt108.1))) = some (r1, r2) := by first | (rw [hy105]; with_reducible exact H) | (have H2_ := (Option.bind_some _ _).symm.trans H; rw [hy105]; with_reducible exact H2_) | (have H2_ := (Option.bind_some _ _).symm.trans H; with_reducible exact H2_) | with_reducible exact H | (rw [hy105]; exact H) | exact H
 have Ny105 := Aside0.mk hy105
 clear hy105
 replace H := Option.bind_eq_some_iff.mp H
 obtain ⟨⟨t108, t109, t110⟩, A30, H⟩ := H
 replace H : (some (t102, t108)) = some (r1, r2) := H
 have A3 := Aside0.mk A30
 clear A30
 simp only [Option.some.injEq, Prod.mk.injEq] at H
 obtain ⟨rfl, rfl⟩ := H
 go_enter Tryz.func23, Tryz.ntmps23
 go_wp2_with (first | ((with_reducible refine gate_dst (N := 7) rfl ?_); refine box_event ?hg (N := 7) ?hd (cs := #[.slice A0 l0.length c0, .int .i64 0, .int .u64 0]) (t := 84) ?hr ?_; (case hd => rfl); (case hg => rfl); (case hr => exact aq23); intro gb101 hg w4 hbox hb; have n0_ := Aside0.mk (below_step aq0 hb); have n1_ := Aside0.mk ((show IsS84 w _ gb101 l0 0 0 from ⟨_, _, hbox, (by rw [hg]; exact (below_size aq0)), HR0.out⟩)); clear HB; have HB := n0_; have HI101 := n1_; clear n0_ n1_; clear hb hbox hg) | ((with_reducible refine gate_callee (f := 89) rfl ?_); refine goesL_ (some 9) rfl rfl Tryz.func89 (by kernel_rfl) rfl #[.pointer (some ⟨gb101, 0, none⟩)] rfl aq1 ?_; (with_reducible refine (spec_l1Cur_tray.calls k gb101 l0 0 0 t102 t103 t104 w _ ?side1 ?side2 A2.out).mono ?_); (case side1 => exact aq36); (case side2 => exact aq26); rintro e w5 ⟨rfl, hi, hb, hk⟩; refine ⟨_, rfl, ?_⟩; have n0_ := Aside0.mk (hb); have n1_ := Aside0.mk (hi); clear HB; clear HI101; have HB := n0_; have HI101 := n1_; clear n0_ n1_; (try clear hb); (try clear hb2); (try clear hk); (try clear hi)) | ((with_reducible refine gate_dst (N := 11) rfl ?_); refine Kd.R_lit Kd.string _ 9 ?hg (N := 11) ?hd (xs := ([(⟨#[35]⟩ : ByteArray), (⟨#[46]⟩ : ByteArray), (⟨#[111]⟩ : ByteArray), (⟨#[97]⟩ : ByteArray), (⟨#[98]⟩ : ByteArray), (⟨#[103]⟩ : ByteArray), (⟨#[]⟩ : ByteArray), (⟨#[47]⟩ : ByteArray)] : List ByteArray)) (inner := [.string (⟨#[35]⟩ : ByteArray), .string (⟨#[46]⟩ : ByteArray), .string (⟨#[111]⟩ : ByteArray), .string (⟨#[97]⟩ : ByteArray), .string (⟨#[98]⟩ : ByteArray), .string (⟨#[103]⟩ : ByteArray), .string (⟨#[]⟩ : ByteArray), .string (⟨#[47]⟩ : ByteArray)]) (ok := fun _ => True) (okp := fun _ => True) ?hr ?hp (fun _ hk => hk) trivial (Below.refl _ _) (Nat.le_refl _) (by simp) ?_; (case hd => rfl); (case hg => rfl); (case hr => exact aq23); (case hp => exact (Reps.one (show Kd.M Kd.string _ _ _ (⟨#[35]⟩ : ByteArray) [.string (⟨#[35]⟩ : ByteArray)] from rfl) (Reps.one (show Kd.M Kd.string _ _ _ (⟨#[46]⟩ : ByteArray) [.string (⟨#[46]⟩ : ByteArray)] from rfl) (Reps.one (show Kd.M Kd.string _ _ _ (⟨#[111]⟩ : ByteArray) [.string (⟨#[111]⟩ : ByteArray)] from rfl) (Reps.one (show Kd.M Kd.string _ _ _ (⟨#[97]⟩ : ByteArray) [.string (⟨#[97]⟩ : ByteArray)] from rfl) (Reps.one (show Kd.M Kd.string _ _ _ (⟨#[98]⟩ : ByteArray) [.string (⟨#[98]⟩ : ByteArray)] from rfl) (Reps.one (show Kd.M Kd.string _ _ _ (⟨#[103]⟩ : ByteArray) [.string (⟨#[103]⟩ : ByteArray)] from rfl) (Reps.one (show Kd.M Kd.string _ _ _ (⟨#[]⟩ : ByteArray) [.string (⟨#[]⟩ : ByteArray)] from rfl) (Reps.one (show Kd.M Kd.string _ _ _ (⟨#[47]⟩ : ByteArray) [.string (⟨#[47]⟩ : ByteArray)] from rfl) (Reps.none _ _)))))))))); intro v106 w6 ho7 hb hg_ hnew_; clear hg_ hnew_; (first | rw [← Ny105.out] at ho7 | (simp only [Int.reduceToNat] at ho7; rw [← Ny105.out] at ho7)); have n0_ := Aside0.mk (Kd.R_lower ho7 (below_size aq26)); have n1_ := Aside0.mk (IsS84.below aq36 hb); have n2_ := Aside0.mk (below_step aq26 hb); clear HI101; clear HB; have HO107 := n0_; have HI101 := n1_; have HB := n2_; clear n0_ n1_ n2_; clear hb ho7; obtain ⟨Ao8, co8, eo8⟩ := Kd.R_slice HO107.out; subst eo8) | ((with_reducible refine gate_callee (f := 90) rfl ?_); refine goesL_ (some 12) rfl rfl Tryz.func90 (by kernel_rfl) rfl #[.pointer (some ⟨gb101, 0, none⟩), .slice Ao8 y105.length co8] rfl aq1 ?_; (with_reducible refine (spec_l1Cur_of.calls gb101 l0 t103 t104 _ _ y105 t108 t109 t110 w _ ?side1 ?side2 ?side3 ?side4 ?side5 A3.out).mono ?_); (case side1 => exact aq36); (case side2 => exact aq26); (case side3 => exact aq79); (case side4 => exact (Kd.R_reads' HO107.out).2.1); (case side5 => exact far_slice (IsS84.own_ne HI101.out HO107.out (by decide))); rintro e w9 ⟨rfl, hi, hb, hk⟩; refine ⟨_, rfl, ?_⟩; have n0_ := Aside0.mk (Kd.R_mono (Kd.R_keep (IsS84.apart (show IsS84 w _ gb101 l0 t103 t104 from by repeat (first | (with_reducible first | exact HI101.out | apply IsS84.alloc | apply IsS84.drewN | apply IsS84.drew | apply IsS84.set_1 | apply IsS84.set_2) | exact HI101.out)) aq80 (by decide)) hk (fun _ h => h.2)) (fun _ h => h.1)); have n1_ := Aside0.mk (hb); have n2_ := Aside0.mk (hi); clear HO107; clear HB; clear HI101; have HO107 := n0_; have HB := n1_; have HI101 := n2_; clear n0_ n1_ n2_; (try clear hb); (try clear hb2); (try clear hk); (try clear hi)))
 go_ret2
 exact ⟨aq8, aq26⟩
end Go.Proofs.YtipjmlcbbimfpaaGreatDoor.F

namespace Go.Proofs.YtipjmlcbbimfpaaGreatDoor.F
open Go.Proofs.YtipjmlcbbimfpaaGreatDoor
open Go.RowKit Go.Proofs.YtipjmlcbbimfpaaGreatDoorW.PrintWords Go.Proofs.YtipjmlcbbimfpaaGreatDoorW.PrintLast Go.Proofs.YtipjmlcbbimfpaaGreatDoorW.PrintMore
attribute [local go_sem] max2_int min2_int max_two min_two max_three min_three max_four min_four   -- for this text's walks alone
set_option linter.unusedVariables false
set_option linter.unusedSimpArgs false
def spec_DrawPlaceOf.f (k : Nat) (l0 : List Int) : Option (ByteArray × ByteArray) := (spec_l1Cur_tray.f k l0 0 0).bind fun bt102 => ((spec_l1Cur_of.f l0 bt102.2.1 bt102.2.2 (([(⟨#[97]⟩ : ByteArray), (⟨#[98]⟩ : ByteArray), (⟨#[99]⟩ : ByteArray), (⟨#[97]⟩ : ByteArray), (⟨#[111]⟩ : ByteArray), (⟨#[]⟩ : ByteArray)] : List ByteArray))).bind fun bt108 => (some (bt102.1, bt108.1)))
set_option maxHeartbeats 8000000 in
set_option maxRecDepth 100000 in
theorem spec_DrawPlaceOf.calls (k : Nat) (A0 : Option Addr) (c0 : Nat) (l0 : List Int) (r1 : ByteArray) (r2 : ByteArray) (w : World) (hr0 : Kd.C (Kd.int .u8) w A0 l0.length l0) (hc0 : l0.length ≤ c0) (h : spec_DrawPlaceOf.f k l0 = some (r1, r2)) :
  Calls Tryz.prog 25 #[.slice A0 l0.length c0] w fun e w' => e = .returned (.tuple #[.string r1, .string r2]) ∧ Below w.heap.size w w' := by
 have hu84 := Tryz.underlying84
 have HR0 := Aside0.mk hr0
 have HC0 := Aside0.mk hc0
 clear hr0 hc0
 have HB := Aside0.mk (Below.refl w.heap.size w)
 have H : ((spec_l1Cur_tray.f k l0 0 0).bind fun bt102 => ((spec_l1Cur_of.f l0 bt102.2.1 bt102.2.2 (([(⟨#[97]⟩ : ByteArray), (⟨#[98]⟩ : ByteArray), (⟨#[99]⟩ : ByteArray), (⟨#[97]⟩ : ByteArray), (⟨#[111]⟩ : ByteArray), (⟨#[]⟩ : ByteArray)] : List ByteArray))).bind fun bt108 => (some (bt102.1, bt108.1)))) = some (r1, r2) := h
 clear h
 replace H := Option.bind_eq_some_iff.mp H
 obtain ⟨⟨t102, t103, t104⟩, A20, H⟩ := H
 replace H : ((spec_l1Cur_of.f l0 t103 t104 (([(⟨#[97]⟩ : ByteArray), (⟨#[98]⟩ : ByteArray), (⟨#[99]⟩ : ByteArray), (⟨#[97]⟩ : ByteArray), (⟨#[111]⟩ : ByteArray), (⟨#[]⟩ : ByteArray)] : List ByteArray))).bind fun bt108 => (some (t102, bt108.1))) = some (r1, r2) := H
 have A2 := Aside0.mk A20
 clear A20
 obtain ⟨y105, hy105⟩ : ∃ y_ : List ByteArray, y_ = (([(⟨#[97]⟩ : ByteArray), (⟨#[98]⟩ : ByteArray), (⟨#[99]⟩ : ByteArray), (⟨#[97]⟩ : ByteArray), (⟨#[111]⟩ : ByteArray), (⟨#[]⟩ : ByteArray)] : List ByteArray)) := ⟨_, rfl⟩
 replace H : ((spec_l1Cur_of.f l0 t103 t104 y105).bind fun bt108 => (some (t102, bt108.1))) = some (r1, r2) := by first | (rw [hy105]; with_reducible exact H) | (have H2_ := (Option.bind_some _ _).symm.trans H; rw [hy105]; with_reducible exact H2_) | (have H2_ := (Option.bind_some _ _).symm.trans H; with_reducible exact H2_) | with_reducible exact H | (rw [hy105]; exact H) | exact H
 have Ny105 := Aside0.mk hy105
 clear hy105
 replace H := Option.bind_eq_some_iff.mp H
 obtain ⟨⟨t108, t109, t110⟩, A30, H⟩ := H
 replace H : (some (t102, t108)) = some (r1, r2) := H
 have A3 := Aside0.mk A30
 clear A30
 simp only [Option.some.injEq, Prod.mk.injEq] at H
 obtain ⟨rfl, rfl⟩ := H
 go_enter Tryz.func25, Tryz.ntmps25
 go_wp2_with (first | ((with_reducible refine gate_dst (N := 7) rfl ?_); refine box_event ?hg (N := 7) ?hd (cs := #[.slice A0 l0.length c0, .int .i64 0, .int .u64 0]) (t := 84) ?hr ?_; (case hd => rfl); (case hg => rfl); (case hr => exact aq23); intro gb101 hg w4 hbox hb; have n0_ := Aside0.mk (below_step aq0 hb); have n1_ := Aside0.mk ((show IsS84 w _ gb101 l0 0 0 from ⟨_, _, hbox, (by rw [hg]; exact (below_size aq0)), HR0.out⟩)); clear HB; have HB := n0_; have HI101 := n1_; clear n0_ n1_; clear hb hbox hg) | ((with_reducible refine gate_callee (f := 89) rfl ?_); refine goesL_ (some 9) rfl rfl Tryz.func89 (by kernel_rfl) rfl #[.pointer (some ⟨gb101, 0, none⟩)] rfl aq1 ?_; (with_reducible refine (spec_l1Cur_tray.calls k gb101 l0 0 0 t102 t103 t104 w _ ?side1 ?side2 A2.out).mono ?_); (case side1 => exact aq36); (case side2 => exact aq26); rintro e w5 ⟨rfl, hi, hb, hk⟩; refine ⟨_, rfl, ?_⟩; have n0_ := Aside0.mk (hb); have n1_ := Aside0.mk (hi); clear HB; clear HI101; have HB := n0_; have HI101 := n1_; clear n0_ n1_; (try clear hb); (try clear hb2); (try clear hk); (try clear hi)) | ((with_reducible refine gate_dst (N := 11) rfl ?_); refine Kd.R_lit Kd.string _ 9 ?hg (N := 11) ?hd (xs := ([(⟨#[97]⟩ : ByteArray), (⟨#[98]⟩ : ByteArray), (⟨#[99]⟩ : ByteArray), (⟨#[97]⟩ : ByteArray), (⟨#[111]⟩ : ByteArray), (⟨#[]⟩ : ByteArray)] : List ByteArray)) (inner := [.string (⟨#[97]⟩ : ByteArray), .string (⟨#[98]⟩ : ByteArray), .string (⟨#[99]⟩ : ByteArray), .string (⟨#[97]⟩ : ByteArray), .string (⟨#[111]⟩ : ByteArray), .string (⟨#[]⟩ : ByteArray)]) (ok := fun _ => True) (okp := fun _ => True) ?hr ?hp (fun _ hk => hk) trivial (Below.refl _ _) (Nat.le_refl _) (by simp) ?_; (case hd => rfl); (case hg => rfl); (case hr => exact aq23); (case hp => exact (Reps.one (show Kd.M Kd.string _ _ _ (⟨#[97]⟩ : ByteArray) [.string (⟨#[97]⟩ : ByteArray)] from rfl) (Reps.one (show Kd.M Kd.string _ _ _ (⟨#[98]⟩ : ByteArray) [.string (⟨#[98]⟩ : ByteArray)] from rfl) (Reps.one (show Kd.M Kd.string _ _ _ (⟨#[99]⟩ : ByteArray) [.string (⟨#[99]⟩ : ByteArray)] from rfl) (Reps.one (show Kd.M Kd.string _ _ _ (⟨#[97]⟩ : ByteArray) [.string (⟨#[97]⟩ : ByteArray)] from rfl) (Reps.one (show Kd.M Kd.string _ _ _ (⟨#[111]⟩ : ByteArray) [.string (⟨#[111]⟩ : ByteArray)] from rfl) (Reps.one (show Kd.M Kd.string _ _ _ (⟨#[]⟩ : ByteArray) [.string (⟨#[]⟩ : ByteArray)] from rfl) (Reps.none _ _)))))))); intro v106 w6 ho7 hb hg_ hnew_; clear hg_ hnew_; (first | rw [← Ny105.out] at ho7 | (simp only [Int.reduceToNat] at ho7; rw [← Ny105.out] at ho7)); have n0_ := Aside0.mk (Kd.R_lower ho7 (below_size aq26)); have n1_ := Aside0.mk (IsS84.below aq36 hb); have n2_ := Aside0.mk (below_step aq26 hb); clear HI101; clear HB; have HO107 := n0_; have HI101 := n1_; have HB := n2_; clear n0_ n1_ n2_; clear hb ho7; obtain ⟨Ao8, co8, eo8⟩ := Kd.R_slice HO107.out; subst eo8) | ((with_reducible refine gate_callee (f := 90) rfl ?_); refine goesL_ (some 12) rfl rfl Tryz.func90 (by kernel_rfl) rfl #[.pointer (some ⟨gb101, 0, none⟩), .slice Ao8 y105.length co8] rfl aq1 ?_; (with_reducible refine (spec_l1Cur_of.calls gb101 l0 t103 t104 _ _ y105 t108 t109 t110 w _ ?side1 ?side2 ?side3 ?side4 ?side5 A3.out).mono ?_); (case side1 => exact aq36); (case side2 => exact aq26); (case side3 => exact aq79); (case side4 => exact (Kd.R_reads' HO107.out).2.1); (case side5 => exact far_slice (IsS84.own_ne HI101.out HO107.out (by decide))); rintro e w9 ⟨rfl, hi, hb, hk⟩; refine ⟨_, rfl, ?_⟩; have n0_ := Aside0.mk (Kd.R_mono (Kd.R_keep (IsS84.apart (show IsS84 w _ gb101 l0 t103 t104 from by repeat (first | (with_reducible first | exact HI101.out | apply IsS84.alloc | apply IsS84.drewN | apply IsS84.drew | apply IsS84.set_1 | apply IsS84.set_2) | exact HI101.out)) aq80 (by decide)) hk (fun _ h => h.2)) (fun _ h => h.1)); have n1_ := Aside0.mk (hb); have n2_ := Aside0.mk (hi); clear HO107; clear HB; clear HI101; have HO107 := n0_; have HB := n1_; have HI101 := n2_; clear n0_ n1_ n2_; (try clear hb); (try clear hb2); (try clear hk); (try clear hi)))
 go_ret2
 exact ⟨aq8, aq26⟩
end Go.Proofs.YtipjmlcbbimfpaaGreatDoor.F

namespace Go.Proofs.YtipjmlcbbimfpaaGreatDoor.F
open Go.RowKit Go.Proofs.YtipjmlcbbimfpaaGreatDoor Go.Proofs.YtipjmlcbbimfpaaGreatDoorW.PrintWords
set_option linter.unusedVariables false
set_option linter.unusedSimpArgs false
theorem w64d {a : Int} {b : Nat} (h : a = (b : Int)) (hb : b < 1000000) : wrap64 a = (b : Int) := by rw [h]; exact w64 (by omega) (by omega)
def Tot {α : Type} (g : Nat → Option α) (P : α → Prop) : Prop := ∃ r, Ev g r ∧ P r
theorem Tot.bind {α β : Type} {g : Nat → Option α} {f : Nat → α → Option β} {P : α → Prop} {Q : β → Prop} (h : Tot g P) (k : ∀ r, P r → Tot (fun n => f n r) Q) : Tot (fun n => (g n).bind (f n)) Q := by
  obtain ⟨r, h1, h2⟩ := h
  obtain ⟨q, h3, h4⟩ := k r h2
  exact ⟨q, Ev.bind h1 h3, h4⟩
theorem Tot.step {α : Type} {g f : Nat → Option α} {P : α → Prop} (h : ∀ k, g (k + 1) = f k) (k : Tot f P) : Tot g P := by
  obtain ⟨r, h1, h2⟩ := k
  exact ⟨r, Ev.step h h1, h2⟩
theorem Tot.congr {α : Type} {g f : Nat → Option α} {P : α → Prop} (h : ∀ k, g k = f k) (k : Tot f P) : Tot g P := by
  obtain ⟨r, h1, h2⟩ := k
  exact ⟨r, Ev.congr h h1, h2⟩
theorem Tot.now {α : Type} {P : α → Prop} {r : α} (h : P r) : Tot (fun _ => some r) P := ⟨r, Ev.now r, h⟩
theorem Tot.mono {α : Type} {g : Nat → Option α} {P Q : α → Prop} (h : Tot g P) (hpq : ∀ r, P r → Q r) : Tot g Q := by
  obtain ⟨r, h1, h2⟩ := h
  exact ⟨r, h1, hpq r h2⟩
theorem Tot.flat {α β : Type} {g : Option α} {f : Nat → α → Option β} {P : α → Prop} {Q : β → Prop} (h : ∃ r, g = some r ∧ P r) (k : ∀ r, P r → Tot (fun n => f n r) Q) : Tot (fun n => g.bind (f n)) Q := by
  obtain ⟨r, rfl, h2⟩ := h
  exact Tot.congr (fun _ => rfl) (k r h2)
def Bytes (l : List Int) : Prop := ∀ x ∈ l, 0 ≤ x ∧ x < 256
theorem Bytes.at_ {l : List Int} (h : Bytes l) (i : Int) : 0 ≤ rd l i ∧ rd l i < 256 := by
  have e : rd l i = l.getD i.toNat 0 := rfl
  rw [e, List.getD_eq_getElem?_getD]
  cases hx : l[i.toNat]? with
  | none => simp
  | some x => exact h x (List.mem_of_getElem? hx)
theorem low8 (x : Int) : 0 ≤ Go.bits .and .u64 ((IntKind.u64.wrap x) / 1099511627776) 255 ∧ Go.bits .and .u64 ((IntKind.u64.wrap x) / 1099511627776) 255 ≤ 255 := by
  have hx : 0 ≤ IntKind.u64.wrap x ∧ IntKind.u64.wrap x < 18446744073709551616 := by rw [IntKind.wrap_u64]; omega
  obtain ⟨m, hm⟩ := Int.eq_ofNat_of_zero_le (show 0 ≤ (IntKind.u64.wrap x) / 1099511627776 by omega)
  have hm2 : m < 2 ^ 24 := by omega
  rw [hm]
  have h := (Go.bits_nat .u64 24 (by decide) (fun n h0 h1 => by rw [IntKind.wrap_u64]; omega) m 255 hm2 (by decide)).1
  rw [show ((255 : Nat) : Int) = 255 from rfl] at h
  rw [h]
  have := Nat.and_le_right (n := m) (m := 255)
  omega
theorem next_ok {l : List Int} (hl : Bytes l) (s1 s2 : Int) (h0 : 0 ≤ s1) (h1 : s1 ≤ 1000000000) :
    ∃ v s2', spec_l1Cur_next.f l s1 s2 = some (v, s1 + 1, s2') ∧ 0 ≤ v ∧ v ≤ 255 := by
  have hr := hl.at_ s1
  unfold spec_l1Cur_next.f
  rw [w64 (n := s1 + 1) (by omega) (by omega)]
  by_cases hc : s1 < (l.length : Int)
  · rw [if_pos hc, if_pos h0, if_pos (by omega), w64 (n := rd l s1) (by omega) (by omega)]
    exact ⟨_, _, rfl, by omega, by omega⟩
  · rw [if_neg hc, if_neg (by omega)]
    have hb := low8 (IntKind.u64.wrap (IntKind.u64.wrap (s2 * 6364136223846793005)) + 1442695040888963407)
    refine ⟨_, _, rfl, ?_⟩
    rw [w64 (by omega) (by omega)]
    exact hb
theorem pick_ok {l : List Int} (hl : Bytes l) (s1 s2 n : Int) (h0 : 0 ≤ s1) (h1 : s1 ≤ 900000000) (hn : n ≤ 1000000000) :
    ∃ r, spec_l1Cur_pick.f l s1 s2 n = some r ∧ ((0 ≤ r.1 ∧ (r.1 < n ∨ r.1 = 0)) ∧ s1 ≤ r.2.1 ∧ r.2.1 ≤ s1 + 2) := by
  unfold spec_l1Cur_pick.f
  by_cases hc : n ≤ 1
  · rw [if_pos hc]; exact ⟨_, rfl, ⟨by simp, .inr rfl⟩, by simp, by simp; omega⟩
  · rw [if_neg hc]
    obtain ⟨v, s2', e, hv⟩ := next_ok hl s1 s2 h0 (by omega)
    rw [e, Option.bind_some]
    by_cases h2 : n > 200
    · obtain ⟨v2, s2'', e2, hv2⟩ := next_ok hl (s1 + 1) s2' (by omega) (by omega)
      rw [if_pos h2]
      simp only
      rw [e2, Option.bind_some, if_neg (by omega)]
      simp only
      rw [w64 (n := v * 256) (by omega) (by omega), w64 (n := v * 256 + v2) (by omega) (by omega)]
      exact ⟨_, rfl, ⟨Int.tmod_nonneg _ (by omega), .inl (Int.tmod_lt_of_pos _ (by omega))⟩, by simp only; omega, by simp only; omega⟩
    · rw [if_neg h2, if_neg (by omega)]
      exact ⟨_, rfl, ⟨Int.tmod_nonneg _ (by simp only; omega), .inl (Int.tmod_lt_of_pos _ (by omega))⟩, by simp only; omega, by simp only; omega⟩
theorem one_ok {l : List Int} (hl : Bytes l) (s1 s2 n : Int) (h0 : 0 ≤ s1) (h1 : s1 ≤ 900000000) (hn : n ≤ 1000000000) :
    ∃ r, spec_l1Cur_one.f l s1 s2 n = some r ∧ (s1 ≤ r.2.1 ∧ r.2.1 ≤ s1 + 2) := by
  obtain ⟨r, e, _, h⟩ := pick_ok hl s1 s2 n h0 h1 hn
  unfold spec_l1Cur_one.f
  rw [e]
  exact ⟨_, rfl, h⟩
theorem among_ok {l : List Int} (hl : Bytes l) (s1 s2 : Int) (q : List Int) (hq : 0 < q.length) (hq2 : q.length ≤ 1000) (h0 : 0 ≤ s1) (h1 : s1 ≤ 900000000) :
    ∃ r, spec_l1Cur_among.f l s1 s2 q = some r ∧ (r.1 ∈ q ∧ s1 ≤ r.2.1 ∧ r.2.1 ≤ s1 + 2) := by
  obtain ⟨r, e, ⟨hv, hv2⟩, h⟩ := pick_ok hl s1 s2 (q.length : Int) h0 h1 (by omega)
  unfold spec_l1Cur_among.f
  rw [e, Option.bind_some, if_pos hv, if_pos (by omega)]
  refine ⟨_, rfl, ?_, h⟩
  show rd q r.1 ∈ q
  have e2 : rd q r.1 = q.getD r.1.toNat 0 := rfl
  rw [e2, List.getD_eq_getElem?_getD]
  have hlt : r.1.toNat < q.length := by omega
  rw [List.getElem?_eq_getElem hlt]
  exact List.getElem_mem hlt
theorem empty_l0 (w h : Nat) (hw : w ≤ 20) (hh : h ≤ 20) : ∀ (d i : Nat) (acc : List Int), i + d = w * h → acc.length = i →
    Tot (fun k => spec_tyEmpty.l0 k w h i w h acc) (fun r => r.1 = w ∧ r.2.1 = h ∧ r.2.2.length = w * h) := by
  have hwh : w * h ≤ 20 * 20 := Nat.mul_le_mul hw hh
  have e1 : wrap64 ((w : Int) * h) = ((w * h : Nat) : Int) := by rw [← Int.natCast_mul]; exact w64 (by omega) (by omega)
  intro d
  induction d with
  | zero =>
    intro i acc hi ha
    refine Tot.step (f := fun _ => some ((w : Int), (h : Int), acc)) (fun k => ?_) (Tot.now ⟨rfl, rfl, by simp only; omega⟩)
    rw [spec_tyEmpty.l0, e1, if_neg (by clear e1; omega)]
  | succ d ih =>
    intro i acc hi ha
    refine Tot.step (fun k => ?_) (ih (i + 1) (acc ++ [46]) (by clear e1; omega) (by simp [ha]))
    rw [spec_tyEmpty.l0, e1, if_pos (by clear e1; omega), if_pos (by clear e1; omega), w64d (b := i + 1) (by clear e1; omega) (by clear e1; omega)]
theorem empty_tot (w h : Nat) (hw : w ≤ 20) (hh : h ≤ 20) : Tot (fun k => spec_tyEmpty.f k w h) (fun r => r.1 = w ∧ r.2.1 = h ∧ r.2.2.length = w * h) :=
  empty_l0 w h hw hh (w * h) 0 [] (by omega) rfl
theorem strOfNums_size (l : List Int) : (strOfNums l).size = l.length := by
  unfold strOfNums
  show (Array.size _) = _
  simp
theorem text_l0 (w h : Nat) (cs : List Int) (hw : w ≤ 20) (hh : h ≤ 20) (hl : cs.length = w * h) : ∀ (d i : Nat) (s : ByteArray), i + d = h → s.size ≤ i * (w + 1) →
    Tot (fun k => spec_tyText.l0 k s i w h cs) (fun r => r.size ≤ h * (w + 1)) := by
  have hwh : w * h ≤ 20 * 20 := Nat.mul_le_mul hw hh
  intro d
  induction d with
  | zero =>
    intro i s hi hs
    obtain rfl : i = h := by omega
    refine Tot.step (f := fun _ => some s) (fun k => ?_) (Tot.now hs)
    rw [spec_tyText.l0, if_neg (by omega)]
  | succ d ih =>
    intro i s hi hs
    have hiw : i * (w + 1) ≤ 20 * 21 := Nat.mul_le_mul (by omega) (by omega)
    have hi2 : (i + 1) * w ≤ w * h := by rw [Nat.mul_comm w h]; exact Nat.mul_le_mul_right w (by omega)
    have hi3 : (i + 1) * w = i * w + w := by rw [Nat.add_mul, Nat.one_mul]
    have hi4 : (i + 1) * (w + 1) = i * (w + 1) + (w + 1) := by rw [Nat.add_mul, Nat.one_mul]
    have e1 : wrap64 ((i : Int) * w) = ((i * w : Nat) : Int) := by rw [← Int.natCast_mul]; exact w64 (by omega) (by omega)
    have e2 : wrap64 ((((i + 1 : Nat) : Int)) * w) = (((i + 1) * w : Nat) : Int) := by rw [← Int.natCast_mul]; exact w64 (by clear e1; omega) (by clear e1; omega)
    have e3 : wrap64 ((i : Int) + 1) = ((i + 1 : Nat) : Int) := w64d (by clear e1 e2; omega) (by clear e1 e2; omega)
    have hrow : (strOfNums ((cs.take ((i + 1) * w)).drop (i * w))).size = w := by
      rw [strOfNums_size, List.length_drop, List.length_take]; clear e1 e2 e3; omega
    by_cases h0 : (i : Int) > 0
    · refine Tot.step (fun k => ?_) (ih (i + 1) ((s ++ (⟨#[47]⟩ : ByteArray)) ++ strOfNums ((cs.take ((i + 1) * w)).drop (i * w))) (by clear e1 e2 e3; omega) ?_)
      · rw [spec_tyText.l0, e3, e1, e2]
        clear e1 e2 e3
        rw [if_pos (by omega), if_pos h0, if_pos (by omega), if_pos (by omega), if_pos (by omega), if_pos (by omega), Int.toNat_natCast, Int.toNat_natCast, if_pos]
        rw [ByteArray.size_append, hrow]
        show s.size + 1 + w ≤ _
        omega
      · rw [ByteArray.size_append, ByteArray.size_append, hrow]
        show s.size + 1 + w ≤ _
        clear e1 e2 e3
        omega
    · refine Tot.step (fun k => ?_) (ih (i + 1) (s ++ strOfNums ((cs.take ((i + 1) * w)).drop (i * w))) (by clear e1 e2 e3; omega) ?_)
      · rw [spec_tyText.l0, e3, e1, e2]
        clear e1 e2 e3
        rw [if_pos (by omega), if_neg h0, if_pos (by omega), if_pos (by omega), if_pos (by omega), Int.toNat_natCast, Int.toNat_natCast, if_pos]
        rw [hrow]
        omega
      · rw [ByteArray.size_append, hrow]
        clear e1 e2 e3
        omega
theorem text_tot (w h : Nat) (cs : List Int) (hw : w ≤ 20) (hh : h ≤ 20) (hl : cs.length = w * h) : Tot (fun k => spec_tyText.f k w h cs) (fun r => r.size ≤ 420) := by
  refine Tot.mono (text_l0 w h cs hw hh hl h 0 ⟨#[]⟩ (by omega) (by simp; rfl)) (fun r hr => ?_)
  have : h * (w + 1) ≤ 20 * 21 := Nat.mul_le_mul hh (by omega)
  omega
def G (w h : Nat) (lo hi : Int) (r : Int × Int × List Int × Int × Int) : Prop := r.1 = w ∧ r.2.1 = h ∧ r.2.2.1.length = w * h ∧ lo ≤ r.2.2.2.1 ∧ r.2.2.2.1 ≤ hi
theorem grid_l1 {l : List Int} (hl : Bytes l) (w h : Nat) (hwh : 0 < w * h) (hwh2 : w * h ≤ 400) : ∀ (m : Nat) (x : ByteArray) (s1 s2 : Int) (cs : List Int), cs.length = w * h → 0 ≤ s1 → s1 + 4 * m ≤ 800000000 →
    Tot (fun k => spec_l1Cur_grid.l1 k x m l s1 s2 w h cs) (G w h s1 (s1 + 4 * m)) := by
  intro m
  induction m with
  | zero =>
    intro x s1 s2 cs hcs h0 h1
    refine Tot.step (f := fun _ => some ((w : Int), (h : Int), cs, s1, s2)) (fun k => ?_) (Tot.now ⟨rfl, rfl, hcs, by simp, by simp⟩)
    rw [spec_l1Cur_grid.l1, if_neg (by omega)]
  | succ m ih =>
    intro x s1 s2 cs hcs h0 h1
    have em : wrap64 (((m + 1 : Nat) : Int) - 1) = (m : Int) := by rw [show ((m + 1 : Nat) : Int) - 1 = (m : Int) by omega]; exact w64 (by omega) (by omega)
    refine Tot.step (f := fun k => (spec_l1Cur_pick.f l s1 s2 (cs.length : Int)).bind fun bt124 => (if 0 ≤ bt124.1 then (if bt124.1 < (cs.length : Int) then (if (rd cs bt124.1) = 46 then ((some (cs.set (bt124.1 : Int).toNat 111 : List Int)).bind fun y128 => ((spec_l1Cur_one.f l bt124.2.1 bt124.2.2 2).bind fun bt129 => (if bt129.1 = true then (if (x.size : Int) > 0 then (if 0 < (x.size : Int) then (if 1 ≤ (x.size : Int) then (spec_l1Cur_grid.l1 k (x.extract 1 x.size) m l bt129.2.1 bt129.2.2 w h (y128.set (bt124.1 : Int).toNat (bt x 0))) else (none)) else (none)) else (spec_l1Cur_grid.l1 k x m l bt129.2.1 bt129.2.2 w h y128)) else (spec_l1Cur_grid.l1 k x m l bt129.2.1 bt129.2.2 w h y128)))) else (spec_l1Cur_grid.l1 k x m l bt124.2.1 bt124.2.2 w h cs)) else (none)) else (none))) (fun k => ?_) ?_
    · rw [spec_l1Cur_grid.l1, if_pos (by clear em; omega), em]
    · clear em
      refine Tot.flat (pick_ok hl s1 s2 (cs.length : Int) h0 (by omega) (by omega)) ?_
      rintro ⟨v, a1, a2⟩ ⟨⟨hv, hv2⟩, ha, ha2⟩
      simp only at hv hv2 ha ha2 ⊢
      have hvl : v < (cs.length : Int) := by omega
      simp only [if_pos hv, if_pos hvl]
      have wide : ∀ (b : Int), s1 ≤ b → b ≤ s1 + 4 → ∀ r, G w h b (b + 4 * m) r → G w h s1 (s1 + 4 * (m + 1 : Nat)) r := by
        rintro b hb1 hb2 r ⟨q1, q2, q3, q4, q5⟩
        exact ⟨q1, q2, q3, by omega, by omega⟩
      by_cases hc : rd cs v = 46
      · simp only [if_pos hc, Option.bind_some]
        refine Tot.flat (one_ok hl a1 a2 2 (by omega) (by omega) (by omega)) ?_
        rintro ⟨b, b1, b2⟩ ⟨hb, hb2⟩
        simp only at hb hb2 ⊢
        have next := fun x' cs' hcs' => Tot.mono (ih x' b1 b2 cs' hcs' (by omega) (by omega)) (wide b1 (by omega) (by omega))
        by_cases hb3 : b = true
        · simp only [if_pos hb3]
          by_cases hx : (x.size : Int) > 0
          · simp only [if_pos hx, if_pos (show 0 < (x.size : Int) by omega), if_pos (show 1 ≤ (x.size : Int) by omega)]
            exact next _ _ (by simpa using hcs)
          · simp only [if_neg hx]
            exact next _ _ (by simpa using hcs)
        · simp only [if_neg hb3]
          exact next _ _ (by simpa using hcs)
      · simp only [if_neg hc]
        exact Tot.mono (ih x a1 a2 cs hcs (by omega) (by omega)) (wide a1 (by omega) (by omega))
theorem grid_l0 {l : List Int} (hl : Bytes l) (w h : Nat) (hwh : 0 < w * h) (hwh2 : w * h ≤ 400) (x3 : Int) (hx3 : 0 ≤ x3 ∧ x3 ≤ 100) : ∀ (m : Nat) (s1 s2 : Int) (cs : List Int), cs.length = w * h → 0 ≤ s1 → s1 + 4 * m ≤ 700000000 →
    Tot (fun k => spec_l1Cur_grid.l0 k x3 m l s1 s2 w h cs) (G w h s1 (s1 + 4 * m + 1000)) := by
  intro m
  induction m with
  | zero =>
    intro s1 s2 cs hcs h0 h1
    refine Tot.step (f := fun k => (spec_l1Cur_pick.f l s1 s2 (wrap64 (x3 + 1))).bind fun bt121 => spec_l1Cur_grid.l1 k (⟨#[97, 98, 99, 100, 101, 102]⟩ : ByteArray) bt121.1 l bt121.2.1 bt121.2.2 w h cs) (fun k => ?_) ?_
    · rw [spec_l1Cur_grid.l0, if_neg (by omega)]
    · rw [w64 (by omega) (by omega)]
      refine Tot.flat (pick_ok hl s1 s2 (x3 + 1) h0 (by omega) (by omega)) ?_
      rintro ⟨v, a1, a2⟩ ⟨⟨hv, hv2⟩, ha, ha2⟩
      simp only at hv hv2 ha ha2 ⊢
      obtain ⟨v', rfl⟩ := Int.eq_ofNat_of_zero_le hv
      refine Tot.mono (grid_l1 hl w h hwh hwh2 v' _ a1 a2 cs hcs (by omega) (by omega)) ?_
      rintro r ⟨q1, q2, q3, q4, q5⟩
      exact ⟨q1, q2, q3, by omega, by omega⟩
  | succ m ih =>
    intro s1 s2 cs hcs h0 h1
    have em : wrap64 (((m + 1 : Nat) : Int) - 1) = (m : Int) := by rw [show ((m + 1 : Nat) : Int) - 1 = (m : Int) by omega]; exact w64 (by omega) (by omega)
    refine Tot.step (f := fun k => (spec_l1Cur_pick.f l s1 s2 (cs.length : Int)).bind fun bt117 => (if 0 ≤ bt117.1 then (if bt117.1 < (cs.length : Int) then (spec_l1Cur_grid.l0 k x3 m l bt117.2.1 bt117.2.2 w h (cs.set (bt117.1 : Int).toNat 35)) else (none)) else (none))) (fun k => ?_) ?_
    · rw [spec_l1Cur_grid.l0, if_pos (by clear em; omega), em]
    · clear em
      refine Tot.flat (pick_ok hl s1 s2 (cs.length : Int) h0 (by omega) (by omega)) ?_
      rintro ⟨v, a1, a2⟩ ⟨⟨hv, hv2⟩, ha, ha2⟩
      simp only at hv hv2 ha ha2 ⊢
      have hvl : v < (cs.length : Int) := by omega
      simp only [if_pos hv, if_pos hvl]
      refine Tot.mono (ih a1 a2 (cs.set v.toNat 35) (by simpa using hcs) (by omega) (by omega)) ?_
      rintro r ⟨q1, q2, q3, q4, q5⟩
      exact ⟨q1, q2, q3, by omega, by omega⟩
theorem grid_tot {l : List Int} (hl : Bytes l) (s1 s2 : Int) (h0 : 0 ≤ s1) (h1 : s1 ≤ 600000000) (a b c : Int) (ha : 1 ≤ a ∧ a ≤ 19) (hb : 1 ≤ b ∧ b ≤ 19) (hc : 0 ≤ c ∧ c ≤ 100) :
    Tot (fun k => spec_l1Cur_grid.f k l s1 s2 a b c) (fun r => ∃ w h : Nat, w ≤ 20 ∧ h ≤ 20 ∧ G w h s1 (s1 + 5000) r) := by
  refine Tot.congr (fun k => by rw [spec_l1Cur_grid.f]) ?_
  refine Tot.flat (pick_ok hl s1 s2 a h0 (by omega) (by omega)) ?_
  rintro ⟨v, a1, a2⟩ ⟨⟨hv, hv2⟩, ha1, ha2⟩
  simp only at hv hv2 ha1 ha2 ⊢
  refine Tot.flat (pick_ok hl a1 a2 b (by omega) (by omega) (by omega)) ?_
  rintro ⟨v', b1, b2⟩ ⟨⟨hv', hv2'⟩, hb1, hb2⟩
  simp only at hv' hv2' hb1 hb2 ⊢
  obtain ⟨x, rfl⟩ := Int.eq_ofNat_of_zero_le hv
  obtain ⟨y, rfl⟩ := Int.eq_ofNat_of_zero_le hv'
  rw [w64d (a := 1 + (x : Int)) (b := 1 + x) (by omega) (by omega), w64d (a := 1 + (y : Int)) (b := 1 + y) (by omega) (by omega)]
  refine Tot.bind (empty_tot (1 + x) (1 + y) (by omega) (by omega)) ?_
  rintro ⟨r1, r2, cs⟩ ⟨e1, e2, e3⟩
  simp only at e1 e2 e3 ⊢
  subst e1 e2
  have hle : (1 + x) * (1 + y) ≤ 20 * 20 := Nat.mul_le_mul (by omega) (by omega)
  have hge : 1 * 1 ≤ (1 + x) * (1 + y) := Nat.mul_le_mul (by omega) (by omega)
  rw [e3, w64d (a := (((1 + x) * (1 + y) : Nat) : Int) / 3) (b := (1 + x) * (1 + y) / 3) (by omega) (by omega), w64d (a := 2 + (((1 + x) * (1 + y) / 3 : Nat) : Int)) (b := 2 + (1 + x) * (1 + y) / 3) (by omega) (by omega)]
  refine Tot.flat (pick_ok hl b1 b2 _ (by omega) (by omega) (by omega)) ?_
  rintro ⟨v'', c1, c2⟩ ⟨⟨hv'', hv2''⟩, hc1, hc2⟩
  simp only at hv'' hv2'' hc1 hc2 ⊢
  obtain ⟨z, rfl⟩ := Int.eq_ofNat_of_zero_le hv''
  refine Tot.mono (grid_l0 hl (1 + x) (1 + y) (by omega) (by omega) c hc z c1 c2 cs e3 (by omega) (by omega)) ?_
  rintro r ⟨q1, q2, q3, q4, q5⟩
  exact ⟨1 + x, 1 + y, by omega, by omega, q1, q2, q3, by omega, by omega⟩
theorem extract_size (x : ByteArray) (i j : Nat) : (x.extract i j).size = min j x.size - i := by
  exact ByteArray.size_extract
theorem spoilt_l0 {l : List Int} (hl : Bytes l) (x2 : ByteArray) (hx2 : x2.size = 9) : ∀ (m : Nat) (x : ByteArray) (s1 s2 : Int), x.size + m ≤ 2000 → 0 ≤ s1 → s1 + 10 * m ≤ 500000000 →
    Tot (fun k => spec_l1Cur_spoilt.l0 k x x2 m l s1 s2) (fun r => r.1.size ≤ x.size + m ∧ s1 ≤ r.2.1 ∧ r.2.1 ≤ s1 + 10 * m) := by
  intro m
  induction m with
  | zero =>
    intro x s1 s2 hx h0 h1
    refine Tot.step (f := fun k => spec_l1Cur_spoilt.j1 k x x2 ((0 : Nat) : Int) false l s1 s2) (fun k => by rw [spec_l1Cur_spoilt.l0, if_neg (by omega)]) ?_
    refine Tot.step (f := fun _ => some (x, s1, s2)) (fun k => by rw [spec_l1Cur_spoilt.j1, if_neg (by decide)]) (Tot.now ⟨by simp only; omega, by simp only; omega, by simp only; omega⟩)
  | succ m ih =>
    intro x s1 s2 hx h0 h1
    refine Tot.step (f := fun k => spec_l1Cur_spoilt.j1 k x x2 ((m + 1 : Nat) : Int) (decide ((x.size : Int) > 0)) l s1 s2) (fun k => by rw [spec_l1Cur_spoilt.l0, if_pos (by omega)]) ?_
    by_cases hx0 : (x.size : Int) > 0
    · rw [decide_eq_true hx0]
      refine Tot.step (fun k => by rw [spec_l1Cur_spoilt.j1, if_pos rfl]) ?_
      refine Tot.flat (pick_ok hl s1 s2 (x.size : Int) h0 (by omega) (by omega)) ?_
      rintro ⟨v, a1, a2⟩ ⟨⟨hv, hv2⟩, ha, ha2⟩
      simp only at hv hv2 ha ha2 ⊢
      refine Tot.flat (pick_ok hl a1 a2 (x2.size : Int) (by omega) (by omega) (by omega)) ?_
      rintro ⟨u, b1, b2⟩ ⟨⟨hu, hu2⟩, hb, hb2⟩
      simp only at hu hu2 hb hb2 ⊢
      have hu3 : u < (x2.size : Int) := by omega
      simp only [if_pos hu, if_pos hu3, Option.bind_some]
      refine Tot.flat (pick_ok hl b1 b2 3 (by omega) (by omega) (by omega)) ?_
      rintro ⟨z, c1, c2⟩ ⟨_, hc, hc2⟩
      simp only at hc hc2 ⊢
      obtain ⟨v', rfl⟩ := Int.eq_ofNat_of_zero_le hv
      have hvl : (v' : Int) < (x.size : Int) := by omega
      have hvl2 : (v' : Int) ≤ (x.size : Int) := by omega
      have e1 : wrap64 ((v' : Int) + 1) = ((v' + 1 : Nat) : Int) := w64d (by omega) (by omega)
      have em : wrap64 (((m + 1 : Nat) : Int) - 1) = (m : Int) := w64d (by omega) (by omega)
      simp only [e1, em, Int.toNat_natCast, if_pos hv, if_pos hvl2]
      clear e1 em
      have one : (strOfNums [bt x2 u]).size = 1 := strOfNums_size _
      have i1 : (0 : Int) ≤ ((v' + 1 : Nat) : Int) := by omega
      have i2 : ((v' + 1 : Nat) : Int) ≤ (x.size : Int) := by omega
      have f1 : (x.extract 0 v').size = v' := by rw [extract_size]; omega
      have f2 : (x.extract v' x.size).size = x.size - v' := by rw [extract_size]; omega
      have f3 : (x.extract (v' + 1) x.size).size = x.size - (v' + 1) := by rw [extract_size]; omega
      have next := fun (x' : ByteArray) (hx' : x'.size ≤ x.size + 1) => Tot.mono (ih x' c1 c2 (by omega) (by omega) (by omega)) (Q := fun r => r.1.size ≤ x.size + (m + 1 : Nat) ∧ s1 ≤ r.2.1 ∧ r.2.1 ≤ s1 + 10 * (m + 1 : Nat)) (fun r hr => ⟨by omega, by omega, by omega⟩)
      by_cases z0 : z = 0
      · simp only [if_pos z0]
        have t1 : (x.extract 0 v').size + (strOfNums [bt x2 u]).size ≤ 9223372036854775807 := by omega
        have t2 : ((x.extract 0 v') ++ (strOfNums [bt x2 u])).size + (x.extract v' x.size).size ≤ 9223372036854775807 := by rw [ByteArray.size_append]; omega
        simp only [if_pos t1, if_pos t2]
        refine next _ ?_
        rw [ByteArray.size_append, ByteArray.size_append]; omega
      · simp only [if_neg z0]
        by_cases z1 : z = 1
        · simp only [if_pos z1]
          have t1 : (x.extract 0 v').size + (strOfNums [bt x2 u]).size ≤ 9223372036854775807 := by omega
          have t2 : ((x.extract 0 v') ++ (strOfNums [bt x2 u])).size + (x.extract (v' + 1) x.size).size ≤ 9223372036854775807 := by rw [ByteArray.size_append]; omega
          simp only [if_pos t1, if_pos i1, if_pos i2, if_pos t2]
          refine next _ ?_
          rw [ByteArray.size_append, ByteArray.size_append]; omega
        · simp only [if_neg z1]
          have t2 : (x.extract 0 v').size + (x.extract (v' + 1) x.size).size ≤ 9223372036854775807 := by omega
          simp only [if_pos i1, if_pos i2, if_pos t2]
          refine next _ ?_
          rw [ByteArray.size_append]; omega
    · rw [decide_eq_false hx0]
      refine Tot.step (f := fun _ => some (x, s1, s2)) (fun k => by rw [spec_l1Cur_spoilt.j1, if_neg (by decide)]) (Tot.now ⟨by simp only; omega, by simp only; omega, by simp only; omega⟩)
theorem tray_tot {l : List Int} (hl : Bytes l) (s1 s2 : Int) (h0 : 0 ≤ s1) (h1 : s1 ≤ 400000000) :
    Tot (fun k => spec_l1Cur_tray.f k l s1 s2) (fun r => r.1.size ≤ 1000 ∧ s1 ≤ r.2.1 ∧ r.2.1 ≤ s1 + 10000) := by
  refine Tot.congr (fun k => by rw [spec_l1Cur_tray.f]) ?_
  refine Tot.bind (grid_tot hl s1 s2 h0 (by omega) 5 5 6 (by decide) (by decide) (by decide)) ?_
  rintro ⟨r1, r2, cs, a1, a2⟩ ⟨w, h, hw, hh, e1, e2, e3, ha, ha2⟩
  simp only at e1 e2 e3 ha ha2 ⊢
  subst e1 e2
  refine Tot.bind (text_tot w h cs hw hh e3) ?_
  intro t ht
  refine Tot.flat (pick_ok hl a1 a2 16 (by omega) (by omega) (by omega)) ?_
  rintro ⟨v, b1, b2⟩ ⟨_, hb, hb2⟩
  simp only at hb hb2 ⊢
  by_cases v0 : v = 0
  · simp only [if_pos v0]
    refine Tot.bind (P := fun r => r.1.size ≤ 1000 ∧ s1 ≤ r.2.1 ∧ r.2.1 ≤ s1 + 10000) ?_ (fun r hr => Tot.now hr)
    refine Tot.congr (fun k => by rw [spec_l1Cur_spoilt.f]) ?_
    refine Tot.flat (pick_ok hl b1 b2 2 (by omega) (by omega) (by omega)) ?_
    rintro ⟨u, c1, c2⟩ ⟨⟨hu, hu2⟩, hc, hc2⟩
    simp only at hu hu2 hc hc2 ⊢
    obtain ⟨u', rfl⟩ := Int.eq_ofNat_of_zero_le hu
    rw [w64d (a := 1 + (u' : Int)) (b := 1 + u') (by omega) (by omega)]
    refine Tot.mono (spoilt_l0 hl _ rfl (1 + u') t c1 c2 (by omega) (by omega) (by omega)) ?_
    intro r hr
    exact ⟨by omega, by omega, by omega⟩
  · simp only [if_neg v0]
    by_cases v1 : v = 1
    · simp only [if_pos v1]
      refine Tot.flat (pick_ok hl b1 b2 2 (by omega) (by omega) (by omega)) ?_
      rintro ⟨u, c1, c2⟩ ⟨⟨hu, hu2⟩, hc, hc2⟩
      simp only at hu hu2 hc hc2 ⊢
      obtain ⟨u', rfl⟩ := Int.eq_ofNat_of_zero_le hu
      rw [w64d (a := 6 + (u' : Int)) (b := 6 + u') (by omega) (by omega)]
      refine Tot.bind (empty_tot 6 (6 + u') (by omega) (by omega)) ?_
      rintro ⟨q1, q2, cs'⟩ ⟨f1, f2, f3⟩
      simp only at f1 f2 f3 ⊢
      subst f1 f2
      refine Tot.bind (text_tot 6 (6 + u') cs' (by omega) (by omega) f3) ?_
      intro t' ht'
      exact Tot.now ⟨by simp only; omega, by simp only; omega, by simp only; omega⟩
    · simp only [if_neg v1]
      by_cases v2 : v = 2
      · simp only [if_pos v2]
        refine Tot.flat (among_ok hl b1 b2 [7, 8] (by decide) (by decide) (by omega) (by omega)) ?_
        rintro ⟨u, c1, c2⟩ ⟨hu, hc, hc2⟩
        simp only at hu hc hc2 ⊢
        obtain ⟨u', rfl, hu'⟩ : ∃ u' : Nat, u = u' ∧ u' ≤ 8 := by
          rcases List.mem_cons.1 hu with h | h
          · exact ⟨7, h, by decide⟩
          · exact ⟨8, List.mem_singleton.1 h, by decide⟩
        refine Tot.bind (empty_tot u' 5 (by omega) (by omega)) ?_
        rintro ⟨q1, q2, cs'⟩ ⟨f1, f2, f3⟩
        simp only at f1 f2 f3 ⊢
        subst f1 f2
        refine Tot.bind (text_tot u' 5 cs' (by omega) (by omega) f3) ?_
        intro t' ht'
        exact Tot.now ⟨by simp only; omega, by simp only; omega, by simp only; omega⟩
      · simp only [if_neg v2]
        exact Tot.now ⟨by simp only; omega, by simp only; omega, by simp only; omega⟩
end Go.Proofs.YtipjmlcbbimfpaaGreatDoor.F

namespace Go.Proofs.YtipjmlcbbimfpaaGreatDoor.F
open Go.Proofs.YtipjmlcbbimfpaaGreatDoor
open Go.RowKit Go.Proofs.YtipjmlcbbimfpaaGreatDoorW.PrintWords Go.Proofs.YtipjmlcbbimfpaaGreatDoorW.PrintLast Go.Proofs.YtipjmlcbbimfpaaGreatDoorW.PrintMore
attribute [local go_sem] max2_int min2_int max_two min_two max_three min_three max_four min_four   -- for this text's walks alone
set_option linter.unusedVariables false
set_option linter.unusedSimpArgs false
def laws_big.f (l0 : List Int) (l1 : List Int) : Option (Bool) := if (l0.length : Int) > 1048576 then (some true) else (some (decide ((l1.length : Int) > (wrap64 (1048576 - (l0.length : Int))))))
set_option maxHeartbeats 8000000 in
set_option maxRecDepth 100000 in
theorem laws_big.calls (A0 : Option Addr) (c0 : Nat) (l0 : List Int) (A1 : Option Addr) (c1 : Nat) (l1 : List Int) (r : Bool) (w : World) (hr0 : Kd.C (Kd.int .u8) w A0 l0.length l0) (hc0 : l0.length ≤ c0) (hr1 : Kd.C (Kd.int .u8) w A1 l1.length l1) (hc1 : l1.length ≤ c1) (h : laws_big.f l0 l1 = some r) :
  Calls Tryz.prog 6 #[.slice A0 l0.length c0, .slice A1 l1.length c1] w fun e w' => e = .returned (.bool r) ∧ Drawn0 w w' := by
 have HR0 := Aside0.mk hr0
 have HC0 := Aside0.mk hc0
 clear hr0 hc0
 have HR1 := Aside0.mk hr1
 have HC1 := Aside0.mk hc1
 clear hr1 hc1
 have H : (if (l0.length : Int) > 1048576 then (some true) else (some (decide ((l1.length : Int) > (wrap64 (1048576 - (l0.length : Int))))))) = some r := h
 clear h
 by_cases c3 : (l0.length : Int) > 1048576
 ·rw [if_pos c3] at H
  have c3b0 : decide (1048576 < (l0.length : Int)) = true := decide_eq_true c3
  have c3b1 : decide (1048576 < l0.length) = true := decide_eq_true (by omega)
  clear c3
  obtain rfl := Option.some.inj H
  go_enter Tryz.func6, Tryz.ntmps6
  go_wp2
  go_ret
  exact ⟨aq11, aq29⟩
 ·rw [if_neg c3] at H
  have c3b0 : decide (1048576 < (l0.length : Int)) = false := decide_eq_false c3
  have c3b1 : decide (1048576 < l0.length) = false := decide_eq_false (by omega)
  clear c3
  obtain rfl := Option.some.inj H
  go_enter Tryz.func6, Tryz.ntmps6
  go_wp2
  go_ret
  exact ⟨aq11, aq29⟩
end Go.Proofs.YtipjmlcbbimfpaaGreatDoor.F

namespace Go.Proofs.YtipjmlcbbimfpaaGreatDoor.F
open Go.Proofs.YtipjmlcbbimfpaaGreatDoor
open Go.RowKit Go.Proofs.YtipjmlcbbimfpaaGreatDoorW.PrintWords Go.Proofs.YtipjmlcbbimfpaaGreatDoorW.PrintLast Go.Proofs.YtipjmlcbbimfpaaGreatDoorW.PrintMore
attribute [local go_sem] max2_int min2_int max_two min_two max_three min_three max_four min_four   -- for this text's walks alone
set_option linter.unusedVariables false
set_option linter.unusedSimpArgs false
def spec_tyGood.f (k : Nat) (a0 : ByteArray) : Option (Bool) := (spec_tyRead.f k a0).bind fun bt101 => (some bt101.2.2.2)
set_option maxHeartbeats 8000000 in
set_option maxRecDepth 100000 in
theorem spec_tyGood.calls (k : Nat) (a0 : ByteArray) (r : Bool) (w : World) (h : spec_tyGood.f k a0 = some r) :
  Calls Tryz.prog 87 #[.string a0] w fun e w' => e = .returned (.bool r) ∧ Below w.heap.size w w' := by
 have hu66 := Tryz.underlying66
 have HB := Aside0.mk (Below.refl w.heap.size w)
 have H : ((spec_tyRead.f k a0).bind fun bt101 => (some bt101.2.2.2)) = some r := h
 clear h
 replace H := Option.bind_eq_some_iff.mp H
 obtain ⟨⟨t101, t102, t103, t106⟩, A20, H⟩ := H
 replace H : (some t106) = some r := H
 have A2 := Aside0.mk A20
 clear A20
 obtain rfl := Option.some.inj H
 go_enter Tryz.func87, Tryz.ntmps87
 go_wp2_with (first | ((with_reducible refine gate_callee (f := 72) rfl ?_); refine goesL_ (some 7) rfl rfl Tryz.func72 (by kernel_rfl) rfl #[.string a0] rfl aq1 ?_; (with_reducible refine (spec_tyRead.calls k a0 t101 t102 t103 t106 _ A2.out).mono ?_); rintro e w3 ⟨v104, rfl, ho0, hb⟩; refine ⟨_, rfl, ?_⟩; have n0_ := Aside0.mk (Kd.R_lower ho0 (below_size aq0)); have n1_ := Aside0.mk (below_step aq0 hb); clear HB; have HO105 := n0_; have HB := n1_; clear n0_ n1_; (try clear hb); (try clear hb2); (try clear hk); (try clear hi); (try clear ho0)) | ((with_reducible refine gate_dst (N := 3) rfl ?_); refine box_event ?hg (N := 3) ?hd (cs := #[.int .i64 0, .int .i64 0, .slice none 0 0]) (t := 66) ?hr ?_; (case hd => rfl); (case hg => rfl); (case hr => exact aq23); intro gb107 hg w4 hbox hb; have n0_ := Aside0.mk (Kd.R_below aq15 hb); have n1_ := Aside0.mk (below_step aq0 hb); have n2_ := Aside0.mk (hbox); have n3_ := Aside0.mk ((by rw [hg]; exact (below_size aq0) : w.heap.size ≤ gb107)); have n4_ := Aside0.mk ((by rw [hg]; exact (below_size aq0) : w.heap.size ≤ gb107)); clear HO105; clear HB; have HO105 := n0_; have HB := n1_; have BK107 := n2_; have GW107 := n3_; have GE107 := n4_; clear n0_ n1_ n2_ n3_ n4_; clear hb hbox hg; have hcz5_0 : w4.cell? ⟨gb107, 0, none⟩ = some (.int .i64 0) := (blk_cell BK107.out 0).trans rfl; have hcz5_1 : w4.cell? ⟨gb107, 1, none⟩ = some (.int .i64 0) := (blk_cell BK107.out 1).trans rfl; have hcz5_2 : w4.cell? ⟨gb107, 2, none⟩ = some (.slice none 0 0) := (blk_cell BK107.out 2).trans rfl; have hfz5_0 := blk_frozen BK107.out 0; have hfz5_1 := blk_frozen BK107.out 1; have hfz5_2 := blk_frozen BK107.out 2; obtain ⟨Ao6, co6, eo6⟩ := Kd.R_slice HO105.out; subst eo6))
 go_ret
 exact ⟨aq8, aq10⟩
end Go.Proofs.YtipjmlcbbimfpaaGreatDoor.F

namespace Go.Proofs.YtipjmlcbbimfpaaGreatDoor.F
open Go.Proofs.YtipjmlcbbimfpaaGreatDoor
open Go.RowKit Go.Proofs.YtipjmlcbbimfpaaGreatDoorW.PrintWords Go.Proofs.YtipjmlcbbimfpaaGreatDoorW.PrintLast Go.Proofs.YtipjmlcbbimfpaaGreatDoorW.PrintMore
attribute [local go_sem] max2_int min2_int max_two min_two max_three min_three max_four min_four   -- for this text's walks alone
set_option linter.unusedVariables false
set_option linter.unusedSimpArgs false
def spec_IsTray.f (k : Nat) (a0 : ByteArray) : Option (Bool) := (spec_tyGood.f k a0).bind fun t101 => (some t101)
set_option maxHeartbeats 8000000 in
set_option maxRecDepth 100000 in
theorem spec_IsTray.calls (k : Nat) (a0 : ByteArray) (r : Bool) (w : World) (h : spec_IsTray.f k a0 = some r) :
  Calls Tryz.prog 19 #[.string a0] w fun e w' => e = .returned (.bool r) ∧ Below w.heap.size w w' := by
 have HB := Aside0.mk (Below.refl w.heap.size w)
 have H : ((spec_tyGood.f k a0).bind fun t101 => (some t101)) = some r := h
 clear h
 replace H := Option.bind_eq_some_iff.mp H
 obtain ⟨t101, A20, H⟩ := H
 replace H : (some t101) = some r := H
 have A2 := Aside0.mk A20
 clear A20
 obtain rfl := Option.some.inj H
 go_enter Tryz.func19, Tryz.ntmps19
 go_wp2_with (first | ((with_reducible refine gate_callee (f := 87) rfl ?_); refine goesL_ (some 4) rfl rfl Tryz.func87 (by kernel_rfl) rfl #[.string a0] rfl aq1 ?_; (with_reducible refine (spec_tyGood.calls k a0 t101 _ A2.out).mono ?_); rintro e w3 ⟨rfl, hb⟩; refine ⟨_, rfl, ?_⟩; have n0_ := Aside0.mk (below_step aq0 hb); clear HB; have HB := n0_; clear n0_; (try clear hb); (try clear hb2); (try clear hk); (try clear hi)))
 go_ret
 exact ⟨aq8, aq0⟩
end Go.Proofs.YtipjmlcbbimfpaaGreatDoor.F
