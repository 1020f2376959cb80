/- The row and the tied card of FnExactAllSolutions: for all arguments the law returns true and leaves them. No conditions beyond the card's own. -/
import Derived.Test.YtldhkbiomingbaaGreatDoorTie
import Derived.Test.YtldhkbiomingbaaGreatDoorCards
import Derived.WalkKit
import Derived.ProofKit
import Derived.ChangeOld
import Derived.Below
import Derived.OpenShut
import Derived.ShutString
import Derived.LaidMore
import Derived.Lay
import Derived.SevenTiedAt
import Derived.Stop.Joined
import Derived.Lib.SmallJoins
import Derived.Test.YtldhkbiomingbaaGreatDoorK0
import Derived.Test.YtldhkbiomingbaaGreatDoorK1
import Derived.Test.YtldhkbiomingbaaGreatDoorK2
import Derived.Test.YtldhkbiomingbaaGreatDoorK3
import Derived.Test.YtldhkbiomingbaaGreatDoorK4
import Derived.Test.YtldhkbiomingbaaGreatDoorK5
import Derived.Test.YtldhkbiomingbaaGreatDoorK6
import Derived.Test.YtldhkbiomingbaaGreatDoorK7
import Derived.Test.YtldhkbiomingbaaGreatDoorK8
namespace Go.Proofs.YtldhkbiomingbaaGreatDoor.fnExactAllSolutions
open Go.ChangeShapes Go.WideShapes Go.ChangeAt Go.RowKit Go.Joins
open Go.ChangeMaps (open_string shut_string)
open Go.YW
set_option linter.unusedVariables false

theorem own : ownKnob Tryz.prog.godebug = none := by kernel_rfl
theorem laidOut : laidOutB Tryz.prog = true := by kernel_rfl
theorem cells_puzzle : Tryz.prog.cellsOf 26 = 3 := by kernel_rfl
def IsRow (k : IntKind) (w : World) (a : Option Addr) (len cap : Nat) (zs : List Int) : Prop :=
  (a = none ∧ len = 0 ∧ cap = 0 ∧ zs = []) ∨
  ∃ x, a = some x ∧ len ≤ cap ∧ cap ≤ maxLen ∧ zs.length = cap ∧ (∀ i, i < zs.length → w.cell? (x.add i) = some (.int k (zs.getD i 0))) ∧ ∀ n ∈ zs, (Lit.int k n).wf = true
def laid0 : List (String × DataW Unit) := [("unicode/utf8.acceptRanges", Rows.laid_unicode_utf8_acceptRanges), ("unicode/utf8.first", Rows.laid_unicode_utf8_first)]

set_option maxRecDepth 100000 in
theorem lifted (os : Os) (started : os.Started) (H : Type) (enc : TypeId × Value → H) :
    ReturnsInHanded {} Tryz.checked os 7 .any (fun w args => (Rows.fnExactAllSolutionsSpec.pre enc Tryz.prog Tryz.f7 Rows.fnExactAllSolutionsRow.domain false w args ∧ laidMetH Tryz.prog Rows.fnExactAllSolutionsRow.laid w) ∧ sizedMet enc Tryz.prog Tryz.f7 (OpenSpec.ofChange Rows.fnExactAllSolutionsSpec) false w args)
      (Rows.fnExactAllSolutionsSpec.post enc Tryz.prog Tryz.f7 false true false false) := by
  refine returnsInHanded_of_change_and (C := Tryz.checked) (X := fun w _ => laidMetH Tryz.prog Rows.fnExactAllSolutionsRow.laid w) (fun _ _ _ hh h => h.of_heap hh) own started (by kernel_rfl) Tryz.func7
    (ChangeSpec.witness_shaped (enc := enc) (C := Tryz.checked) (os := os) (X := fun w _ => laidMetH Tryz.prog Rows.fnExactAllSolutionsRow.laid w) false (World.laidAll Tryz.prog os Rows.fnExactAllSolutionsRow.laid) #[.agg #[.string ByteArray.empty, .string ByteArray.empty, .int .i64 0]] 8 (World.laidAll_os _ _ _)
      (World.shaped_of_ZipB (by kernel_rfl) (by kernel_rfl)) (by kernel_rfl) (by kernel_rfl) (by kernel_rfl)
      (by rw [MakeChecks.laidMetH_plain _ _ _ (by kernel_rfl)]; exact laidMet_laidAll _ (by kernel_rfl) (by kernel_rfl))) ?_
  intro W base args ds gs before hval0 hW hc _ hL _
  have hval : ∀ (j : Nat) t v, Tryz.f7.params[j]? = some t → args[j]? = some v → Value.okWide Tryz.prog W .any base t v := hval0
  have hW' := hW
  obtain ⟨p, q, hA0, hV, rfl, _, _⟩ := hW
  have hA : DataW.TrodAll enc Tryz.prog W 0 (fun _ => true) true Tryz.f7.params.toList args.toList ds p := hA0
  rw [Tryz.params7] at hA hval
  obtain ⟨v0, vs0, d0, ds0, p0, q0, hargs, rfl, rfl, h0, r0⟩ := trodAll_cons hA
  obtain ⟨rfl, rfl, rfl⟩ := trodAll_nil r0
  obtain rfl : args = #[v0] := by cases args; simp_all
  obtain ⟨rfl, rfl⟩ := trodVars_none hV
  obtain ⟨c0, c1, c2, y0, y1, y2, m, rfl, rfl, rfl, hy0, hy1, hy2⟩ := open_agg3 Tryz.underlying26 (by kernel_rfl) cells_puzzle (hval 0 26 v0 rfl rfl) h0
  obtain ⟨s0, e0, e1, ws0⟩ := DataW.trod_string Tryz.underlying9 hy0
  obtain ⟨s1, e2, e3, ws1⟩ := DataW.trod_string Tryz.underlying9 hy1
  obtain ⟨s2, e4, e5, ws2⟩ := DataW.trod_int Tryz.underlying3 hy2
  have e0' : c0 = .string s0 := by simpa using e0
  have e2' : c1 = .string s1 := by simpa using e2
  have e4' : c2 = .int .i64 s2 := by simpa using e4
  subst e0' e2' e4' e1 e3 e5
  clear e0 e2 e4
  clear hA0 hval0
  obtain ⟨k, hk⟩ := F.FnExactAllSolutions s0 s1 s2 ws0 ws1 ws2
  refine (F.laws_FnExactAllSolutions.calls k s0 s1 s2 true W hk).mono fun e W' ⟨he, bel⟩ => ?_
  subst he
  exact ⟨_, rfl, _, _, _, [], _, [], hW', trodAll_mk1 (shut_bool Tryz.underlying4 _), (trodAll_cons_mk (shut_agg3 (y0 := (.lit (.string s0.data.toList), [])) (y1 := (.lit (.string s1.data.toList), [])) (y2 := (.lit (.int .i64 s2), [])) Tryz.underlying26 (by kernel_rfl) cells_puzzle (by exact shut_string Tryz.underlying9 ws0) (by exact shut_string Tryz.underlying9 ws1) (by exact shut_int Tryz.underlying3 ws2)) trodAll_mk0), rfl, bel.frame _, fun h => by cases h⟩
theorem j1 : (Rows.fnExactAllSolutionsRow.inPlace == Tryz.pinned.checked.prog.inPlace 7) = true := by kernel_rfl
theorem j2 : (Rows.fnExactAllSolutionsRow.unfollowed == Tryz.pinned.checked.prog.unfollowed 7) = true := by kernel_rfl
theorem j3 : (Rows.fnExactAllSolutionsRow.recurses == Tryz.pinned.checked.prog.recurses 7) = true := by kernel_rfl
theorem j4 : (Rows.fnExactAllSolutionsRow.named == Tryz.pinned.checked.prog.varsNamed 7) = true := by kernel_rfl
theorem j5 : (Rows.fnExactAllSolutionsRow.plainKeys == Tryz.pinned.checked.prog.plainKeys) = true := by kernel_rfl
theorem j6 : Tryz.pinned.checked.prog.stopsHeard = true := by kernel_rfl
theorem j7 : Tryz.pinned.checked.prog.mayEnter = true := by kernel_rfl
theorem closed : joinedFacts Tryz.pinned.checked.prog 7 Tryz.f7 Rows.fnExactAllSolutionsSpec Rows.fnExactAllSolutionsRow = true := by
  rw [joinedFacts, j1, j2, j3, j4, j5, j6, j7]
  kernel_rfl
theorem over : Rows.FnExactAllSolutionsSaid :=
  OpenClaim.holds_of_wide 7 Tryz.f7 rfl rfl rfl rfl rfl rfl rfl ⟨rfl, rfl, rfl, rfl, rfl⟩ rfl rfl rfl rfl rfl (by as_aux_lemma => kernel_rfl) Tryz.func7 closed
    (of_decide_eq_true (by kernel_rfl)) (by unfold Func.isWrapper; first | (rw [if_pos (by decide +kernel)]; kernel_rfl) | (rw [if_neg (by decide +kernel)]; exact ⟨rfl, rfl⟩))
    (fun os started H enc _ => lifted os started H enc)
theorem card : Rows.FnExactAllSolutionsCardSaid :=
  Claim7.holds_tied_plain_at .later [] [.data, .pinned] true _ false over (fun _ h => by cases h) (by as_aux_lemma => kernel_rfl) (fun _ h => by cases h) fnExactAllSolutions_row_tie rfl ⟨rfl, rfl⟩ (by as_aux_lemma => kernel_rfl) rfl
    (fun f fn hf hfn => by
      obtain rfl : f = 7 := Option.some.inj ((show Tryz.prog.funcNamed "loop.example/g01199/laws.FnExactAllSolutions" = some 7 by kernel_rfl).symm.trans hf) |>.symm
      obtain rfl : fn = Tryz.f7 := (Option.some.inj (Tryz.func7.symm.trans hfn)).symm
      exact ⟨by as_aux_lemma => kernel_rfl, fun j t ht => by
        rw [Tryz.params7] at ht
        have hm : t ∈ #[26] := Array.mem_of_getElem? ht
        have hm2 : t ∈ [26] := (show ∀ x ∈ [26], x ∈ [26] by decide) t (by simpa using hm)
        have hall : ([26].all fun u => !Tryz.prog.wantsStandIn u) = true := by kernel_rfl
        exact (show Tryz.prog.wantsStandIn t = false by simpa using List.all_eq_true.1 hall t hm2)⟩)
    (by as_aux_lemma => kernel_rfl)
#print axioms card
end Go.Proofs.YtldhkbiomingbaaGreatDoor.fnExactAllSolutions
namespace Go.Proofs.YtldhkbiomingbaaGreatDoor
/-- The tied card, under a short name, for the claim. -/
theorem fnExactAllSolutions_holds : Rows.FnExactAllSolutionsCardSaid := fnExactAllSolutions.card
end Go.Proofs.YtldhkbiomingbaaGreatDoor
