/- The row and the tied card of FnExactClassesReached: for all arguments the law returns true and leaves them. No conditions beyond the card's own. -/
import Derived.Test.YtldhkbiomingbaaGreatDoorTie
import Derived.Test.YtldhkbiomingbaaGreatDoorCards
import Derived.WalkKit
import Derived.ProofKit
import Derived.ChangeOld
import Derived.Below
import Derived.OpenShut
import Derived.ShutString
import Derived.LaidMore
import Derived.Lay
import Derived.SevenTiedAt
import Derived.Stop.Joined
import Derived.Lib.SmallJoins
import Derived.Test.YtldhkbiomingbaaGreatDoorJ0
import Derived.Test.YtldhkbiomingbaaGreatDoorJ1
import Derived.Test.YtldhkbiomingbaaGreatDoorJ2
import Derived.Test.YtldhkbiomingbaaGreatDoorJ3
import Derived.Test.YtldhkbiomingbaaGreatDoorJ4
import Derived.Test.YtldhkbiomingbaaGreatDoorJ5
import Derived.Test.YtldhkbiomingbaaGreatDoorJ6
import Derived.Test.YtldhkbiomingbaaGreatDoorJ7
namespace Go.Proofs.YtldhkbiomingbaaGreatDoor.fnExactClassesReached
open Go.ChangeShapes Go.WideShapes Go.ChangeAt Go.RowKit Go.Joins
open Go.ChangeMaps (open_string shut_string)
open Go.YW
set_option linter.unusedVariables false

theorem own : ownKnob Tryz.prog.godebug = none := by kernel_rfl
theorem laidOut : laidOutB Tryz.prog = true := by kernel_rfl
def IsRow (k : IntKind) (w : World) (a : Option Addr) (len cap : Nat) (zs : List Int) : Prop :=
  (a = none ∧ len = 0 ∧ cap = 0 ∧ zs = []) ∨
  ∃ x, a = some x ∧ len ≤ cap ∧ cap ≤ maxLen ∧ zs.length = cap ∧ (∀ i, i < zs.length → w.cell? (x.add i) = some (.int k (zs.getD i 0))) ∧ ∀ n ∈ zs, (Lit.int k n).wf = true
def laid0 : List (String × DataW Unit) := [("unicode/utf8.acceptRanges", Rows.laid_unicode_utf8_acceptRanges), ("unicode/utf8.first", Rows.laid_unicode_utf8_first)]

set_option maxRecDepth 100000 in
theorem lifted (os : Os) (started : os.Started) (H : Type) (enc : TypeId × Value → H) :
    ReturnsInHanded {} Tryz.checked os 13 .any (fun w args => (Rows.fnExactClassesReachedSpec.pre enc Tryz.prog Tryz.f13 Rows.fnExactClassesReachedRow.domain false w args ∧ laidMetH Tryz.prog Rows.fnExactClassesReachedRow.laid w) ∧ sizedMet enc Tryz.prog Tryz.f13 (OpenSpec.ofChange Rows.fnExactClassesReachedSpec) false w args)
      (Rows.fnExactClassesReachedSpec.post enc Tryz.prog Tryz.f13 false true false false) := by
  refine returnsInHanded_of_change_and (C := Tryz.checked) (X := fun w _ => laidMetH Tryz.prog Rows.fnExactClassesReachedRow.laid w) (fun _ _ _ hh h => h.of_heap hh) own started (by kernel_rfl) Tryz.func13
    (ChangeSpec.witness_shaped (enc := enc) (C := Tryz.checked) (os := os) (X := fun w _ => laidMetH Tryz.prog Rows.fnExactClassesReachedRow.laid w) false (World.laidAll Tryz.prog os Rows.fnExactClassesReachedRow.laid) #[.string ByteArray.empty] 8 (World.laidAll_os _ _ _)
      (World.shaped_of_ZipB (by kernel_rfl) (by kernel_rfl)) (by kernel_rfl) (by kernel_rfl) (by kernel_rfl)
      (by rw [MakeChecks.laidMetH_plain _ _ _ (by kernel_rfl)]; exact laidMet_laidAll _ (by kernel_rfl) (by kernel_rfl))) ?_
  intro W base args ds gs before hval0 hW hc _ hL _
  have hval : ∀ (j : Nat) t v, Tryz.f13.params[j]? = some t → args[j]? = some v → Value.okWide Tryz.prog W .any base t v := hval0
  have hW' := hW
  obtain ⟨p, q, hA0, hV, rfl, _, _⟩ := hW
  have hA : DataW.TrodAll enc Tryz.prog W 0 (fun _ => true) true Tryz.f13.params.toList args.toList ds p := hA0
  rw [Tryz.params13] at hA hval
  obtain ⟨v0, vs0, d0, ds0, p0, q0, hargs, rfl, rfl, h0, r0⟩ := trodAll_cons hA
  obtain ⟨rfl, rfl, rfl⟩ := trodAll_nil r0
  obtain rfl : args = #[v0] := by cases args; simp_all
  obtain ⟨rfl, rfl⟩ := trodVars_none hV
  obtain ⟨a0, rfl, rfl, rfl, y0⟩ := open_string Tryz.underlying9 (hval 0 9 v0 rfl rfl) h0
  clear hA0 hval0
  obtain ⟨k, hk⟩ := F.FnExactClassesReached a0 y0
  refine (F.laws_FnExactClassesReached.calls k a0 true W hk).mono fun e W' ⟨he, bel⟩ => ?_
  subst he
  exact ⟨_, rfl, _, _, _, [], _, [], hW', trodAll_mk1 (shut_bool Tryz.underlying4 _), (trodAll_cons_mk (shut_string Tryz.underlying9 y0) trodAll_mk0), rfl, bel.frame _, fun h => by cases h⟩
theorem j1 : (Rows.fnExactClassesReachedRow.inPlace == Tryz.pinned.checked.prog.inPlace 13) = true := by kernel_rfl
theorem j2 : (Rows.fnExactClassesReachedRow.unfollowed == Tryz.pinned.checked.prog.unfollowed 13) = true := by kernel_rfl
theorem j3 : (Rows.fnExactClassesReachedRow.recurses == Tryz.pinned.checked.prog.recurses 13) = true := by kernel_rfl
theorem j4 : (Rows.fnExactClassesReachedRow.named == Tryz.pinned.checked.prog.varsNamed 13) = true := by kernel_rfl
theorem j5 : (Rows.fnExactClassesReachedRow.plainKeys == Tryz.pinned.checked.prog.plainKeys) = true := by kernel_rfl
theorem j6 : Tryz.pinned.checked.prog.stopsHeard = true := by kernel_rfl
theorem j7 : Tryz.pinned.checked.prog.mayEnter = true := by kernel_rfl
theorem closed : joinedFacts Tryz.pinned.checked.prog 13 Tryz.f13 Rows.fnExactClassesReachedSpec Rows.fnExactClassesReachedRow = true := by
  rw [joinedFacts, j1, j2, j3, j4, j5, j6, j7]
  kernel_rfl
theorem over : Rows.FnExactClassesReachedSaid :=
  OpenClaim.holds_of_wide 13 Tryz.f13 rfl rfl rfl rfl rfl rfl rfl ⟨rfl, rfl, rfl, rfl, rfl⟩ rfl rfl rfl rfl rfl (by as_aux_lemma => kernel_rfl) Tryz.func13 closed
    (of_decide_eq_true (by kernel_rfl)) (by unfold Func.isWrapper; first | (rw [if_pos (by decide +kernel)]; kernel_rfl) | (rw [if_neg (by decide +kernel)]; exact ⟨rfl, rfl⟩))
    (fun os started H enc _ => lifted os started H enc)
theorem card : Rows.FnExactClassesReachedCardSaid :=
  Claim7.holds_tied_plain_at .later [] [.data, .pinned] true _ false over (fun _ h => by cases h) (by as_aux_lemma => kernel_rfl) (fun _ h => by cases h) fnExactClassesReached_row_tie rfl ⟨rfl, rfl⟩ (by as_aux_lemma => kernel_rfl) rfl
    (fun f fn hf hfn => by
      obtain rfl : f = 13 := Option.some.inj ((show Tryz.prog.funcNamed "loop.example/g01199/laws.FnExactClassesReached" = some 13 by kernel_rfl).symm.trans hf) |>.symm
      obtain rfl : fn = Tryz.f13 := (Option.some.inj (Tryz.func13.symm.trans hfn)).symm
      exact ⟨by as_aux_lemma => kernel_rfl, fun j t ht => by
        rw [Tryz.params13] at ht
        have hm : t ∈ #[9] := Array.mem_of_getElem? ht
        have hm2 : t ∈ [9] := (show ∀ x ∈ [9], x ∈ [9] by decide) t (by simpa using hm)
        have hall : ([9].all fun u => !Tryz.prog.wantsStandIn u) = true := by kernel_rfl
        exact (show Tryz.prog.wantsStandIn t = false by simpa using List.all_eq_true.1 hall t hm2)⟩)
    (by as_aux_lemma => kernel_rfl)
#print axioms card
end Go.Proofs.YtldhkbiomingbaaGreatDoor.fnExactClassesReached
namespace Go.Proofs.YtldhkbiomingbaaGreatDoor
/-- The tied card, under a short name, for the claim. -/
theorem fnExactClassesReached_holds : Rows.FnExactClassesReachedCardSaid := fnExactClassesReached.card
end Go.Proofs.YtldhkbiomingbaaGreatDoor
