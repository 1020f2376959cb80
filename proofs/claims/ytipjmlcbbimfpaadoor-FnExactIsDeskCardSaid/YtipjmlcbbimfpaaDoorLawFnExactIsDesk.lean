/- The row and the tied card of FnExactIsDesk: for every desk the law returns true and leaves its argument. No conditions beyond the card's own. -/
import Derived.Test.YtipjmlcbbimfpaaDoorTie
import Derived.Test.YtipjmlcbbimfpaaDoorCards
import Derived.Test.YtipjmlcbbimfpaaDoorPureFnExactIsDesk
import Derived.ProofKit
import Derived.OpenShut
import Derived.ShutString
import Derived.LaidMore
import Derived.Lay
import Derived.SevenTiedAt
import Derived.Stop.Joined
import Derived.Lib.SmallJoins
namespace Go.Proofs.YtipjmlcbbimfpaaDoor.fnExactIsDesk
open Go.ChangeShapes Go.WideShapes Go.ChangeAt Go.RowKit Go.Joins
open Go.ChangeMaps (open_string shut_string)
set_option linter.unusedVariables false

theorem own : ownKnob Tryd.prog.godebug = none := by kernel_rfl
theorem cells_desk : Tryd.prog.cellsOf 23 = 2 := by kernel_rfl
def laid0 : List (String × DataW Unit) := [("unicode/utf8.acceptRanges", Rows.laid_unicode_utf8_acceptRanges), ("unicode/utf8.first", Rows.laid_unicode_utf8_first)]

set_option maxRecDepth 100000 in
theorem lifted (os : Os) (started : os.Started) (H : Type) (enc : TypeId × Value → H) :
    ReturnsInHanded {} Tryd.checked os 3 .any (fun w args => (Rows.fnExactIsDeskSpec.pre enc Tryd.prog Tryd.f3 Rows.fnExactIsDeskRow.domain false w args ∧ laidMetH Tryd.prog Rows.fnExactIsDeskRow.laid w) ∧ sizedMet enc Tryd.prog Tryd.f3 (OpenSpec.ofChange Rows.fnExactIsDeskSpec) false w args)
      (Rows.fnExactIsDeskSpec.post enc Tryd.prog Tryd.f3 false true false false) := by
  refine returnsInHanded_of_change_and (C := Tryd.checked) (X := fun w _ => laidMetH Tryd.prog Rows.fnExactIsDeskRow.laid w) (fun _ _ _ hh h => h.of_heap hh) own started (by kernel_rfl) Tryd.func3
    (ChangeSpec.witness_shaped (enc := enc) (C := Tryd.checked) (os := os) (X := fun w _ => laidMetH Tryd.prog Rows.fnExactIsDeskRow.laid w) false (World.laidAll Tryd.prog os Rows.fnExactIsDeskRow.laid) #[.agg #[.string ByteArray.empty, .string ByteArray.empty]] 8 (World.laidAll_os _ _ _)
      (World.shaped_of_ZipB (by kernel_rfl) (by kernel_rfl)) (by kernel_rfl) (by kernel_rfl) (by kernel_rfl)
      (by rw [MakeChecks.laidMetH_plain _ _ _ (by kernel_rfl)]; exact laidMet_laidAll _ (by kernel_rfl) (by kernel_rfl))) ?_
  intro W base args ds gs before hval0 hW hc _ hL _
  have hval : ∀ (j : Nat) t v, Tryd.f3.params[j]? = some t → args[j]? = some v → Value.okWide Tryd.prog W .any base t v := hval0
  have hW' := hW
  obtain ⟨p, q, hA0, hV, rfl, _, _⟩ := hW
  have hA : DataW.TrodAll enc Tryd.prog W 0 (fun _ => true) true Tryd.f3.params.toList args.toList ds p := hA0
  rw [Tryd.params3] at hA hval
  obtain ⟨v0, d0, rfl, rfl, h0⟩ := trodAll_one hA
  obtain ⟨rfl, rfl⟩ := trodVars_none hV
  obtain ⟨c0, c1, y0, y1, m, rfl, rfl, rfl, hy0, hy1⟩ := open_agg2 Tryd.underlying23 (by kernel_rfl) cells_desk (hval 0 23 v0 rfl rfl) h0
  obtain ⟨a0, e0, e1, wa⟩ := DataW.trod_string Tryd.underlying9 hy0
  obtain ⟨a1, e2, e3, wb⟩ := DataW.trod_string Tryd.underlying9 hy1
  have e0' : c0 = .string a0 := by simpa using e0
  have e2' : c1 = .string a1 := by simpa using e2
  subst e0' e2' e1 e3
  clear hA0 hval0 e0 e2
  obtain ⟨k, hk⟩ := Pure.FnExactIsDesk a0 a1 wa wb
  refine (PFnExactIsDesk.laws_FnExactIsDesk.calls k a0 a1 true W hk).mono fun e W' ⟨he, bel⟩ => ?_
  subst he
  exact ⟨_, rfl, _, _, _, [], _, [], hW', trodAll_mk1 (shut_bool Tryd.underlying4 _), trodAll_mk1 (shut_agg2 (y0 := (.lit (.string a0.data.toList), [])) (y1 := (.lit (.string a1.data.toList), [])) Tryd.underlying23 (by kernel_rfl) cells_desk (by exact shut_string Tryd.underlying9 wa) (by exact shut_string Tryd.underlying9 wb)), rfl, bel.frame _, fun h => by cases h⟩
theorem over : Rows.FnExactIsDeskSaid :=
  OpenClaim.holds_of_wide 3 Tryd.f3 rfl rfl rfl rfl rfl rfl rfl ⟨rfl, rfl, rfl, rfl, rfl⟩ rfl rfl rfl rfl rfl (by kernel_rfl) Tryd.func3 (by kernel_rfl)
    (of_decide_eq_true (by kernel_rfl)) (by unfold Func.isWrapper; first | (rw [if_pos (by decide +kernel)]; kernel_rfl) | (rw [if_neg (by decide +kernel)]; exact ⟨rfl, rfl⟩))
    (fun os started H enc _ => lifted os started H enc)
theorem card : Rows.FnExactIsDeskCardSaid :=
  Claim7.holds_tied_plain_at .later [] [.data, .pinned] true _ false over (fun _ h => by cases h) (by kernel_rfl) (fun _ h => by cases h) fnExactIsDesk_row_tie rfl ⟨rfl, rfl⟩ (by kernel_rfl) rfl
    (fun f fn hf hfn => by
      obtain rfl : f = 3 := Option.some.inj ((show Tryd.prog.funcNamed "loop.example/g01199/laws.FnExactIsDesk" = some 3 by kernel_rfl).symm.trans hf) |>.symm
      obtain rfl : fn = Tryd.f3 := (Option.some.inj (Tryd.func3.symm.trans hfn)).symm
      exact ⟨by kernel_rfl, fun j t ht => by
        rw [Tryd.params3] at ht
        have hm : t ∈ [23] := by simpa using Array.mem_of_getElem? ht
        have hall : ([23].all fun u => !Tryd.prog.wantsStandIn u) = true := by kernel_rfl
        exact (show Tryd.prog.wantsStandIn t = false by simpa using List.all_eq_true.1 hall t hm)⟩)
    (by kernel_rfl)
#print axioms card
end Go.Proofs.YtipjmlcbbimfpaaDoor.fnExactIsDesk
namespace Go.Proofs.YtipjmlcbbimfpaaDoor
/-- The tied card, under a short name, for the claim. -/
theorem fnExactIsDesk_holds : Rows.FnExactIsDeskCardSaid := fnExactIsDesk.card
end Go.Proofs.YtipjmlcbbimfpaaDoor
