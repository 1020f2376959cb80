/- The law FnExactIsDesk returns true for every desk: the program's IsDesk is the reference's. No conditions. -/
import Derived.Test.YtipjmlcbbimfpaaDoorSIsTray
namespace Go.Proofs.YtipjmlcbbimfpaaDoor.Pure
open Go.RowKit Go.Proofs.YtipjmlcbbimfpaaDoor Go.Proofs.YtipjmlcbbimfpaaDoor.PFnExactIsDesk Go.Proofs.YtipjmlcbbimfpaaDoorW.PrintWords
theorem FnExactIsDesk (a b : ByteArray) (ha : a.size ≤ 9223372036854775807) (hb : b.size ≤ 9223372036854775807) : ∃ k, laws_FnExactIsDesk.f k a b = some true := by
  refine Ev.rounds (g := fun k => laws_FnExactIsDesk.f k a b) ?_
  unfold laws_FnExactIsDesk.f
  have h1 : wrap64 (1048576 - (a.size : Int)) = 1048576 - (a.size : Int) := w64 (by omega) (by omega)
  have hsz : laws_szDesk.f a b 1048576 = some (if (1048576 - (a.size : Int)) < 0 then -1 else if 1048576 - (a.size : Int) - (b.size : Int) < 0 then -1 else 1048576 - (a.size : Int) - (b.size : Int)) := by
    unfold laws_szDesk.f
    rw [h1]
    by_cases c1 : 1048576 - (a.size : Int) < 0
    · rw [if_pos c1, if_pos c1]
    · rw [if_neg c1, if_neg c1, w64 (by omega) (by omega)]
      by_cases c2 : 1048576 - (a.size : Int) - (b.size : Int) < 0
      · rw [if_pos c2, if_pos c2]
      · rw [if_neg c2, if_neg c2]
  rw [hsz]
  simp only [Option.bind_some]
  by_cases c1 : 1048576 - (a.size : Int) < 0
  · simp only [if_pos c1]; exact Ev.now _
  simp only [if_neg c1]
  by_cases c2 : 1048576 - (a.size : Int) - (b.size : Int) < 0
  · simp only [if_pos c2]; exact Ev.now _
  simp only [if_neg c2]
  have hT := spec_tyRead_ev a
  have hgood : Ev (fun k => spec_tyGood.f k a) (tyGrid (bytesOf a)).isSome := by
    unfold spec_tyGood.f
    refine Ev.bind hT ?_
    cases tyGrid (bytesOf a) <;> exact Ev.now _
  have hS : Ev (fun k => spec_IsDesk.f k a b) ((tyGrid (bytesOf a)).isSome && isWordB (bytesOf b)) := by
    unfold spec_IsDesk.f spec_coGood.f
    refine Ev.bind (a := (tyGrid (bytesOf a)).isSome && isWordB (bytesOf b)) ?_ (Ev.now _)
    refine Ev.bind hgood ?_
    cases (tyGrid (bytesOf a)).isSome
    · exact Ev.now _
    · simp only [if_true, Bool.true_and]
      exact Ev.bind (spec_tiWord_ev b) (Ev.now _)
  have hI : Ev (fun k => impl_IsDesk.f k a b) ((tyGrid (bytesOf a)).isSome && isWordB (bytesOf b)) := by
    unfold impl_IsDesk.f
    refine Ev.bind (impl_IsTray_ev a (by omega)) ?_
    cases (tyGrid (bytesOf a)).isSome
    · exact Ev.now _
    · simp only [if_true, Bool.true_and, impl_IsWord_eq, Option.bind_some]
      exact Ev.now _
  simp only [laws_toDesk.f, Option.bind_some]
  refine Ev.bind hS (Ev.bind hI ?_)
  simp only [bne_self_eq_false]
  exact Ev.now _
end Go.Proofs.YtipjmlcbbimfpaaDoor.Pure
