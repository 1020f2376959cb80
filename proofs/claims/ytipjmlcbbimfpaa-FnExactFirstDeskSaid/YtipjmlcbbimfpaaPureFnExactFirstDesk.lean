/- The law FnExactFirstDesk returns true: the program's FirstDesk and the reference's are the same desk. No conditions. -/
import Derived.Test.YtipjmlcbbimfpaaPFnExactFirstDeskx1
namespace Go.Proofs.Ytipjmlcbbimfpaa.Pure
open Go.RowKit Go.Proofs.Ytipjmlcbbimfpaa.PFnExactFirstDesk Go.Proofs.YtipjmlcbbimfpaaW.PrintWords Go.Proofs.YtipjmlcbbimfpaaW.PrintLast

/-- YOURS: laws_FnExactFirstDesk.f  = some true
What it reaches (each with k first where it has rounds; `.mono`: more rounds tell the same; `.l0`, ..: its loops, with `.mono_l`): spec_FirstDesk.f, impl_FirstDesk.f, laws_eqDesk.f, laws_FnExactFirstDesk.f -/
theorem FnExactFirstDesk : laws_FnExactFirstDesk.Pure := by
  simp [laws_FnExactFirstDesk.Pure, laws_FnExactFirstDesk.f, spec_FirstDesk.f, impl_FirstDesk.f, laws_eqDesk.f]

end Go.Proofs.Ytipjmlcbbimfpaa.Pure
