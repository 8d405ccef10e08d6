/- Every exported constant of the program has the value of the specification; no condition. -/
import Derived.Test.YticgjhcknhkicaaPVx2
namespace Go.Proofs.Yticgjhcknhkicaa.Pure
open Go.RowKit Go.Proofs.Yticgjhcknhkicaa.PV Go.Proofs.YticgjhcknhkicaaW.PrintWords Go.Proofs.YticgjhcknhkicaaW.PrintLast

theorem FnExactConstants : laws_FnExactConstants.Pure := by
  first | rfl | exact ⟨0, rfl⟩ | decide
end Go.Proofs.Yticgjhcknhkicaa.Pure
