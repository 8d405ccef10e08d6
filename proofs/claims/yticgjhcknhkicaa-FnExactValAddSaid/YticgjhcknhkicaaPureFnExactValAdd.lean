/- The program's ValAdd returns what the reference's returns, for all values: the law's function answers true; no condition. -/
import Derived.Test.YticgjhcknhkicaaPLx1
namespace Go.Proofs.Yticgjhcknhkicaa.Pure
open Go.RowKit Go.Proofs.Yticgjhcknhkicaa.PV Go.Proofs.Yticgjhcknhkicaa.PL Go.Proofs.YticgjhcknhkicaaW.PrintWords Go.Proofs.YticgjhcknhkicaaW.PrintLast
theorem FnExactValAdd (a b c d : Int) : laws_FnExactValAdd.f a b c d = some true := by
  unfold laws_FnExactValAdd.f laws_toVal.f addV.f
  rfl
end Go.Proofs.Yticgjhcknhkicaa.Pure
