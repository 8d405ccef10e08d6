/- The functions that the long laws call, told without rounds: each contract over a plain function. -/
import Derived.Test.YticgjhcknhkicaaVVals
import Derived.Test.YticgjhcknhkicaaVDraw
namespace Go.Proofs.Yticgjhcknhkicaa.PV
open Go.RowKit Go.Proofs.YticgjhcknhkicaaW.PrintWords Go.Proofs.YticgjhcknhkicaaW.PrintLast
def okV.f (a b : Int) : Option Bool := some (okB a b)
def addV.f (a b c d : Int) : Option (Int × Int × Bool) := some (addR a b c d)
theorem impl_ValAdd_as.calls (a0_0 a0_1 a1_0 a1_1 r1 r2 : Int) (r3 : Bool) (w : World) (h : addV.f a0_0 a0_1 a1_0 a1_1 = some (r1, r2, r3)) :
    Calls Try.prog 18 #[.agg #[.int .i64 a0_0, .int .i64 a0_1], .agg #[.int .i64 a1_0, .int .i64 a1_1]] w fun e w' => e = .returned (.tuple #[.agg #[.int .i64 r1, .int .i64 r2], .bool r3]) ∧ Below w.heap.size w w' :=
  impl_ValAdd.calls 1 a0_0 a0_1 a1_0 a1_1 r1 r2 r3 w (by rw [implAdd_eq]; exact h)
theorem spec_ValAdd_as.calls (a0_0 a0_1 a1_0 a1_1 r1 r2 : Int) (r3 : Bool) (w : World) (h : addV.f a0_0 a0_1 a1_0 a1_1 = some (r1, r2, r3)) :
    Calls Try.prog 17 #[.agg #[.int .i64 a0_0, .int .i64 a0_1], .agg #[.int .i64 a1_0, .int .i64 a1_1]] w fun e w' => e = .returned (.tuple #[.agg #[.int .i64 r1, .int .i64 r2], .bool r3]) ∧ Below w.heap.size w w' :=
  spec_ValAdd.calls a0_0 a0_1 a1_0 a1_1 r1 r2 r3 w (by rw [specAdd_eq]; exact h)
theorem laws_eqVal_same (a b : Int) : laws_eqVal.f a b a b = some true := by
  unfold laws_eqVal.f
  simp
end Go.Proofs.Yticgjhcknhkicaa.PV
