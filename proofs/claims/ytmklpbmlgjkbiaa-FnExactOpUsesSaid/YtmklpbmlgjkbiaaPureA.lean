/- The program's OpOk and OpUses return what the reference's return, for all steps: the laws' functions answer true; no condition. -/
import Derived.Test.YtmklpbmlgjkbiaaPAx1
namespace Go.Proofs.Ytmklpbmlgjkbiaa.Pure
open Go.RowKit Go.Proofs.Ytmklpbmlgjkbiaa.PS Go.Proofs.Ytmklpbmlgjkbiaa.PA Go.Proofs.YtmklpbmlgjkbiaaW.PrintWords Go.Proofs.YtmklpbmlgjkbiaaW.PrintLast
theorem FnExactOpOk (a b c d e f : Int) : laws_FnExactOpOk.f a b c d e f = some true := by
  unfold laws_FnExactOpOk.f laws_toOp.f laws_toVal.f opV.f
  rfl
theorem FnExactOpUses (a b c d e f : Int) : laws_FnExactOpUses.f a b c d e f = some true := by
  unfold laws_FnExactOpUses.f laws_toOp.f laws_toVal.f usesV.f markIntsV.f heldIntsV.f
  simp only [Option.bind_some]
  generalize hl : (if opB a b c d e f = true then usesL a b c else []) = l
  have hn : l.length ≤ 2 := by
    rw [← hl]
    split
    · unfold usesL; split
      · simp
      · split
        · simp
        · split <;> simp
    · simp
  rw [held_marks, marked_eq _ _ (by omega) (by omega), if_neg (by omega), if_pos rfl]
end Go.Proofs.Ytmklpbmlgjkbiaa.Pure
