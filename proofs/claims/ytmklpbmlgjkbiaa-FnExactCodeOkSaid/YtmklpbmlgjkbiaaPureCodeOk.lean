/- The plain law behind FnExactCodeOk; no condition. -/
import Derived.Test.YtmklpbmlgjkbiaaPDx1
namespace Go.Proofs.Ytmklpbmlgjkbiaa.Pure
open Go.RowKit Go.Proofs.Ytmklpbmlgjkbiaa.PD Go.Proofs.Ytmklpbmlgjkbiaa.PS Go.Proofs.YtmklpbmlgjkbiaaW.PrintWords Go.Proofs.YtmklpbmlgjkbiaaW.PrintLast
theorem FnExactCodeOk (l : List S25) (hm : l.length ≤ maxLen) : laws_FnExactCodeOk.f l = some true := by
  unfold maxLen at hm
  unfold laws_FnExactCodeOk.f laws_szOpS.f
  rw [w64 (x := 1048576 - (l.length : Int)) (by omega) (by omega)]
  by_cases h : (1048576 - (l.length : Int)) < 0
  · rw [if_pos h]; rfl
  · rw [if_neg h]
    simp only [Option.bind_some]
    rw [if_neg h]
    unfold toOpsV.f codeV.f
    rw [if_pos (by omega)]
    rfl
end Go.Proofs.Ytmklpbmlgjkbiaa.Pure
