/-
  No cell of these rows narrows 'for every input' (looked for: loops, veiled, ifaces, maps, wideKeys, modest, calm, conditions, laid).
  DERIVED. THE GIVEN ROWS OF THIS SEAT. 20 by the template 'for every input the law returns true; each argument reads behind the call as it read before'; 0 by the template 'total and deterministic' (their statements: YtmklpbmlgjkbiaaTotals.lean).
  GIVEN WITH THE SEED: the statements are not yours to turn. If you find one false, say at which input.
  Laid BY PROGRAM, IN A SANDBOX (cutbox-rows.mjs): the forced cells as the released guide's own fill.sh prints them over the translation 3e5d699df835d744… (all of the seat's roots in one cut). By AI agents, Wed Nov 11 2026. No macro, syntax, notation, axiom, sorry.
-/
import Derived.Test.YtmklpbmlgjkbiaaChecked
import GoSem.Claim
import GoSem.ClaimJoined
import GoSem.ClaimMapViews
import Derived.JoinedTies
import Derived.KernelRfl
namespace Go.Proofs.Ytmklpbmlgjkbiaa
/- THE CELL 'sum', in the pinned program and in every row, IS THE sha256 OF THE DUMP (.gsa) THAT YtmklpbmlgjkbiaaProg.lean LOADS. Nothing in Lean hashes anything: it is a label: what it is worth is what the hold of that sum in a sandbox is worth. -/
noncomputable def Try.pinned : Pinned := { name := "ytmklpbmlgjkbiaa", sum := "3e5d699df835d744d909911ca2c6b7e09e4938a59a1e586e5d8467c85c796df8", checked := Try.checked }
namespace Rows
def none {H : Type} : Left H := { results := [], args := [] }

/-- 'laws.FnExactOpOk': WHATEVER THE INPUT: true; the input reads as it did. -/
def fnExactOpOkSpec : ChangeSpec := { name := "fnExactOpOk", fn := fun _ => fun
  | [d] => { results := [.lit (.bool true)], args := [d] }
  | _ => none }
def fnExactOpOkRow : OpenClaim := { program := "ytmklpbmlgjkbiaa", sum := "3e5d699df835d744d909911ca2c6b7e09e4938a59a1e586e5d8467c85c796df8", func := "loop.example/errandry/laws.FnExactOpOk", spec := "fnExactOpOk", inPlace := ["internal/bytealg.IndexByteString", "internal/bytealg.IndexString"], unfollowed := true, recurses := true, named := ["internal/bytealg.MaxLen"], apart := false }
def FnExactOpOkSaid : Prop := fnExactOpOkRow.holds Try.pinned (OpenSpec.ofChange fnExactOpOkSpec)

/-- ITS FALSE NEIGHBOUR: 'it returns false'. Refute it at one input. -/
def fnExactOpOkWrong : ChangeSpec := { name := "fnExactOpOk", fn := fun _ => fun
  | [d] => { results := [.lit (.bool false)], args := [d] }
  | _ => none }
def FnExactOpOkWrongFalsely : Prop := fnExactOpOkRow.holds Try.pinned (OpenSpec.ofChange fnExactOpOkWrong)

/-- 'laws.FnExactOpUses': WHATEVER THE INPUT: true; the input reads as it did. -/
def fnExactOpUsesSpec : ChangeSpec := { name := "fnExactOpUses", fn := fun _ => fun
  | [d] => { results := [.lit (.bool true)], args := [d] }
  | _ => none }
def fnExactOpUsesRow : OpenClaim := { program := "ytmklpbmlgjkbiaa", sum := "3e5d699df835d744d909911ca2c6b7e09e4938a59a1e586e5d8467c85c796df8", func := "loop.example/errandry/laws.FnExactOpUses", spec := "fnExactOpUses", inPlace := ["internal/bytealg.IndexByteString", "internal/bytealg.IndexString"], unfollowed := true, recurses := true, named := ["internal/bytealg.MaxLen"], apart := false }
def FnExactOpUsesSaid : Prop := fnExactOpUsesRow.holds Try.pinned (OpenSpec.ofChange fnExactOpUsesSpec)

/-- ITS FALSE NEIGHBOUR: 'it returns false'. Refute it at one input. -/
def fnExactOpUsesWrong : ChangeSpec := { name := "fnExactOpUses", fn := fun _ => fun
  | [d] => { results := [.lit (.bool false)], args := [d] }
  | _ => none }
def FnExactOpUsesWrongFalsely : Prop := fnExactOpUsesRow.holds Try.pinned (OpenSpec.ofChange fnExactOpUsesWrong)

/-- 'laws.FnOpForm': WHATEVER THE INPUT: true; the input reads as it did. -/
def fnOpFormSpec : ChangeSpec := { name := "fnOpForm", fn := fun _ => fun
  | [d] => { results := [.lit (.bool true)], args := [d] }
  | _ => none }
def fnOpFormRow : OpenClaim := { program := "ytmklpbmlgjkbiaa", sum := "3e5d699df835d744d909911ca2c6b7e09e4938a59a1e586e5d8467c85c796df8", func := "loop.example/errandry/laws.FnOpForm", spec := "fnOpForm", inPlace := ["internal/bytealg.IndexByteString", "internal/bytealg.IndexString"], unfollowed := true, recurses := true, named := ["internal/bytealg.MaxLen"], apart := false }
def FnOpFormSaid : Prop := fnOpFormRow.holds Try.pinned (OpenSpec.ofChange fnOpFormSpec)

/-- ITS FALSE NEIGHBOUR: 'it returns false'. Refute it at one input. -/
def fnOpFormWrong : ChangeSpec := { name := "fnOpForm", fn := fun _ => fun
  | [d] => { results := [.lit (.bool false)], args := [d] }
  | _ => none }
def FnOpFormWrongFalsely : Prop := fnOpFormRow.holds Try.pinned (OpenSpec.ofChange fnOpFormWrong)

/-- 'laws.FnExactCodeOk': WHATEVER THE INPUT: true; the input reads as it did. -/
def fnExactCodeOkSpec : ChangeSpec := { name := "fnExactCodeOk", fn := fun _ => fun
  | [d] => { results := [.lit (.bool true)], args := [d] }
  | _ => none }
def fnExactCodeOkRow : OpenClaim := { program := "ytmklpbmlgjkbiaa", sum := "3e5d699df835d744d909911ca2c6b7e09e4938a59a1e586e5d8467c85c796df8", func := "loop.example/errandry/laws.FnExactCodeOk", spec := "fnExactCodeOk", inPlace := ["internal/bytealg.IndexByteString", "internal/bytealg.IndexString"], unfollowed := true, recurses := true, named := ["internal/bytealg.MaxLen"], apart := false }
def FnExactCodeOkSaid : Prop := fnExactCodeOkRow.holds Try.pinned (OpenSpec.ofChange fnExactCodeOkSpec)

/-- ITS FALSE NEIGHBOUR: 'it returns false'. Refute it at one input. -/
def fnExactCodeOkWrong : ChangeSpec := { name := "fnExactCodeOk", fn := fun _ => fun
  | [d] => { results := [.lit (.bool false)], args := [d] }
  | _ => none }
def FnExactCodeOkWrongFalsely : Prop := fnExactCodeOkRow.holds Try.pinned (OpenSpec.ofChange fnExactCodeOkWrong)

/-- 'laws.FnOpUses': WHATEVER THE INPUT: true; the input reads as it did. -/
def fnOpUsesSpec : ChangeSpec := { name := "fnOpUses", fn := fun _ => fun
  | [d] => { results := [.lit (.bool true)], args := [d] }
  | _ => none }
def fnOpUsesRow : OpenClaim := { program := "ytmklpbmlgjkbiaa", sum := "3e5d699df835d744d909911ca2c6b7e09e4938a59a1e586e5d8467c85c796df8", func := "loop.example/errandry/laws.FnOpUses", spec := "fnOpUses", inPlace := ["internal/bytealg.IndexByteString", "internal/bytealg.IndexString"], unfollowed := true, recurses := true, named := ["internal/bytealg.MaxLen"], apart := false }
def FnOpUsesSaid : Prop := fnOpUsesRow.holds Try.pinned (OpenSpec.ofChange fnOpUsesSpec)

/-- ITS FALSE NEIGHBOUR: 'it returns false'. Refute it at one input. -/
def fnOpUsesWrong : ChangeSpec := { name := "fnOpUses", fn := fun _ => fun
  | [d] => { results := [.lit (.bool false)], args := [d] }
  | _ => none }
def FnOpUsesWrongFalsely : Prop := fnOpUsesRow.holds Try.pinned (OpenSpec.ofChange fnOpUsesWrong)

/-- 'laws.FnExactCodeNext': WHATEVER THE INPUT: true; the input reads as it did. -/
def fnExactCodeNextSpec : ChangeSpec := { name := "fnExactCodeNext", fn := fun _ => fun
  | [d1, d2] => { results := [.lit (.bool true)], args := [d1, d2] }
  | _ => none }
def fnExactCodeNextRow : OpenClaim := { program := "ytmklpbmlgjkbiaa", sum := "3e5d699df835d744d909911ca2c6b7e09e4938a59a1e586e5d8467c85c796df8", func := "loop.example/errandry/laws.FnExactCodeNext", spec := "fnExactCodeNext", inPlace := ["internal/bytealg.IndexByteString", "internal/bytealg.IndexString"], unfollowed := true, recurses := true, named := ["internal/bytealg.MaxLen"], apart := false }
def FnExactCodeNextSaid : Prop := fnExactCodeNextRow.holds Try.pinned (OpenSpec.ofChange fnExactCodeNextSpec)

/-- ITS FALSE NEIGHBOUR: 'it returns false'. Refute it at one input. -/
def fnExactCodeNextWrong : ChangeSpec := { name := "fnExactCodeNext", fn := fun _ => fun
  | [d1, d2] => { results := [.lit (.bool false)], args := [d1, d2] }
  | _ => none }
def FnExactCodeNextWrongFalsely : Prop := fnExactCodeNextRow.holds Try.pinned (OpenSpec.ofChange fnExactCodeNextWrong)

/-- 'laws.FnExactCodeReach': WHATEVER THE INPUT: true; the input reads as it did. -/
def fnExactCodeReachSpec : ChangeSpec := { name := "fnExactCodeReach", fn := fun _ => fun
  | [d] => { results := [.lit (.bool true)], args := [d] }
  | _ => none }
def fnExactCodeReachRow : OpenClaim := { program := "ytmklpbmlgjkbiaa", sum := "3e5d699df835d744d909911ca2c6b7e09e4938a59a1e586e5d8467c85c796df8", func := "loop.example/errandry/laws.FnExactCodeReach", spec := "fnExactCodeReach", inPlace := ["internal/bytealg.IndexByteString", "internal/bytealg.IndexString"], unfollowed := true, recurses := true, named := ["internal/bytealg.MaxLen"], apart := false }
def FnExactCodeReachSaid : Prop := fnExactCodeReachRow.holds Try.pinned (OpenSpec.ofChange fnExactCodeReachSpec)

/-- ITS FALSE NEIGHBOUR: 'it returns false'. Refute it at one input. -/
def fnExactCodeReachWrong : ChangeSpec := { name := "fnExactCodeReach", fn := fun _ => fun
  | [d] => { results := [.lit (.bool false)], args := [d] }
  | _ => none }
def FnExactCodeReachWrongFalsely : Prop := fnExactCodeReachRow.holds Try.pinned (OpenSpec.ofChange fnExactCodeReachWrong)

/-- 'laws.FnExactCodeFull': WHATEVER THE INPUT: true; the input reads as it did. -/
def fnExactCodeFullSpec : ChangeSpec := { name := "fnExactCodeFull", fn := fun _ => fun
  | [d] => { results := [.lit (.bool true)], args := [d] }
  | _ => none }
def fnExactCodeFullRow : OpenClaim := { program := "ytmklpbmlgjkbiaa", sum := "3e5d699df835d744d909911ca2c6b7e09e4938a59a1e586e5d8467c85c796df8", func := "loop.example/errandry/laws.FnExactCodeFull", spec := "fnExactCodeFull", inPlace := ["internal/bytealg.IndexByteString", "internal/bytealg.IndexString"], unfollowed := true, recurses := true, named := ["internal/bytealg.MaxLen"], apart := false }
def FnExactCodeFullSaid : Prop := fnExactCodeFullRow.holds Try.pinned (OpenSpec.ofChange fnExactCodeFullSpec)

/-- ITS FALSE NEIGHBOUR: 'it returns false'. Refute it at one input. -/
def fnExactCodeFullWrong : ChangeSpec := { name := "fnExactCodeFull", fn := fun _ => fun
  | [d] => { results := [.lit (.bool false)], args := [d] }
  | _ => none }
def FnExactCodeFullWrongFalsely : Prop := fnExactCodeFullRow.holds Try.pinned (OpenSpec.ofChange fnExactCodeFullWrong)

/-- 'laws.FnExactCodeSafe': WHATEVER THE INPUT: true; the input reads as it did. -/
def fnExactCodeSafeSpec : ChangeSpec := { name := "fnExactCodeSafe", fn := fun _ => fun
  | [d] => { results := [.lit (.bool true)], args := [d] }
  | _ => none }
def fnExactCodeSafeRow : OpenClaim := { program := "ytmklpbmlgjkbiaa", sum := "3e5d699df835d744d909911ca2c6b7e09e4938a59a1e586e5d8467c85c796df8", func := "loop.example/errandry/laws.FnExactCodeSafe", spec := "fnExactCodeSafe", inPlace := ["internal/bytealg.IndexByteString", "internal/bytealg.IndexString"], unfollowed := true, recurses := true, named := ["internal/bytealg.MaxLen"], apart := false }
def FnExactCodeSafeSaid : Prop := fnExactCodeSafeRow.holds Try.pinned (OpenSpec.ofChange fnExactCodeSafeSpec)

/-- ITS FALSE NEIGHBOUR: 'it returns false'. Refute it at one input. -/
def fnExactCodeSafeWrong : ChangeSpec := { name := "fnExactCodeSafe", fn := fun _ => fun
  | [d] => { results := [.lit (.bool false)], args := [d] }
  | _ => none }
def FnExactCodeSafeWrongFalsely : Prop := fnExactCodeSafeRow.holds Try.pinned (OpenSpec.ofChange fnExactCodeSafeWrong)

/-- 'laws.FnCodeGoes': WHATEVER THE INPUT: true; the input reads as it did. -/
def fnCodeGoesSpec : ChangeSpec := { name := "fnCodeGoes", fn := fun _ => fun
  | [d1, d2] => { results := [.lit (.bool true)], args := [d1, d2] }
  | _ => none }
def fnCodeGoesRow : OpenClaim := { program := "ytmklpbmlgjkbiaa", sum := "3e5d699df835d744d909911ca2c6b7e09e4938a59a1e586e5d8467c85c796df8", func := "loop.example/errandry/laws.FnCodeGoes", spec := "fnCodeGoes", inPlace := ["internal/bytealg.IndexByteString", "internal/bytealg.IndexString"], unfollowed := true, recurses := true, named := ["internal/bytealg.MaxLen"], apart := false }
def FnCodeGoesSaid : Prop := fnCodeGoesRow.holds Try.pinned (OpenSpec.ofChange fnCodeGoesSpec)

/-- ITS FALSE NEIGHBOUR: 'it returns false'. Refute it at one input. -/
def fnCodeGoesWrong : ChangeSpec := { name := "fnCodeGoes", fn := fun _ => fun
  | [d1, d2] => { results := [.lit (.bool false)], args := [d1, d2] }
  | _ => none }
def FnCodeGoesWrongFalsely : Prop := fnCodeGoesRow.holds Try.pinned (OpenSpec.ofChange fnCodeGoesWrong)

/-- 'laws.FnFullStep': WHATEVER THE INPUT: true; the input reads as it did. -/
def fnFullStepSpec : ChangeSpec := { name := "fnFullStep", fn := fun _ => fun
  | [d] => { results := [.lit (.bool true)], args := [d] }
  | _ => none }
def fnFullStepRow : OpenClaim := { program := "ytmklpbmlgjkbiaa", sum := "3e5d699df835d744d909911ca2c6b7e09e4938a59a1e586e5d8467c85c796df8", func := "loop.example/errandry/laws.FnFullStep", spec := "fnFullStep", inPlace := ["internal/bytealg.IndexByteString", "internal/bytealg.IndexString"], unfollowed := true, recurses := true, named := ["internal/bytealg.MaxLen"], apart := false }
def FnFullStepSaid : Prop := fnFullStepRow.holds Try.pinned (OpenSpec.ofChange fnFullStepSpec)

/-- ITS FALSE NEIGHBOUR: 'it returns false'. Refute it at one input. -/
def fnFullStepWrong : ChangeSpec := { name := "fnFullStep", fn := fun _ => fun
  | [d] => { results := [.lit (.bool false)], args := [d] }
  | _ => none }
def FnFullStepWrongFalsely : Prop := fnFullStepRow.holds Try.pinned (OpenSpec.ofChange fnFullStepWrong)

/-- 'laws.FnSafeEmpty': WHATEVER THE INPUT: true; the input reads as it did. -/
def fnSafeEmptySpec : ChangeSpec := { name := "fnSafeEmpty", fn := fun _ => fun
  | [d1, d2] => { results := [.lit (.bool true)], args := [d1, d2] }
  | _ => none }
def fnSafeEmptyRow : OpenClaim := { program := "ytmklpbmlgjkbiaa", sum := "3e5d699df835d744d909911ca2c6b7e09e4938a59a1e586e5d8467c85c796df8", func := "loop.example/errandry/laws.FnSafeEmpty", spec := "fnSafeEmpty", inPlace := ["internal/bytealg.IndexByteString", "internal/bytealg.IndexString"], unfollowed := true, recurses := true, named := ["internal/bytealg.MaxLen"], apart := false }
def FnSafeEmptySaid : Prop := fnSafeEmptyRow.holds Try.pinned (OpenSpec.ofChange fnSafeEmptySpec)

/-- ITS FALSE NEIGHBOUR: 'it returns false'. Refute it at one input. -/
def fnSafeEmptyWrong : ChangeSpec := { name := "fnSafeEmpty", fn := fun _ => fun
  | [d1, d2] => { results := [.lit (.bool false)], args := [d1, d2] }
  | _ => none }
def FnSafeEmptyWrongFalsely : Prop := fnSafeEmptyRow.holds Try.pinned (OpenSpec.ofChange fnSafeEmptyWrong)

/-- 'laws.FnFullFirst': WHATEVER THE INPUT: true; the input reads as it did. -/
def fnFullFirstSpec : ChangeSpec := { name := "fnFullFirst", fn := fun _ => fun
  | [d] => { results := [.lit (.bool true)], args := [d] }
  | _ => none }
def fnFullFirstRow : OpenClaim := { program := "ytmklpbmlgjkbiaa", sum := "3e5d699df835d744d909911ca2c6b7e09e4938a59a1e586e5d8467c85c796df8", func := "loop.example/errandry/laws.FnFullFirst", spec := "fnFullFirst", inPlace := ["internal/bytealg.IndexByteString", "internal/bytealg.IndexString"], unfollowed := true, recurses := true, named := ["internal/bytealg.MaxLen"], apart := false }
def FnFullFirstSaid : Prop := fnFullFirstRow.holds Try.pinned (OpenSpec.ofChange fnFullFirstSpec)

/-- ITS FALSE NEIGHBOUR: 'it returns false'. Refute it at one input. -/
def fnFullFirstWrong : ChangeSpec := { name := "fnFullFirst", fn := fun _ => fun
  | [d] => { results := [.lit (.bool false)], args := [d] }
  | _ => none }
def FnFullFirstWrongFalsely : Prop := fnFullFirstRow.holds Try.pinned (OpenSpec.ofChange fnFullFirstWrong)

/-- 'laws.FnNext': WHATEVER THE INPUT: true; the input reads as it did. -/
def fnNextSpec : ChangeSpec := { name := "fnNext", fn := fun _ => fun
  | [d] => { results := [.lit (.bool true)], args := [d] }
  | _ => none }
def fnNextRow : OpenClaim := { program := "ytmklpbmlgjkbiaa", sum := "3e5d699df835d744d909911ca2c6b7e09e4938a59a1e586e5d8467c85c796df8", func := "loop.example/errandry/laws.FnNext", spec := "fnNext", inPlace := ["internal/bytealg.IndexByteString", "internal/bytealg.IndexString"], unfollowed := true, recurses := true, named := ["internal/bytealg.MaxLen"], apart := false }
def FnNextSaid : Prop := fnNextRow.holds Try.pinned (OpenSpec.ofChange fnNextSpec)

/-- ITS FALSE NEIGHBOUR: 'it returns false'. Refute it at one input. -/
def fnNextWrong : ChangeSpec := { name := "fnNext", fn := fun _ => fun
  | [d] => { results := [.lit (.bool false)], args := [d] }
  | _ => none }
def FnNextWrongFalsely : Prop := fnNextRow.holds Try.pinned (OpenSpec.ofChange fnNextWrong)

/-- 'laws.FnNextTo': WHATEVER THE INPUT: true; the input reads as it did. -/
def fnNextToSpec : ChangeSpec := { name := "fnNextTo", fn := fun _ => fun
  | [d1, d2] => { results := [.lit (.bool true)], args := [d1, d2] }
  | _ => none }
def fnNextToRow : OpenClaim := { program := "ytmklpbmlgjkbiaa", sum := "3e5d699df835d744d909911ca2c6b7e09e4938a59a1e586e5d8467c85c796df8", func := "loop.example/errandry/laws.FnNextTo", spec := "fnNextTo", inPlace := ["internal/bytealg.IndexByteString", "internal/bytealg.IndexString"], unfollowed := true, recurses := true, named := ["internal/bytealg.MaxLen"], apart := false }
def FnNextToSaid : Prop := fnNextToRow.holds Try.pinned (OpenSpec.ofChange fnNextToSpec)

/-- ITS FALSE NEIGHBOUR: 'it returns false'. Refute it at one input. -/
def fnNextToWrong : ChangeSpec := { name := "fnNextTo", fn := fun _ => fun
  | [d1, d2] => { results := [.lit (.bool false)], args := [d1, d2] }
  | _ => none }
def FnNextToWrongFalsely : Prop := fnNextToRow.holds Try.pinned (OpenSpec.ofChange fnNextToWrong)

/-- 'laws.FnSafe': WHATEVER THE INPUT: true; the input reads as it did. -/
def fnSafeSpec : ChangeSpec := { name := "fnSafe", fn := fun _ => fun
  | [d] => { results := [.lit (.bool true)], args := [d] }
  | _ => none }
def fnSafeRow : OpenClaim := { program := "ytmklpbmlgjkbiaa", sum := "3e5d699df835d744d909911ca2c6b7e09e4938a59a1e586e5d8467c85c796df8", func := "loop.example/errandry/laws.FnSafe", spec := "fnSafe", inPlace := ["internal/bytealg.IndexByteString", "internal/bytealg.IndexString"], unfollowed := true, recurses := true, named := ["internal/bytealg.MaxLen"], apart := false }
def FnSafeSaid : Prop := fnSafeRow.holds Try.pinned (OpenSpec.ofChange fnSafeSpec)

/-- ITS FALSE NEIGHBOUR: 'it returns false'. Refute it at one input. -/
def fnSafeWrong : ChangeSpec := { name := "fnSafe", fn := fun _ => fun
  | [d] => { results := [.lit (.bool false)], args := [d] }
  | _ => none }
def FnSafeWrongFalsely : Prop := fnSafeRow.holds Try.pinned (OpenSpec.ofChange fnSafeWrong)

/-- 'laws.FnSafeMore': WHATEVER THE INPUT: true; the input reads as it did. -/
def fnSafeMoreSpec : ChangeSpec := { name := "fnSafeMore", fn := fun _ => fun
  | [d1, d2] => { results := [.lit (.bool true)], args := [d1, d2] }
  | _ => none }
def fnSafeMoreRow : OpenClaim := { program := "ytmklpbmlgjkbiaa", sum := "3e5d699df835d744d909911ca2c6b7e09e4938a59a1e586e5d8467c85c796df8", func := "loop.example/errandry/laws.FnSafeMore", spec := "fnSafeMore", inPlace := ["internal/bytealg.IndexByteString", "internal/bytealg.IndexString"], unfollowed := true, recurses := true, named := ["internal/bytealg.MaxLen"], apart := false }
def FnSafeMoreSaid : Prop := fnSafeMoreRow.holds Try.pinned (OpenSpec.ofChange fnSafeMoreSpec)

/-- ITS FALSE NEIGHBOUR: 'it returns false'. Refute it at one input. -/
def fnSafeMoreWrong : ChangeSpec := { name := "fnSafeMore", fn := fun _ => fun
  | [d1, d2] => { results := [.lit (.bool false)], args := [d1, d2] }
  | _ => none }
def FnSafeMoreWrongFalsely : Prop := fnSafeMoreRow.holds Try.pinned (OpenSpec.ofChange fnSafeMoreWrong)

/-- 'laws.FnReachAll': WHATEVER THE INPUT: true; the input reads as it did. -/
def fnReachAllSpec : ChangeSpec := { name := "fnReachAll", fn := fun _ => fun
  | [d1, d2] => { results := [.lit (.bool true)], args := [d1, d2] }
  | _ => none }
def fnReachAllRow : OpenClaim := { program := "ytmklpbmlgjkbiaa", sum := "3e5d699df835d744d909911ca2c6b7e09e4938a59a1e586e5d8467c85c796df8", func := "loop.example/errandry/laws.FnReachAll", spec := "fnReachAll", inPlace := ["internal/bytealg.IndexByteString", "internal/bytealg.IndexString"], unfollowed := true, recurses := true, named := ["internal/bytealg.MaxLen"], apart := false }
def FnReachAllSaid : Prop := fnReachAllRow.holds Try.pinned (OpenSpec.ofChange fnReachAllSpec)

/-- ITS FALSE NEIGHBOUR: 'it returns false'. Refute it at one input. -/
def fnReachAllWrong : ChangeSpec := { name := "fnReachAll", fn := fun _ => fun
  | [d1, d2] => { results := [.lit (.bool false)], args := [d1, d2] }
  | _ => none }
def FnReachAllWrongFalsely : Prop := fnReachAllRow.holds Try.pinned (OpenSpec.ofChange fnReachAllWrong)

/-- 'laws.FnFullReach': WHATEVER THE INPUT: true; the input reads as it did. -/
def fnFullReachSpec : ChangeSpec := { name := "fnFullReach", fn := fun _ => fun
  | [d] => { results := [.lit (.bool true)], args := [d] }
  | _ => none }
def fnFullReachRow : OpenClaim := { program := "ytmklpbmlgjkbiaa", sum := "3e5d699df835d744d909911ca2c6b7e09e4938a59a1e586e5d8467c85c796df8", func := "loop.example/errandry/laws.FnFullReach", spec := "fnFullReach", inPlace := ["internal/bytealg.IndexByteString", "internal/bytealg.IndexString"], unfollowed := true, recurses := true, named := ["internal/bytealg.MaxLen"], apart := false }
def FnFullReachSaid : Prop := fnFullReachRow.holds Try.pinned (OpenSpec.ofChange fnFullReachSpec)

/-- ITS FALSE NEIGHBOUR: 'it returns false'. Refute it at one input. -/
def fnFullReachWrong : ChangeSpec := { name := "fnFullReach", fn := fun _ => fun
  | [d] => { results := [.lit (.bool false)], args := [d] }
  | _ => none }
def FnFullReachWrongFalsely : Prop := fnFullReachRow.holds Try.pinned (OpenSpec.ofChange fnFullReachWrong)

/-- 'laws.FnNextReach': WHATEVER THE INPUT: true; the input reads as it did. -/
def fnNextReachSpec : ChangeSpec := { name := "fnNextReach", fn := fun _ => fun
  | [d] => { results := [.lit (.bool true)], args := [d] }
  | _ => none }
def fnNextReachRow : OpenClaim := { program := "ytmklpbmlgjkbiaa", sum := "3e5d699df835d744d909911ca2c6b7e09e4938a59a1e586e5d8467c85c796df8", func := "loop.example/errandry/laws.FnNextReach", spec := "fnNextReach", inPlace := ["internal/bytealg.IndexByteString", "internal/bytealg.IndexString"], unfollowed := true, recurses := true, named := ["internal/bytealg.MaxLen"], apart := false }
def FnNextReachSaid : Prop := fnNextReachRow.holds Try.pinned (OpenSpec.ofChange fnNextReachSpec)

/-- ITS FALSE NEIGHBOUR: 'it returns false'. Refute it at one input. -/
def fnNextReachWrong : ChangeSpec := { name := "fnNextReach", fn := fun _ => fun
  | [d] => { results := [.lit (.bool false)], args := [d] }
  | _ => none }
def FnNextReachWrongFalsely : Prop := fnNextReachRow.holds Try.pinned (OpenSpec.ofChange fnNextReachWrong)

/- THE SECOND FORM. 'bulk': how many values and letters a reading holds, each counted each time it is reached (what is shared counts as often as it is met; a slice's spare places count too). A statement '..UptoSaid' is the law's where the arguments, and the package variables that the reading takes, are together of bulk at most 1048576: NARROWER than '..Said'. Prove '..Said' where nothing that the law and all that it calls make is longer than what came in: it says more and counts as full. Else prove '..UptoSaid'. A law counts once. -/
mutual
def uptoBulk {H : Type} : DataW H → Nat
  | .lit (.string bytes) => bytes.length + 1
  | .lit _ => 1
  | .nil => 1
  | .ptr d => uptoBulk d + 1
  | .slice elems spare => uptoBulkAll elems + uptoBulkAll spare + 1
  | .agg parts => uptoBulkAll parts + 1
  | .iface _ d => uptoBulk d + 1
  | .map entries => uptoBulkEntries entries + 1
  | .held _ => 1
def uptoBulkAll {H : Type} : List (DataW H) → Nat
  | [] => 0
  | d :: r => uptoBulk d + uptoBulkAll r
def uptoBulkEntries {H : Type} : List (Lit × DataW H) → Nat
  | [] => 0
  | x :: r => uptoBulkEntry x + uptoBulkEntries r
def uptoBulkEntry {H : Type} : Lit × DataW H → Nat
  | (.string bytes, d) => bytes.length + uptoBulk d + 1
  | (_, d) => uptoBulk d + 1
 end
def uptoSmall : (H : Type) → List (DataW H) → Bool := fun _ ds => decide (uptoBulkAll ds ≤ 1048576)
def OpenSpec.upto (s : _root_.Go.ChangeSpec) : _root_.Go.OpenSpec := { _root_.Go.OpenSpec.ofChange s with cond := some uptoSmall }

/-- 'laws.FnExactOpOk', WHERE WHAT IT READS IS OF BULK AT MOST 1048576: true; the input reads as it did. -/
def fnExactOpOkUptoRow : OpenClaim := { program := "ytmklpbmlgjkbiaa", sum := "3e5d699df835d744d909911ca2c6b7e09e4938a59a1e586e5d8467c85c796df8", func := "loop.example/errandry/laws.FnExactOpOk", spec := "fnExactOpOk", inPlace := ["internal/bytealg.IndexByteString", "internal/bytealg.IndexString"], unfollowed := true, recurses := true, named := ["internal/bytealg.MaxLen"], apart := false, narrowed := true }
def FnExactOpOkUptoSaid : Prop := fnExactOpOkUptoRow.holds Try.pinned (OpenSpec.upto fnExactOpOkSpec)

/-- 'laws.FnExactOpUses', WHERE WHAT IT READS IS OF BULK AT MOST 1048576: true; the input reads as it did. -/
def fnExactOpUsesUptoRow : OpenClaim := { program := "ytmklpbmlgjkbiaa", sum := "3e5d699df835d744d909911ca2c6b7e09e4938a59a1e586e5d8467c85c796df8", func := "loop.example/errandry/laws.FnExactOpUses", spec := "fnExactOpUses", inPlace := ["internal/bytealg.IndexByteString", "internal/bytealg.IndexString"], unfollowed := true, recurses := true, named := ["internal/bytealg.MaxLen"], apart := false, narrowed := true }
def FnExactOpUsesUptoSaid : Prop := fnExactOpUsesUptoRow.holds Try.pinned (OpenSpec.upto fnExactOpUsesSpec)

/-- 'laws.FnOpForm', WHERE WHAT IT READS IS OF BULK AT MOST 1048576: true; the input reads as it did. -/
def fnOpFormUptoRow : OpenClaim := { program := "ytmklpbmlgjkbiaa", sum := "3e5d699df835d744d909911ca2c6b7e09e4938a59a1e586e5d8467c85c796df8", func := "loop.example/errandry/laws.FnOpForm", spec := "fnOpForm", inPlace := ["internal/bytealg.IndexByteString", "internal/bytealg.IndexString"], unfollowed := true, recurses := true, named := ["internal/bytealg.MaxLen"], apart := false, narrowed := true }
def FnOpFormUptoSaid : Prop := fnOpFormUptoRow.holds Try.pinned (OpenSpec.upto fnOpFormSpec)

/-- 'laws.FnExactCodeOk', WHERE WHAT IT READS IS OF BULK AT MOST 1048576: true; the input reads as it did. -/
def fnExactCodeOkUptoRow : OpenClaim := { program := "ytmklpbmlgjkbiaa", sum := "3e5d699df835d744d909911ca2c6b7e09e4938a59a1e586e5d8467c85c796df8", func := "loop.example/errandry/laws.FnExactCodeOk", spec := "fnExactCodeOk", inPlace := ["internal/bytealg.IndexByteString", "internal/bytealg.IndexString"], unfollowed := true, recurses := true, named := ["internal/bytealg.MaxLen"], apart := false, narrowed := true }
def FnExactCodeOkUptoSaid : Prop := fnExactCodeOkUptoRow.holds Try.pinned (OpenSpec.upto fnExactCodeOkSpec)

/-- 'laws.FnOpUses', WHERE WHAT IT READS IS OF BULK AT MOST 1048576: true; the input reads as it did. -/
def fnOpUsesUptoRow : OpenClaim := { program := "ytmklpbmlgjkbiaa", sum := "3e5d699df835d744d909911ca2c6b7e09e4938a59a1e586e5d8467c85c796df8", func := "loop.example/errandry/laws.FnOpUses", spec := "fnOpUses", inPlace := ["internal/bytealg.IndexByteString", "internal/bytealg.IndexString"], unfollowed := true, recurses := true, named := ["internal/bytealg.MaxLen"], apart := false, narrowed := true }
def FnOpUsesUptoSaid : Prop := fnOpUsesUptoRow.holds Try.pinned (OpenSpec.upto fnOpUsesSpec)

/-- 'laws.FnExactCodeNext', WHERE WHAT IT READS IS OF BULK AT MOST 1048576: true; the input reads as it did. -/
def fnExactCodeNextUptoRow : OpenClaim := { program := "ytmklpbmlgjkbiaa", sum := "3e5d699df835d744d909911ca2c6b7e09e4938a59a1e586e5d8467c85c796df8", func := "loop.example/errandry/laws.FnExactCodeNext", spec := "fnExactCodeNext", inPlace := ["internal/bytealg.IndexByteString", "internal/bytealg.IndexString"], unfollowed := true, recurses := true, named := ["internal/bytealg.MaxLen"], apart := false, narrowed := true }
def FnExactCodeNextUptoSaid : Prop := fnExactCodeNextUptoRow.holds Try.pinned (OpenSpec.upto fnExactCodeNextSpec)

/-- 'laws.FnExactCodeReach', WHERE WHAT IT READS IS OF BULK AT MOST 1048576: true; the input reads as it did. -/
def fnExactCodeReachUptoRow : OpenClaim := { program := "ytmklpbmlgjkbiaa", sum := "3e5d699df835d744d909911ca2c6b7e09e4938a59a1e586e5d8467c85c796df8", func := "loop.example/errandry/laws.FnExactCodeReach", spec := "fnExactCodeReach", inPlace := ["internal/bytealg.IndexByteString", "internal/bytealg.IndexString"], unfollowed := true, recurses := true, named := ["internal/bytealg.MaxLen"], apart := false, narrowed := true }
def FnExactCodeReachUptoSaid : Prop := fnExactCodeReachUptoRow.holds Try.pinned (OpenSpec.upto fnExactCodeReachSpec)

/-- 'laws.FnExactCodeFull', WHERE WHAT IT READS IS OF BULK AT MOST 1048576: true; the input reads as it did. -/
def fnExactCodeFullUptoRow : OpenClaim := { program := "ytmklpbmlgjkbiaa", sum := "3e5d699df835d744d909911ca2c6b7e09e4938a59a1e586e5d8467c85c796df8", func := "loop.example/errandry/laws.FnExactCodeFull", spec := "fnExactCodeFull", inPlace := ["internal/bytealg.IndexByteString", "internal/bytealg.IndexString"], unfollowed := true, recurses := true, named := ["internal/bytealg.MaxLen"], apart := false, narrowed := true }
def FnExactCodeFullUptoSaid : Prop := fnExactCodeFullUptoRow.holds Try.pinned (OpenSpec.upto fnExactCodeFullSpec)

/-- 'laws.FnExactCodeSafe', WHERE WHAT IT READS IS OF BULK AT MOST 1048576: true; the input reads as it did. -/
def fnExactCodeSafeUptoRow : OpenClaim := { program := "ytmklpbmlgjkbiaa", sum := "3e5d699df835d744d909911ca2c6b7e09e4938a59a1e586e5d8467c85c796df8", func := "loop.example/errandry/laws.FnExactCodeSafe", spec := "fnExactCodeSafe", inPlace := ["internal/bytealg.IndexByteString", "internal/bytealg.IndexString"], unfollowed := true, recurses := true, named := ["internal/bytealg.MaxLen"], apart := false, narrowed := true }
def FnExactCodeSafeUptoSaid : Prop := fnExactCodeSafeUptoRow.holds Try.pinned (OpenSpec.upto fnExactCodeSafeSpec)

/-- 'laws.FnCodeGoes', WHERE WHAT IT READS IS OF BULK AT MOST 1048576: true; the input reads as it did. -/
def fnCodeGoesUptoRow : OpenClaim := { program := "ytmklpbmlgjkbiaa", sum := "3e5d699df835d744d909911ca2c6b7e09e4938a59a1e586e5d8467c85c796df8", func := "loop.example/errandry/laws.FnCodeGoes", spec := "fnCodeGoes", inPlace := ["internal/bytealg.IndexByteString", "internal/bytealg.IndexString"], unfollowed := true, recurses := true, named := ["internal/bytealg.MaxLen"], apart := false, narrowed := true }
def FnCodeGoesUptoSaid : Prop := fnCodeGoesUptoRow.holds Try.pinned (OpenSpec.upto fnCodeGoesSpec)

/-- 'laws.FnFullStep', WHERE WHAT IT READS IS OF BULK AT MOST 1048576: true; the input reads as it did. -/
def fnFullStepUptoRow : OpenClaim := { program := "ytmklpbmlgjkbiaa", sum := "3e5d699df835d744d909911ca2c6b7e09e4938a59a1e586e5d8467c85c796df8", func := "loop.example/errandry/laws.FnFullStep", spec := "fnFullStep", inPlace := ["internal/bytealg.IndexByteString", "internal/bytealg.IndexString"], unfollowed := true, recurses := true, named := ["internal/bytealg.MaxLen"], apart := false, narrowed := true }
def FnFullStepUptoSaid : Prop := fnFullStepUptoRow.holds Try.pinned (OpenSpec.upto fnFullStepSpec)

/-- 'laws.FnSafeEmpty', WHERE WHAT IT READS IS OF BULK AT MOST 1048576: true; the input reads as it did. -/
def fnSafeEmptyUptoRow : OpenClaim := { program := "ytmklpbmlgjkbiaa", sum := "3e5d699df835d744d909911ca2c6b7e09e4938a59a1e586e5d8467c85c796df8", func := "loop.example/errandry/laws.FnSafeEmpty", spec := "fnSafeEmpty", inPlace := ["internal/bytealg.IndexByteString", "internal/bytealg.IndexString"], unfollowed := true, recurses := true, named := ["internal/bytealg.MaxLen"], apart := false, narrowed := true }
def FnSafeEmptyUptoSaid : Prop := fnSafeEmptyUptoRow.holds Try.pinned (OpenSpec.upto fnSafeEmptySpec)

/-- 'laws.FnFullFirst', WHERE WHAT IT READS IS OF BULK AT MOST 1048576: true; the input reads as it did. -/
def fnFullFirstUptoRow : OpenClaim := { program := "ytmklpbmlgjkbiaa", sum := "3e5d699df835d744d909911ca2c6b7e09e4938a59a1e586e5d8467c85c796df8", func := "loop.example/errandry/laws.FnFullFirst", spec := "fnFullFirst", inPlace := ["internal/bytealg.IndexByteString", "internal/bytealg.IndexString"], unfollowed := true, recurses := true, named := ["internal/bytealg.MaxLen"], apart := false, narrowed := true }
def FnFullFirstUptoSaid : Prop := fnFullFirstUptoRow.holds Try.pinned (OpenSpec.upto fnFullFirstSpec)

/-- 'laws.FnNext', WHERE WHAT IT READS IS OF BULK AT MOST 1048576: true; the input reads as it did. -/
def fnNextUptoRow : OpenClaim := { program := "ytmklpbmlgjkbiaa", sum := "3e5d699df835d744d909911ca2c6b7e09e4938a59a1e586e5d8467c85c796df8", func := "loop.example/errandry/laws.FnNext", spec := "fnNext", inPlace := ["internal/bytealg.IndexByteString", "internal/bytealg.IndexString"], unfollowed := true, recurses := true, named := ["internal/bytealg.MaxLen"], apart := false, narrowed := true }
def FnNextUptoSaid : Prop := fnNextUptoRow.holds Try.pinned (OpenSpec.upto fnNextSpec)

/-- 'laws.FnNextTo', WHERE WHAT IT READS IS OF BULK AT MOST 1048576: true; the input reads as it did. -/
def fnNextToUptoRow : OpenClaim := { program := "ytmklpbmlgjkbiaa", sum := "3e5d699df835d744d909911ca2c6b7e09e4938a59a1e586e5d8467c85c796df8", func := "loop.example/errandry/laws.FnNextTo", spec := "fnNextTo", inPlace := ["internal/bytealg.IndexByteString", "internal/bytealg.IndexString"], unfollowed := true, recurses := true, named := ["internal/bytealg.MaxLen"], apart := false, narrowed := true }
def FnNextToUptoSaid : Prop := fnNextToUptoRow.holds Try.pinned (OpenSpec.upto fnNextToSpec)

/-- 'laws.FnSafe', WHERE WHAT IT READS IS OF BULK AT MOST 1048576: true; the input reads as it did. -/
def fnSafeUptoRow : OpenClaim := { program := "ytmklpbmlgjkbiaa", sum := "3e5d699df835d744d909911ca2c6b7e09e4938a59a1e586e5d8467c85c796df8", func := "loop.example/errandry/laws.FnSafe", spec := "fnSafe", inPlace := ["internal/bytealg.IndexByteString", "internal/bytealg.IndexString"], unfollowed := true, recurses := true, named := ["internal/bytealg.MaxLen"], apart := false, narrowed := true }
def FnSafeUptoSaid : Prop := fnSafeUptoRow.holds Try.pinned (OpenSpec.upto fnSafeSpec)

/-- 'laws.FnSafeMore', WHERE WHAT IT READS IS OF BULK AT MOST 1048576: true; the input reads as it did. -/
def fnSafeMoreUptoRow : OpenClaim := { program := "ytmklpbmlgjkbiaa", sum := "3e5d699df835d744d909911ca2c6b7e09e4938a59a1e586e5d8467c85c796df8", func := "loop.example/errandry/laws.FnSafeMore", spec := "fnSafeMore", inPlace := ["internal/bytealg.IndexByteString", "internal/bytealg.IndexString"], unfollowed := true, recurses := true, named := ["internal/bytealg.MaxLen"], apart := false, narrowed := true }
def FnSafeMoreUptoSaid : Prop := fnSafeMoreUptoRow.holds Try.pinned (OpenSpec.upto fnSafeMoreSpec)

/-- 'laws.FnReachAll', WHERE WHAT IT READS IS OF BULK AT MOST 1048576: true; the input reads as it did. -/
def fnReachAllUptoRow : OpenClaim := { program := "ytmklpbmlgjkbiaa", sum := "3e5d699df835d744d909911ca2c6b7e09e4938a59a1e586e5d8467c85c796df8", func := "loop.example/errandry/laws.FnReachAll", spec := "fnReachAll", inPlace := ["internal/bytealg.IndexByteString", "internal/bytealg.IndexString"], unfollowed := true, recurses := true, named := ["internal/bytealg.MaxLen"], apart := false, narrowed := true }
def FnReachAllUptoSaid : Prop := fnReachAllUptoRow.holds Try.pinned (OpenSpec.upto fnReachAllSpec)

/-- 'laws.FnFullReach', WHERE WHAT IT READS IS OF BULK AT MOST 1048576: true; the input reads as it did. -/
def fnFullReachUptoRow : OpenClaim := { program := "ytmklpbmlgjkbiaa", sum := "3e5d699df835d744d909911ca2c6b7e09e4938a59a1e586e5d8467c85c796df8", func := "loop.example/errandry/laws.FnFullReach", spec := "fnFullReach", inPlace := ["internal/bytealg.IndexByteString", "internal/bytealg.IndexString"], unfollowed := true, recurses := true, named := ["internal/bytealg.MaxLen"], apart := false, narrowed := true }
def FnFullReachUptoSaid : Prop := fnFullReachUptoRow.holds Try.pinned (OpenSpec.upto fnFullReachSpec)

/-- 'laws.FnNextReach', WHERE WHAT IT READS IS OF BULK AT MOST 1048576: true; the input reads as it did. -/
def fnNextReachUptoRow : OpenClaim := { program := "ytmklpbmlgjkbiaa", sum := "3e5d699df835d744d909911ca2c6b7e09e4938a59a1e586e5d8467c85c796df8", func := "loop.example/errandry/laws.FnNextReach", spec := "fnNextReach", inPlace := ["internal/bytealg.IndexByteString", "internal/bytealg.IndexString"], unfollowed := true, recurses := true, named := ["internal/bytealg.MaxLen"], apart := false, narrowed := true }
def FnNextReachUptoSaid : Prop := fnNextReachUptoRow.holds Try.pinned (OpenSpec.upto fnNextReachSpec)

end Rows
end Go.Proofs.Ytmklpbmlgjkbiaa
