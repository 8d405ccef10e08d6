/-
  No cell of these rows narrows 'for every input' (looked for: loops, veiled, ifaces, maps, wideKeys, modest, calm, conditions, laid).
  DERIVED. THE GIVEN ROWS OF THIS SEAT. 9 by the template 'for every input the law returns true; each argument reads behind the call as it read before'; 0 by the template 'total and deterministic' (their statements: YticgjhcknhkicaaTotals.lean).
  GIVEN WITH THE SEED: the statements are not yours to turn. If you find one false, say at which input.
  Laid BY PROGRAM, IN A SANDBOX (cutbox-rows.mjs): the forced cells as the released guide's own fill.sh prints them over the translation 26a8a34487738163… (all of the seat's roots in one cut). By AI agents, Wed Nov 11 2026. No macro, syntax, notation, axiom, sorry.
-/
import Derived.Test.YticgjhcknhkicaaChecked
import GoSem.Claim
import GoSem.ClaimJoined
import GoSem.ClaimMapViews
import Derived.JoinedTies
import Derived.KernelRfl
namespace Go.Proofs.Yticgjhcknhkicaa
/- THE CELL 'sum', in the pinned program and in every row, IS THE sha256 OF THE DUMP (.gsa) THAT YticgjhcknhkicaaProg.lean LOADS. Nothing in Lean hashes anything: it is a label: what it is worth is what the hold of that sum in a sandbox is worth. -/
noncomputable def Try.pinned : Pinned := { name := "yticgjhcknhkicaa", sum := "26a8a34487738163c34d40e1141212cbf98fc8a36cdbc425e8fa193e5fb4f38a", checked := Try.checked }
namespace Rows
def none {H : Type} : Left H := { results := [], args := [] }

/-- 'laws.FnExactConstants': WHATEVER THE INPUT: true; the input reads as it did. -/
def fnExactConstantsSpec : ChangeSpec := { name := "fnExactConstants", fn := fun _ => fun
  | [] => { results := [.lit (.bool true)], args := [] }
  | _ => none }
def fnExactConstantsRow : OpenClaim := { program := "yticgjhcknhkicaa", sum := "26a8a34487738163c34d40e1141212cbf98fc8a36cdbc425e8fa193e5fb4f38a", func := "loop.example/errandry/laws.FnExactConstants", spec := "fnExactConstants", apart := false }
def FnExactConstantsSaid : Prop := fnExactConstantsRow.holds Try.pinned (OpenSpec.ofChange fnExactConstantsSpec)

/-- ITS FALSE NEIGHBOUR: 'it returns false'. Refute it at one input. -/
def fnExactConstantsWrong : ChangeSpec := { name := "fnExactConstants", fn := fun _ => fun
  | [] => { results := [.lit (.bool false)], args := [] }
  | _ => none }
def FnExactConstantsWrongFalsely : Prop := fnExactConstantsRow.holds Try.pinned (OpenSpec.ofChange fnExactConstantsWrong)

/-- 'laws.FnExactValOk': WHATEVER THE INPUT: true; the input reads as it did. -/
def fnExactValOkSpec : ChangeSpec := { name := "fnExactValOk", fn := fun _ => fun
  | [d] => { results := [.lit (.bool true)], args := [d] }
  | _ => none }
def fnExactValOkRow : OpenClaim := { program := "yticgjhcknhkicaa", sum := "26a8a34487738163c34d40e1141212cbf98fc8a36cdbc425e8fa193e5fb4f38a", func := "loop.example/errandry/laws.FnExactValOk", spec := "fnExactValOk", apart := false }
def FnExactValOkSaid : Prop := fnExactValOkRow.holds Try.pinned (OpenSpec.ofChange fnExactValOkSpec)

/-- ITS FALSE NEIGHBOUR: 'it returns false'. Refute it at one input. -/
def fnExactValOkWrong : ChangeSpec := { name := "fnExactValOk", fn := fun _ => fun
  | [d] => { results := [.lit (.bool false)], args := [d] }
  | _ => none }
def FnExactValOkWrongFalsely : Prop := fnExactValOkRow.holds Try.pinned (OpenSpec.ofChange fnExactValOkWrong)

/-- 'laws.FnExactValFits': WHATEVER THE INPUT: true; the input reads as it did. -/
def fnExactValFitsSpec : ChangeSpec := { name := "fnExactValFits", fn := fun _ => fun
  | [d1, d2] => { results := [.lit (.bool true)], args := [d1, d2] }
  | _ => none }
def fnExactValFitsRow : OpenClaim := { program := "yticgjhcknhkicaa", sum := "26a8a34487738163c34d40e1141212cbf98fc8a36cdbc425e8fa193e5fb4f38a", func := "loop.example/errandry/laws.FnExactValFits", spec := "fnExactValFits", apart := false }
def FnExactValFitsSaid : Prop := fnExactValFitsRow.holds Try.pinned (OpenSpec.ofChange fnExactValFitsSpec)

/-- ITS FALSE NEIGHBOUR: 'it returns false'. Refute it at one input. -/
def fnExactValFitsWrong : ChangeSpec := { name := "fnExactValFits", fn := fun _ => fun
  | [d1, d2] => { results := [.lit (.bool false)], args := [d1, d2] }
  | _ => none }
def FnExactValFitsWrongFalsely : Prop := fnExactValFitsRow.holds Try.pinned (OpenSpec.ofChange fnExactValFitsWrong)

/-- 'laws.FnExactValAdd': WHATEVER THE INPUT: true; the input reads as it did. -/
def fnExactValAddSpec : ChangeSpec := { name := "fnExactValAdd", fn := fun _ => fun
  | [d1, d2] => { results := [.lit (.bool true)], args := [d1, d2] }
  | _ => none }
def fnExactValAddRow : OpenClaim := { program := "yticgjhcknhkicaa", sum := "26a8a34487738163c34d40e1141212cbf98fc8a36cdbc425e8fa193e5fb4f38a", func := "loop.example/errandry/laws.FnExactValAdd", spec := "fnExactValAdd", apart := false }
def FnExactValAddSaid : Prop := fnExactValAddRow.holds Try.pinned (OpenSpec.ofChange fnExactValAddSpec)

/-- ITS FALSE NEIGHBOUR: 'it returns false'. Refute it at one input. -/
def fnExactValAddWrong : ChangeSpec := { name := "fnExactValAdd", fn := fun _ => fun
  | [d1, d2] => { results := [.lit (.bool false)], args := [d1, d2] }
  | _ => none }
def FnExactValAddWrongFalsely : Prop := fnExactValAddRow.holds Try.pinned (OpenSpec.ofChange fnExactValAddWrong)

/-- 'laws.FnValBounds': WHATEVER THE INPUT: true; the input reads as it did. -/
def fnValBoundsSpec : ChangeSpec := { name := "fnValBounds", fn := fun _ => fun
  | [d] => { results := [.lit (.bool true)], args := [d] }
  | _ => none }
def fnValBoundsRow : OpenClaim := { program := "yticgjhcknhkicaa", sum := "26a8a34487738163c34d40e1141212cbf98fc8a36cdbc425e8fa193e5fb4f38a", func := "loop.example/errandry/laws.FnValBounds", spec := "fnValBounds", apart := false }
def FnValBoundsSaid : Prop := fnValBoundsRow.holds Try.pinned (OpenSpec.ofChange fnValBoundsSpec)

/-- ITS FALSE NEIGHBOUR: 'it returns false'. Refute it at one input. -/
def fnValBoundsWrong : ChangeSpec := { name := "fnValBounds", fn := fun _ => fun
  | [d] => { results := [.lit (.bool false)], args := [d] }
  | _ => none }
def FnValBoundsWrongFalsely : Prop := fnValBoundsRow.holds Try.pinned (OpenSpec.ofChange fnValBoundsWrong)

/-- 'laws.FnValFits': WHATEVER THE INPUT: true; the input reads as it did. -/
def fnValFitsSpec : ChangeSpec := { name := "fnValFits", fn := fun _ => fun
  | [d1, d2] => { results := [.lit (.bool true)], args := [d1, d2] }
  | _ => none }
def fnValFitsRow : OpenClaim := { program := "yticgjhcknhkicaa", sum := "26a8a34487738163c34d40e1141212cbf98fc8a36cdbc425e8fa193e5fb4f38a", func := "loop.example/errandry/laws.FnValFits", spec := "fnValFits", apart := false }
def FnValFitsSaid : Prop := fnValFitsRow.holds Try.pinned (OpenSpec.ofChange fnValFitsSpec)

/-- ITS FALSE NEIGHBOUR: 'it returns false'. Refute it at one input. -/
def fnValFitsWrong : ChangeSpec := { name := "fnValFits", fn := fun _ => fun
  | [d1, d2] => { results := [.lit (.bool false)], args := [d1, d2] }
  | _ => none }
def FnValFitsWrongFalsely : Prop := fnValFitsRow.holds Try.pinned (OpenSpec.ofChange fnValFitsWrong)

/-- 'laws.FnAddNone': WHATEVER THE INPUT: true; the input reads as it did. -/
def fnAddNoneSpec : ChangeSpec := { name := "fnAddNone", fn := fun _ => fun
  | [d] => { results := [.lit (.bool true)], args := [d] }
  | _ => none }
def fnAddNoneRow : OpenClaim := { program := "yticgjhcknhkicaa", sum := "26a8a34487738163c34d40e1141212cbf98fc8a36cdbc425e8fa193e5fb4f38a", func := "loop.example/errandry/laws.FnAddNone", spec := "fnAddNone", apart := false }
def FnAddNoneSaid : Prop := fnAddNoneRow.holds Try.pinned (OpenSpec.ofChange fnAddNoneSpec)

/-- ITS FALSE NEIGHBOUR: 'it returns false'. Refute it at one input. -/
def fnAddNoneWrong : ChangeSpec := { name := "fnAddNone", fn := fun _ => fun
  | [d] => { results := [.lit (.bool false)], args := [d] }
  | _ => none }
def FnAddNoneWrongFalsely : Prop := fnAddNoneRow.holds Try.pinned (OpenSpec.ofChange fnAddNoneWrong)

/-- 'laws.FnValAdd': WHATEVER THE INPUT: true; the input reads as it did. -/
def fnValAddSpec : ChangeSpec := { name := "fnValAdd", fn := fun _ => fun
  | [d] => { results := [.lit (.bool true)], args := [d] }
  | _ => none }
def fnValAddRow : OpenClaim := { program := "yticgjhcknhkicaa", sum := "26a8a34487738163c34d40e1141212cbf98fc8a36cdbc425e8fa193e5fb4f38a", func := "loop.example/errandry/laws.FnValAdd", spec := "fnValAdd", apart := false }
def FnValAddSaid : Prop := fnValAddRow.holds Try.pinned (OpenSpec.ofChange fnValAddSpec)

/-- ITS FALSE NEIGHBOUR: 'it returns false'. Refute it at one input. -/
def fnValAddWrong : ChangeSpec := { name := "fnValAdd", fn := fun _ => fun
  | [d] => { results := [.lit (.bool false)], args := [d] }
  | _ => none }
def FnValAddWrongFalsely : Prop := fnValAddRow.holds Try.pinned (OpenSpec.ofChange fnValAddWrong)

/-- 'laws.FnValThree': WHATEVER THE INPUT: true; the input reads as it did. -/
def fnValThreeSpec : ChangeSpec := { name := "fnValThree", fn := fun _ => fun
  | [d1, d2] => { results := [.lit (.bool true)], args := [d1, d2] }
  | _ => none }
def fnValThreeRow : OpenClaim := { program := "yticgjhcknhkicaa", sum := "26a8a34487738163c34d40e1141212cbf98fc8a36cdbc425e8fa193e5fb4f38a", func := "loop.example/errandry/laws.FnValThree", spec := "fnValThree", apart := false }
def FnValThreeSaid : Prop := fnValThreeRow.holds Try.pinned (OpenSpec.ofChange fnValThreeSpec)

/-- ITS FALSE NEIGHBOUR: 'it returns false'. Refute it at one input. -/
def fnValThreeWrong : ChangeSpec := { name := "fnValThree", fn := fun _ => fun
  | [d1, d2] => { results := [.lit (.bool false)], args := [d1, d2] }
  | _ => none }
def FnValThreeWrongFalsely : Prop := fnValThreeRow.holds Try.pinned (OpenSpec.ofChange fnValThreeWrong)

/- THE SECOND FORM. 'bulk': how many values and letters a reading holds, each counted each time it is reached (what is shared counts as often as it is met; a slice's spare places count too). A statement '..UptoSaid' is the law's where the arguments, and the package variables that the reading takes, are together of bulk at most 1048576: NARROWER than '..Said'. Prove '..Said' where nothing that the law and all that it calls make is longer than what came in: it says more and counts as full. Else prove '..UptoSaid'. A law counts once. -/
mutual
def uptoBulk {H : Type} : DataW H → Nat
  | .lit (.string bytes) => bytes.length + 1
  | .lit _ => 1
  | .nil => 1
  | .ptr d => uptoBulk d + 1
  | .slice elems spare => uptoBulkAll elems + uptoBulkAll spare + 1
  | .agg parts => uptoBulkAll parts + 1
  | .iface _ d => uptoBulk d + 1
  | .map entries => uptoBulkEntries entries + 1
  | .held _ => 1
def uptoBulkAll {H : Type} : List (DataW H) → Nat
  | [] => 0
  | d :: r => uptoBulk d + uptoBulkAll r
def uptoBulkEntries {H : Type} : List (Lit × DataW H) → Nat
  | [] => 0
  | x :: r => uptoBulkEntry x + uptoBulkEntries r
def uptoBulkEntry {H : Type} : Lit × DataW H → Nat
  | (.string bytes, d) => bytes.length + uptoBulk d + 1
  | (_, d) => uptoBulk d + 1
 end
def uptoSmall : (H : Type) → List (DataW H) → Bool := fun _ ds => decide (uptoBulkAll ds ≤ 1048576)
def OpenSpec.upto (s : _root_.Go.ChangeSpec) : _root_.Go.OpenSpec := { _root_.Go.OpenSpec.ofChange s with cond := some uptoSmall }

/-- 'laws.FnExactConstants', WHERE WHAT IT READS IS OF BULK AT MOST 1048576: true; the input reads as it did. -/
def fnExactConstantsUptoRow : OpenClaim := { program := "yticgjhcknhkicaa", sum := "26a8a34487738163c34d40e1141212cbf98fc8a36cdbc425e8fa193e5fb4f38a", func := "loop.example/errandry/laws.FnExactConstants", spec := "fnExactConstants", apart := false, narrowed := true }
def FnExactConstantsUptoSaid : Prop := fnExactConstantsUptoRow.holds Try.pinned (OpenSpec.upto fnExactConstantsSpec)

/-- 'laws.FnExactValOk', WHERE WHAT IT READS IS OF BULK AT MOST 1048576: true; the input reads as it did. -/
def fnExactValOkUptoRow : OpenClaim := { program := "yticgjhcknhkicaa", sum := "26a8a34487738163c34d40e1141212cbf98fc8a36cdbc425e8fa193e5fb4f38a", func := "loop.example/errandry/laws.FnExactValOk", spec := "fnExactValOk", apart := false, narrowed := true }
def FnExactValOkUptoSaid : Prop := fnExactValOkUptoRow.holds Try.pinned (OpenSpec.upto fnExactValOkSpec)

/-- 'laws.FnExactValFits', WHERE WHAT IT READS IS OF BULK AT MOST 1048576: true; the input reads as it did. -/
def fnExactValFitsUptoRow : OpenClaim := { program := "yticgjhcknhkicaa", sum := "26a8a34487738163c34d40e1141212cbf98fc8a36cdbc425e8fa193e5fb4f38a", func := "loop.example/errandry/laws.FnExactValFits", spec := "fnExactValFits", apart := false, narrowed := true }
def FnExactValFitsUptoSaid : Prop := fnExactValFitsUptoRow.holds Try.pinned (OpenSpec.upto fnExactValFitsSpec)

/-- 'laws.FnExactValAdd', WHERE WHAT IT READS IS OF BULK AT MOST 1048576: true; the input reads as it did. -/
def fnExactValAddUptoRow : OpenClaim := { program := "yticgjhcknhkicaa", sum := "26a8a34487738163c34d40e1141212cbf98fc8a36cdbc425e8fa193e5fb4f38a", func := "loop.example/errandry/laws.FnExactValAdd", spec := "fnExactValAdd", apart := false, narrowed := true }
def FnExactValAddUptoSaid : Prop := fnExactValAddUptoRow.holds Try.pinned (OpenSpec.upto fnExactValAddSpec)

/-- 'laws.FnValBounds', WHERE WHAT IT READS IS OF BULK AT MOST 1048576: true; the input reads as it did. -/
def fnValBoundsUptoRow : OpenClaim := { program := "yticgjhcknhkicaa", sum := "26a8a34487738163c34d40e1141212cbf98fc8a36cdbc425e8fa193e5fb4f38a", func := "loop.example/errandry/laws.FnValBounds", spec := "fnValBounds", apart := false, narrowed := true }
def FnValBoundsUptoSaid : Prop := fnValBoundsUptoRow.holds Try.pinned (OpenSpec.upto fnValBoundsSpec)

/-- 'laws.FnValFits', WHERE WHAT IT READS IS OF BULK AT MOST 1048576: true; the input reads as it did. -/
def fnValFitsUptoRow : OpenClaim := { program := "yticgjhcknhkicaa", sum := "26a8a34487738163c34d40e1141212cbf98fc8a36cdbc425e8fa193e5fb4f38a", func := "loop.example/errandry/laws.FnValFits", spec := "fnValFits", apart := false, narrowed := true }
def FnValFitsUptoSaid : Prop := fnValFitsUptoRow.holds Try.pinned (OpenSpec.upto fnValFitsSpec)

/-- 'laws.FnAddNone', WHERE WHAT IT READS IS OF BULK AT MOST 1048576: true; the input reads as it did. -/
def fnAddNoneUptoRow : OpenClaim := { program := "yticgjhcknhkicaa", sum := "26a8a34487738163c34d40e1141212cbf98fc8a36cdbc425e8fa193e5fb4f38a", func := "loop.example/errandry/laws.FnAddNone", spec := "fnAddNone", apart := false, narrowed := true }
def FnAddNoneUptoSaid : Prop := fnAddNoneUptoRow.holds Try.pinned (OpenSpec.upto fnAddNoneSpec)

/-- 'laws.FnValAdd', WHERE WHAT IT READS IS OF BULK AT MOST 1048576: true; the input reads as it did. -/
def fnValAddUptoRow : OpenClaim := { program := "yticgjhcknhkicaa", sum := "26a8a34487738163c34d40e1141212cbf98fc8a36cdbc425e8fa193e5fb4f38a", func := "loop.example/errandry/laws.FnValAdd", spec := "fnValAdd", apart := false, narrowed := true }
def FnValAddUptoSaid : Prop := fnValAddUptoRow.holds Try.pinned (OpenSpec.upto fnValAddSpec)

/-- 'laws.FnValThree', WHERE WHAT IT READS IS OF BULK AT MOST 1048576: true; the input reads as it did. -/
def fnValThreeUptoRow : OpenClaim := { program := "yticgjhcknhkicaa", sum := "26a8a34487738163c34d40e1141212cbf98fc8a36cdbc425e8fa193e5fb4f38a", func := "loop.example/errandry/laws.FnValThree", spec := "fnValThree", apart := false, narrowed := true }
def FnValThreeUptoSaid : Prop := fnValThreeUptoRow.holds Try.pinned (OpenSpec.upto fnValThreeSpec)

end Rows
end Go.Proofs.Yticgjhcknhkicaa
