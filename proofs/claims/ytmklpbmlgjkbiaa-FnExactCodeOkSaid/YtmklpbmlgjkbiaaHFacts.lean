/- What a row says of the program's head, without Lean's kernel reading the head's long text as bytes. -/
import Derived.Test.YtmklpbmlgjkbiaaProg
import Derived.KernelRfl
import GoSem.ClaimJoined
import Derived.JoinedOf
namespace Go.Proofs.Ytmklpbmlgjkbiaa.Facts
set_option linter.unusedVariables false
set_option maxRecDepth 1000000
theorem headIs {ws : List (List Char)} {c : List Char} (h : (behindMainWord ws).head? = some c) : ∃ rest, behindMainWord ws = c :: rest := by
  cases hb : behindMainWord ws with
  | nil => rw [hb] at h; cases h
  | cons a r => rw [hb] at h; cases h; exact ⟨r, rfl⟩
theorem signs {s : String} {l : List Char} {c : List Char} (h : s = String.ofList l) (k : (behindMainWord (wordsSigns l)).head? = some c) : ∃ rest, behindMainWord (wordsSigns s.toList) = c :: rest := by
  subst h; rw [String.toList_ofList]; exact headIs k
theorem cutHead : ∃ rest, behindMainWord (wordsSigns Try.prog.initOrder.toList) = "cut".toList :: rest := by
  show ∃ rest, behindMainWord (wordsSigns Try.progTables.initOrder.toList) = "cut".toList :: rest
  unfold Try.progTables
  exact signs rfl (by kernel_rfl)
theorem noLifts (rest : List (List Char)) : stripLifts liftWords ("cut".toList :: rest) = ([], "cut".toList :: rest) := by kernel_rfl
theorem made_of {P : Program} {rest : List (List Char)} (h : behindMainWord (wordsSigns P.initOrder.toList) = "cut".toList :: rest) : P.make = some .cut := by
  unfold Program.make
  rw [h]
  kernel_rfl
theorem may_of {P : Program} {rest : List (List Char)} (h : behindMainWord (wordsSigns P.initOrder.toList) = "cut".toList :: rest)
    (h1 : P.laysLater = false) (h2 : P.bearsReflect = false) (h3 : P.doorFits [] = true) : P.mayEnter = true := by
  unfold Program.mayEnter
  rw [h]
  simp only [noLifts, h1, h2, h3]
  kernel_rfl
theorem lifts_of {P : Program} {rest : List (List Char)} (h : behindMainWord (wordsSigns P.initOrder.toList) = "cut".toList :: rest) : P.liftsFinal = false := by
  unfold Program.liftsFinal Program.headLifts
  rw [h]
  kernel_rfl
theorem may : Try.prog.mayEnter = true := by
  obtain ⟨rest, h⟩ := cutHead
  exact may_of h (by kernel_rfl) (by kernel_rfl) (by kernel_rfl)
theorem lifts : Try.prog.liftsFinal = false := by
  obtain ⟨rest, h⟩ := cutHead
  exact lifts_of h
theorem made : Try.prog.make = some Make.cut := by
  obtain ⟨rest, h⟩ := cutHead
  exact made_of h
theorem band {a b : Bool} (ha : a = true) (hb : b = true) : (a && b) = true := by rw [ha, hb]; rfl
theorem flifts {b : Bool} (h : (b == false) = true) : (b == Try.prog.liftsFinal) = true := by rw [lifts]; exact h
theorem fmade {m : Make} (h : (some Make.cut == some m) = true) : (Try.prog.make == some m) = true := by rw [made]; exact h
end Go.Proofs.Ytmklpbmlgjkbiaa.Facts
