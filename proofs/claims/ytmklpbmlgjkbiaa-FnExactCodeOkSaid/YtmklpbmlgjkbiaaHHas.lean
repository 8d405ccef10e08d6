/- Whether a step has a slot, a place, a value: told by its kind; no condition. -/
import Derived.Test.YtmklpbmlgjkbiaaHHow
import Derived.Test.YtmklpbmlgjkbiaaHStr

namespace Go.Proofs.Ytmklpbmlgjkbiaa.PS
open Go.RowKit Go.Proofs.YtmklpbmlgjkbiaaW.PrintWords Go.Proofs.YtmklpbmlgjkbiaaW.PrintLast
set_option linter.unusedVariables false
set_option maxRecDepth 100000
def hasC (k : Int) (c : UInt8) : Bool := decide (0 ≤ Lib.indexByte (howR k).f1.data.toList c)
theorem hasC_R (k : Int) : hasC k 82 = hasR k := by
  refine kinds (P := fun k => hasC k 82 = hasR k) (fun k hk => ?_) (by decide) (by decide) (by decide) (by decide) (by decide) (by decide) (by decide) (by decide) (by decide) (by decide) (by decide) (by decide) (by decide) (by decide) k
  unfold hasC howR
  rw [if_neg hk]
  have : hasR k = false := by unfold hasR; exact decide_eq_false (by omega)
  rw [this]; decide
theorem hasC_S (k : Int) : hasC k 83 = hasS k := by
  refine kinds (P := fun k => hasC k 83 = hasS k) (fun k hk => ?_) (by decide) (by decide) (by decide) (by decide) (by decide) (by decide) (by decide) (by decide) (by decide) (by decide) (by decide) (by decide) (by decide) (by decide) k
  unfold hasC howR
  rw [if_neg hk]
  have : hasS k = false := by unfold hasS; exact decide_eq_false (by omega)
  rw [this]; decide
theorem hasC_T (k : Int) : hasC k 84 = hasT k := by
  refine kinds (P := fun k => hasC k 84 = hasT k) (fun k hk => ?_) (by decide) (by decide) (by decide) (by decide) (by decide) (by decide) (by decide) (by decide) (by decide) (by decide) (by decide) (by decide) (by decide) (by decide) k
  unfold hasC howR
  rw [if_neg hk]
  have : hasT k = false := by unfold hasT; exact decide_eq_false (by omega)
  rw [this]; decide
theorem hasC_V (k : Int) : hasC k 86 = hasV k := by
  refine kinds (P := fun k => hasC k 86 = hasV k) (fun k hk => ?_) (by decide) (by decide) (by decide) (by decide) (by decide) (by decide) (by decide) (by decide) (by decide) (by decide) (by decide) (by decide) (by decide) (by decide) k
  unfold hasC howR
  rw [if_neg hk]
  have : hasV k = false := by unfold hasV; exact decide_eq_false (by omega)
  rw [this]; decide
set_option maxHeartbeats 4000000 in
theorem has_any (k r s t vk vn : Int) (c : UInt8) (w : World) :
    Calls Try.prog 64 #[.agg #[.int .i64 k, .int .i64 r, .int .i64 s, .int .i64 t, .int .i64 vk, .int .i64 vn], .string ⟨#[c]⟩] w fun e w' => e = .returned (.bool (hasC k c)) ∧ Below w.heap.size w w' := by
  have hw := fun W : World => impl_Op_how.calls k r s t vk vn (howR k).f0 (howR k).f1 (howR k).f2 (howR k).f3 W rfl
  obtain ⟨x, hx⟩ : ∃ x, x = howR k := ⟨_, rfl⟩
  unfold hasC
  rw [← hx] at hw ⊢
  clear hx
  have hu66 := Try.underlying66
  have hfd : ∀ (a b c d : Value) (W : World), Sem.run Try.prog (Instr.field 66 (.agg #[a, b, c, d]) 1) W = .ok b W := fun _ _ _ _ _ => by kernel_rfl
  go_enter Try.func64, Try.ntmps64
  go_wp2_with (first | (go_at_call 67; refine (hw _).mono ?_; rintro e w' ⟨rfl, hb⟩) | (go_at_call 87; refine (contains_one _ _ _).mono ?_; rintro e w' ⟨rfl, rfl⟩))
  go_ret
  exact ⟨rfl, below_step (below_alloc (Below.refl _ _) _) hb⟩
end Go.Proofs.Ytmklpbmlgjkbiaa.PS
