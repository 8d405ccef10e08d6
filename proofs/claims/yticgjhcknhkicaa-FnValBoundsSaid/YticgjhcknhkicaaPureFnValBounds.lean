/- A drawn value that is ok lies within its kind's bounds, for every code; no condition. -/
import Derived.Test.YticgjhcknhkicaaPVx4
import Derived.Test.YticgjhcknhkicaaVVals
import Derived.Test.YticgjhcknhkicaaVDraw
namespace Go.Proofs.Yticgjhcknhkicaa.Pure
open Go.RowKit Go.Proofs.Yticgjhcknhkicaa.PV Go.Proofs.YticgjhcknhkicaaW.PrintWords Go.Proofs.YticgjhcknhkicaaW.PrintLast

theorem FnValBounds : laws_FnValBounds.Pure := by
  intro l _ _ hw
  refine ⟨3, ?_⟩
  unfold laws_FnValBounds.f
  by_cases hl : (l.length : Int) > 1048576
  · rw [if_pos hl]
  rw [if_neg hl]
  obtain ⟨kd, n, h, hd⟩ := drawOk_ok 1 hw
  rw [h]
  simp only [Option.bind_some, implOk_eq, specOk_eq, laws_FnValBounds.j0]
  rw [if_neg (by simp)]
  by_cases ho : okP kd n
  rotate_left
  · have e : okB kd n = false := okB_false.2 ho
    simp [e]
  have e : okB kd n = true := okB_true.2 ho
  simp only [e, Bool.not_true, Bool.false_eq_true, if_false]
  have hk : kd = 0 ∨ kd = 1 ∨ kd = 2 ∨ kd = 3 := by unfold okP at ho; omega
  rcases hk with rfl | rfl | rfl | rfl
  · have : n = 0 := by unfold okP at ho; omega
    subst this; simp [rd, okB, okP, wrap64]
  · simp [rd, okB, okP, wrap64]
  · simp [rd, okB, okP, wrap64]
  · simp [rd, okB, okP, wrap64]
end Go.Proofs.Yticgjhcknhkicaa.Pure
