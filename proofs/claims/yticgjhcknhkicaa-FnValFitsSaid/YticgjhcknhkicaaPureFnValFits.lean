/- A drawn value fits its own kind and the kind 0, and no other, for every code; no condition. -/
import Derived.Test.YticgjhcknhkicaaPVx5
import Derived.Test.YticgjhcknhkicaaVVals
import Derived.Test.YticgjhcknhkicaaVDraw
namespace Go.Proofs.Yticgjhcknhkicaa.Pure
open Go.RowKit Go.Proofs.Yticgjhcknhkicaa.PV Go.Proofs.YticgjhcknhkicaaW.PrintWords Go.Proofs.YticgjhcknhkicaaW.PrintLast

theorem FnValFits : laws_FnValFits.Pure := by
  intro l m _ _ hw hm _ _
  refine ⟨4, ?_⟩
  unfold laws_FnValFits.f
  by_cases hl : (l.length : Int) > 1048576
  · rw [if_pos hl]; simp [laws_FnValFits.j0]
  rw [if_neg hl]
  by_cases hl2 : (m.length : Int) > 1048576
  · simp [laws_FnValFits.j0, hl2]
  simp only [laws_FnValFits.j0, decide_eq_true_eq]
  rw [if_neg hl2]
  obtain ⟨kd, n, q, h, hd, q0, q1⟩ := drawFits_ok 1 hw
  rw [h]
  simp only [Option.bind_some, implFits_eq, specFits_eq, specOk_eq, laws_FnValFits.j1]
  rw [if_neg (by simp)]
  by_cases ho : okP kd n
  rotate_left
  · have e : okB kd n = false := okB_false.2 ho
    simp [e]
  have e : okB kd n = true := okB_true.2 ho
  simp only [e, Bool.not_true, Bool.false_eq_true, if_false]
  have f0 : fitR kd n 0 = true := by simp [fitR, ho]
  have f4 : fitR kd n 4 = false := by simp [fitR, ho]; unfold okP at ho; omega
  have f1 : ∀ z : Int, 1 ≤ z → fitR kd n z = (kd == z) := fun z hz => by
    have : (okP kd n ∧ (z = 0 ∨ z = kd)) ↔ kd = z := ⟨fun h => by omega, fun h => ⟨ho, by omega⟩⟩
    rw [beqd]; simp [fitR, this]
  rw [f0, f4, f1 _ (by omega)]
  simp
end Go.Proofs.Yticgjhcknhkicaa.Pure
