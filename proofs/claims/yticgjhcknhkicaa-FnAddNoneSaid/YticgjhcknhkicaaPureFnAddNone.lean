/- What is no number is not added, and a sum of the negatives is the negative of the sum, for every code; no condition. -/
import Derived.Test.YticgjhcknhkicaaPVx7
import Derived.Test.YticgjhcknhkicaaVVals
import Derived.Test.YticgjhcknhkicaaVDraw
namespace Go.Proofs.Yticgjhcknhkicaa.Pure
open Go.RowKit Go.Proofs.Yticgjhcknhkicaa.PV Go.Proofs.YticgjhcknhkicaaW.PrintWords Go.Proofs.YticgjhcknhkicaaW.PrintLast

theorem FnAddNone : laws_FnAddNone.Pure := by
  intro l _ _ hw
  refine ⟨4, ?_⟩
  unfold laws_FnAddNone.f
  by_cases hl : (l.length : Int) > 1048576
  · rw [if_pos hl]
  rw [if_neg hl]
  obtain ⟨a, m, b, n, h, ha, hb⟩ := drawAdd_ok 2 hw
  rw [h]
  simp only [Option.bind_some, implAdd_eq, specAdd_eq, specOk_eq, laws_FnAddNone.j0]
  rw [if_neg (by simp), if_neg (by simp)]
  by_cases h1 : okP a m
  rotate_left
  · rw [if_neg (by rw [okB_true]; exact h1)]; simp
  rw [if_pos (okB_true.2 h1)]
  by_cases h2 : okP b n
  rotate_left
  · simp [okB_false.2 h2]
  simp only [okB_true.2 h2, Bool.not_true, Bool.false_eq_true, if_false]
  have e1 : addR a m 2 1 = (0, 0, false) := addR_neg (by rintro ⟨_, _, _, h, _⟩; omega)
  have e2 : addR 0 0 b n = (0, 0, false) := addR_neg (by rintro ⟨_, _, h, _⟩; omega)
  simp only [e1, e2, Bool.false_eq_true, if_false]
  by_cases h3 : a = 1 ∧ b = 1 ∧ okP 1 (m + n)
  rotate_left
  · rw [addR_neg (fun h => h3 h.2.2)]; simp
  obtain ⟨rfl, rfl, h5⟩ := h3
  have b1 := ok1 h1; have b2 := ok1 h2; have b5 := ok1 h5
  rw [addR_pos ⟨h1, h2, rfl, rfl, h5⟩]
  simp only [if_true]
  rw [w64' (x := -m) (by omega) (by omega), w64' (x := -n) (by omega) (by omega), w64' (x := -(m + n)) (by omega) (by omega)]
  rw [addR_pos ⟨by unfold okP; omega, by unfold okP; omega, rfl, rfl, by unfold okP; omega⟩]
  simp; omega
end Go.Proofs.Yticgjhcknhkicaa.Pure
