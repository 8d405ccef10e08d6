/- A sum of drawn values does not mind which is first, and is the sum where there is one, for every code; no condition. -/
import Derived.Test.YticgjhcknhkicaaPVx8
import Derived.Test.YticgjhcknhkicaaVVals
import Derived.Test.YticgjhcknhkicaaVDraw
namespace Go.Proofs.Yticgjhcknhkicaa.Pure
open Go.RowKit Go.Proofs.Yticgjhcknhkicaa.PV Go.Proofs.YticgjhcknhkicaaW.PrintWords Go.Proofs.YticgjhcknhkicaaW.PrintLast

theorem addR_comm (a m b n : Int) : addR a m b n = addR b n a m := by
  unfold addR
  by_cases h : okP a m ∧ okP b n ∧ a = 1 ∧ b = 1 ∧ okP 1 (m + n)
  · rw [if_pos h, if_pos ⟨h.2.1, h.1, h.2.2.2.1, h.2.2.1, by rw [Int.add_comm]; exact h.2.2.2.2⟩, Int.add_comm]
  · rw [if_neg h, if_neg (fun g => h ⟨g.2.1, g.1, g.2.2.2.1, g.2.2.1, by rw [Int.add_comm]; exact g.2.2.2.2⟩)]

theorem FnValAdd : laws_FnValAdd.Pure := by
  intro l _ _ hw
  refine ⟨5, ?_⟩
  unfold laws_FnValAdd.f
  by_cases hl : (l.length : Int) > 1048576
  · rw [if_pos hl]
  rw [if_neg hl]
  obtain ⟨a, m, b, n, h, ha, hb⟩ := drawAdd_ok 3 hw
  rw [h]
  simp only [Option.bind_some, implAdd_eq, specAdd_eq, specOk_eq, laws_FnValAdd.j0]
  rw [if_neg (by simp), if_neg (by simp)]
  by_cases h1 : okP a m
  rotate_left
  · rw [if_neg (by rw [okB_true]; exact h1)]; simp
  rw [if_pos (okB_true.2 h1)]
  by_cases h2 : okP b n
  rotate_left
  · simp [okB_false.2 h2]
  simp only [okB_true.2 h2, Bool.not_true, Bool.false_eq_true, if_false]
  rw [addR_comm b n a m, if_neg (by simp)]
  simp only [laws_FnValAdd.j1]
  rw [if_neg (by simp)]
  by_cases h3 : a = 1 ∧ b = 1 ∧ okP 1 (m + n)
  · obtain ⟨rfl, rfl, h5⟩ := h3
    have b1 := ok1 h1; have b2 := ok1 h2
    rw [addR_pos ⟨h1, h2, rfl, rfl, h5⟩]
    simp only [if_true]
    rw [w64' (x := m + n) (by omega) (by omega), if_pos rfl, implOk_eq]
    simp [okB_true.2 h5]
  · rw [addR_neg (fun h => h3 h.2.2)]
    simp only [Bool.false_eq_true, if_false]
    by_cases h4 : a = 1
    rotate_left
    · rw [if_neg h4]
    rw [if_pos h4]
    by_cases h5 : b = 1
    rotate_left
    · rw [if_neg h5]
    rw [if_pos h5]
    subst h4; subst h5
    have b1 := ok1 h1; have b2 := ok1 h2
    have b3 : ¬ okP 1 (m + n) := fun h => h3 ⟨rfl, rfl, h⟩
    rw [w64' (x := m + n) (by omega) (by omega)]
    unfold okP at b3
    by_cases h6 : m + n > 99
    · rw [if_pos h6]
    · rw [if_neg h6]; simp; omega
end Go.Proofs.Yticgjhcknhkicaa.Pure
