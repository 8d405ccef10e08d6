/- Small contracts of the reference's, under OpOk; no condition. -/
import Derived.Test.YtmklpbmlgjkbiaaPSx2
import Derived.Test.YtmklpbmlgjkbiaaHVal
namespace Go.Proofs.Ytmklpbmlgjkbiaa.PS
open Go.RowKit Go.Proofs.YtmklpbmlgjkbiaaW.PrintWords Go.Proofs.YtmklpbmlgjkbiaaW.PrintLast
set_option linter.unusedVariables false
set_option linter.unusedSimpArgs false
set_option maxRecDepth 100000
attribute [local go_sem high] eqA27
theorem in2_any (a b c : Int) (w : World) : Calls Try.prog 59 #[.int .i64 a, .int .i64 b, .int .i64 c] w fun e w' => e = .returned (.bool (decide (b ≤ a ∧ a ≤ c))) ∧ w = w' := by
  by_cases h1 : b ≤ a <;> by_cases h2 : a ≤ c <;> (go_enter Try.func59, Try.ntmps59; go_wp2; go_ret; exact ⟨by simp [h1, h2], rfl⟩)
theorem slot_any (a : Int) (w : World) : Calls Try.prog 60 #[.int .i64 a] w fun e w' => e = .returned (.bool (decide (0 ≤ a ∧ a ≤ 3))) ∧ w = w' := by
  go_enter Try.func60, Try.ntmps60
  go_wp2_with (go_at_call 59; refine (in2_any _ _ _ _).mono ?_; rintro e w' ⟨rfl, rfl⟩)
  go_ret
  exact ⟨by first | rfl | simp, rfl⟩
theorem to_any (a : Int) (w : World) : Calls Try.prog 61 #[.int .i64 a] w fun e w' => e = .returned (.bool (decide (0 ≤ a ∧ a ≤ 15))) ∧ w = w' := by
  go_enter Try.func61, Try.ntmps61
  go_wp2_with (go_at_call 59; refine (in2_any _ _ _ _).mono ?_; rintro e w' ⟨rfl, rfl⟩)
  go_ret
  exact ⟨by first | rfl | simp, rfl⟩
theorem cell_lt {w : World} {g i : Nat} {v : Value} (h : w.cell? ⟨g, i, none⟩ = some v) : g < w.heap.size := by
  by_cases hg : g < w.heap.size
  · exact hg
  · simp [World.cell?, Array.getElem?_eq_none (Nat.not_lt.1 hg)] at h
/-- A row of four Bools of the call's own, as it lies. -/
theorem own4 {w : World} {base : Nat} {ok : Nat → Prop} {v : Value} {a b c d : Bool} (h : Kd.R Kd.bool 4 w base ok v [a, b, c, d]) :
    ∃ g cap, v = .slice (some ⟨g, 0, none⟩) 4 cap ∧ base ≤ g ∧ w.cell? ⟨g, 0, none⟩ = some (.bool a) ∧ w.cell? ⟨g, 1, none⟩ = some (.bool b) ∧ w.cell? ⟨g, 2, none⟩ = some (.bool c) ∧ w.cell? ⟨g, 3, none⟩ = some (.bool d) := by
  obtain ⟨inner, ho⟩ := Kd.R_own h
  rcases ho.2 with ⟨_, h2⟩ | ⟨g, cap, cur, rfl, hg, _⟩
  · obtain ⟨A, c0, e, _, hC⟩ := Kd.R_reads h
    have := ho.2
    simp_all
  · exact ⟨g, cap, rfl, hg, (Kd.R_cell (xs := [a, b, c, d]) false h 0 (by omega) (by simp)).1, (Kd.R_cell (xs := [a, b, c, d]) false h 1 (by omega) (by simp)).1, (Kd.R_cell (xs := [a, b, c, d]) false h 2 (by omega) (by simp)).1, (Kd.R_cell (xs := [a, b, c, d]) false h 3 (by omega) (by simp)).1⟩

end Go.Proofs.Ytmklpbmlgjkbiaa.PS
