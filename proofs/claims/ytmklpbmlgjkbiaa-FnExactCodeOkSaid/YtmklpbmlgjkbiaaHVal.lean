/- The value of a step, as the program looks at it; no condition. -/
import Derived.Test.YtmklpbmlgjkbiaaHField
import Derived.Deep.QuietTactic
import Derived.BigQuiet

namespace Go.Proofs.Ytmklpbmlgjkbiaa.PS
open Go.RowKit Go.Proofs.YtmklpbmlgjkbiaaW.PrintWords Go.Proofs.YtmklpbmlgjkbiaaW.PrintLast
set_option linter.unusedVariables false
set_option linter.unusedSimpArgs false
set_option maxRecDepth 100000
attribute [local go_sem high] eqA27
/-- What the walk ends in, told by a Bool that is known. -/
theorem ends_bool {w w' : World} {a b : Bool} (h : Aside0 (b = a)) (hb : Below w.heap.size w w') : Ending.returned (Value.bool a) = .returned (.bool b) ∧ Below w.heap.size w w' := ⟨by rw [h.out], hb⟩
def valB (k vk vn : Int) : Bool := decide (valP k vk vn)
theorem valB_8 (vk vn : Int) : valB 8 vk vn = (okB vk vn && ((vk == 1) && decide (1 ≤ vn))) := by
  unfold valB valP okB; by_cases a : vk = 1 <;> by_cases b : 1 ≤ vn <;> by_cases c : okP vk vn <;> simp [a, b, c]
theorem valB_13 (vk vn : Int) : valB 13 vk vn = ((vk == 1) && decide (0 ≤ vn ∧ vn ≤ 1)) := by
  unfold valB valP okP; by_cases a : vk = 1 <;> by_cases b : 0 ≤ vn ∧ vn ≤ 1 <;> simp [a, b] <;> omega
theorem valB_other (k vk vn : Int) (h8 : k ≠ 8) (h13 : k ≠ 13) : valB k vk vn = okB vk vn := by
  unfold valB valP okB; simp [h8, h13]
set_option maxHeartbeats 4000000 in
theorem valOp_any (k r s t vk vn : Int) (w : World) :
    Calls Try.prog 66 #[.agg #[.int .i64 k, .int .i64 r, .int .i64 s, .int .i64 t, .int .i64 vk, .int .i64 vn]] w fun e w' => e = .returned (.bool (valB k vk vn)) ∧ Below w.heap.size w w' := by
  by_cases h8 : k = 8
  · subst h8
    have hw := fun W : World => valok_any vk vn W
    obtain ⟨g, hg⟩ : ∃ g, g = valB 8 vk vn := ⟨_, rfl⟩
    obtain ⟨h, hh⟩ : ∃ h, h = okB vk vn := ⟨_, rfl⟩
    have HH := Aside0.mk (hg.trans (valB_8 vk vn))
    rw [← hg]
    rw [← hh] at hw HH
    clear hg hh
    by_cases h1 : vk = 1
    · subst h1
      simp only [beq_self_eq_true, Bool.true_and] at HH
      cases h
      · go_enter Try.func66, Try.ntmps66
        go_wp2_with (go_at_call 88; refine (hw _).mono ?_; rintro e w' ⟨rfl, hb⟩; obtain ⟨b1, b2⟩ := bcell hb)
        go_ret
        exact ends_bool HH (below_step (below_alloc (Below.refl _ _) _) hb)
      · go_enter Try.func66, Try.ntmps66
        go_wp2_with (go_at_call 88; refine (hw _).mono ?_; rintro e w' ⟨rfl, hb⟩; obtain ⟨b1, b2⟩ := bcell hb)
        go_ret
        exact ends_bool HH (below_step (below_alloc (Below.refl _ _) _) hb)
    · have c1 : (vk == 1) = false := by simpa using h1
      rw [c1, Bool.false_and, Bool.and_false] at HH
      cases h
      · go_enter Try.func66, Try.ntmps66
        go_wp2_with (go_at_call 88; refine (hw _).mono ?_; rintro e w' ⟨rfl, hb⟩; obtain ⟨b1, b2⟩ := bcell hb)
        go_ret
        exact ends_bool HH (below_step (below_alloc (Below.refl _ _) _) hb)
      · go_enter Try.func66, Try.ntmps66
        go_wp2_with (go_at_call 88; refine (hw _).mono ?_; rintro e w' ⟨rfl, hb⟩; obtain ⟨b1, b2⟩ := bcell hb)
        go_ret
        exact ends_bool HH (below_step (below_alloc (Below.refl _ _) _) hb)
  by_cases h13 : k = 13
  · subst h13
    obtain ⟨g, hg⟩ : ∃ g, g = valB 13 vk vn := ⟨_, rfl⟩
    have HH := Aside0.mk (hg.trans (valB_13 vk vn))
    rw [← hg]
    clear hg
    by_cases h1 : vk = 1
    · subst h1
      simp only [beq_self_eq_true, Bool.true_and] at HH
      have hw := fun W : World => in_any vn 0 1 W
      obtain ⟨h, hh⟩ : ∃ h, h = decide (0 ≤ vn ∧ vn ≤ 1) := ⟨_, rfl⟩
      rw [← hh] at hw HH
      clear hh
      go_enter Try.func66, Try.ntmps66
      go_wp2_with (go_at_call 65; refine (hw _).mono ?_; rintro e w' ⟨rfl, rfl⟩)
      go_ret
      exact ends_bool HH (below_alloc (Below.refl _ _) _)
    · have c1 : (vk == 1) = false := by simpa using h1
      rw [c1, Bool.false_and] at HH
      go_enter Try.func66, Try.ntmps66
      go_wp2
      go_ret
      exact ends_bool HH (below_alloc (Below.refl _ _) _)
  have HH := Aside0.mk (valB_other k vk vn h8 h13)
  have c8 : (k == 8) = false := by simpa using h8
  have c13 : (k == 13) = false := by simpa using h13
  have hw := fun W : World => valok_any vk vn W
  obtain ⟨g, hg⟩ : ∃ g, g = valB k vk vn := ⟨_, rfl⟩
  obtain ⟨h, hh⟩ : ∃ h, h = okB vk vn := ⟨_, rfl⟩
  rw [← hg]
  rw [← hg, ← hh] at HH
  rw [← hh] at hw
  clear hg hh
  go_enter Try.func66, Try.ntmps66
  go_wp2_with (go_at_call 88; refine (hw _).mono ?_; rintro e w' ⟨rfl, hb⟩; obtain ⟨b1, b2⟩ := bcell hb)
  go_ret
  exact ends_bool HH (below_step (below_alloc (Below.refl _ _) _) hb)
end Go.Proofs.Ytmklpbmlgjkbiaa.PS
