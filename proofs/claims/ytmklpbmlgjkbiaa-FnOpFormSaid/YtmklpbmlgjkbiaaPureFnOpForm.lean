/- The plain law behind FnOpForm: a step has what its kind has; no condition. -/
import Derived.Test.YtmklpbmlgjkbiaaPCx1
import Derived.Test.YtmklpbmlgjkbiaaHDraw
namespace Go.Proofs.Ytmklpbmlgjkbiaa.Pure
open Go.RowKit Go.Proofs.Ytmklpbmlgjkbiaa.PC Go.Proofs.Ytmklpbmlgjkbiaa.PS Go.Proofs.YtmklpbmlgjkbiaaW.PrintWords Go.Proofs.YtmklpbmlgjkbiaaW.PrintLast

theorem opV_no {k r s t vk vn : Int} (h : opV.f k r s t vk vn ≠ some true) : opV.f k r s t vk vn = some false := by
  unfold opV.f at h ⊢
  cases e : opB k r s t vk vn
  · rfl
  · rw [e] at h; exact absurd rfl h
theorem FnOpForm : laws_FnOpForm.Pure := by
  intro l _ _ hw
  refine ⟨7, ?_⟩
  unfold laws_FnOpForm.f
  split
  · rfl
  obtain ⟨x, r, s, t, vk, vn, h, -⟩ := drawOpOk_ok 0 hw
  rw [h]; simp only [Option.bind_some]
  by_cases c : opB x r s t vk vn = true
  · rw [show opV.f x r s t vk vn = some true from congrArg some c]
    simp only [Option.bind_some, opV_no form_r, opV_no form_s, opV_no form_t, opV_no form_v, opV_no form_e]
    simp
  · rw [show opV.f x r s t vk vn = some false from congrArg some (Bool.eq_false_iff.mpr c)]
    simp
end Go.Proofs.Ytmklpbmlgjkbiaa.Pure
