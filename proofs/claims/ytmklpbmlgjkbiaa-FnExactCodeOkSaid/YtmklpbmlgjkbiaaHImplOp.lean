/- The program's OpOk says what the plain opB says, for every step; no condition. -/
import Derived.Test.YtmklpbmlgjkbiaaHWalk
namespace Go.Proofs.Ytmklpbmlgjkbiaa.PS
open Go.RowKit Go.Proofs.YtmklpbmlgjkbiaaW.PrintWords Go.Proofs.YtmklpbmlgjkbiaaW.PrintLast
set_option linter.unusedVariables false
theorem fieldB_eq (h : Bool) (n m : Int) (hm : 0 ≤ m) : fieldB h n m = decide (n = 0 ∨ (h = true ∧ 0 ≤ n ∧ n ≤ m)) := by
  unfold fieldB
  cases h
  · simp
  · simp; omega
theorem word_some (k : Int) : (!(howR k).f0.toList.isEmpty) = decide (1 ≤ k ∧ k ≤ 14) := by
  rw [Lib.toList_data]
  refine kinds (P := fun k => (!(howR k).f0.data.toList.isEmpty) = decide (1 ≤ k ∧ k ≤ 14)) (fun k hk => ?_) (by decide) (by decide) (by decide) (by decide) (by decide) (by decide) (by decide) (by decide) (by decide) (by decide) (by decide) (by decide) (by decide) (by decide) k
  unfold howR
  rw [if_neg hk, decide_eq_false hk]; decide
theorem opB_eq (k r s t vk vn : Int) : opB k r s t vk vn = (!(howR k).f0.toList.isEmpty && (fieldB (hasC k 82) r 3 && (fieldB (hasC k 83) s 3 && (fieldB (hasC k 84) t 15 && if hasC k 86 = true then valB k vk vn else (vk == 0 && (vn == 0)))))) := by
  rw [word_some, hasC_R, hasC_S, hasC_T, hasC_V, fieldB_eq _ _ _ (by omega), fieldB_eq _ _ _ (by omega), fieldB_eq _ _ _ (by omega)]
  have hv : (if hasV k = true then valB k vk vn else (vk == 0 && (vn == 0))) = decide (valP k vk vn ∧ (hasV k = true ∨ (vk = 0 ∧ vn = 0))) := by
    by_cases h : hasV k = true
    · rw [if_pos h]; unfold valB; simp [h]
    · rw [if_neg h]
      have h8 : k ≠ 8 ∧ k ≠ 13 := by unfold hasV at h; simp at h; omega
      by_cases hz : vk = 0 ∧ vn = 0
      · obtain ⟨rfl, rfl⟩ := hz
        have : valP k 0 0 := ⟨Or.inl ⟨rfl, rfl⟩, fun e => absurd e h8.1, fun e => absurd e h8.2⟩
        simp [this]
      · have e1 : (vk == 0 && (vn == 0)) = false := by
          by_cases a : vk = 0 <;> by_cases b : vn = 0 <;> simp [a, b] <;> simp_all
        rw [e1]
        exact (decide_eq_false (fun ⟨_, g⟩ => g.elim h hz)).symm
  rw [hv]
  unfold opB
  simp only [← Bool.decide_and]
  apply decide_eq_decide.2
  unfold opP
  constructor
  · rintro ⟨a, b, c, d, e, f⟩; exact ⟨a, c, d, e, b, f⟩
  · rintro ⟨a, c, d, e, b, f⟩; exact ⟨a, b, c, d, e, f⟩
theorem impl_OpOk.calls (k r s t vk vn : Int) (b : Bool) (w : World) (h : opV.f k r s t vk vn = some b) :
    Calls Try.prog 25 #[.agg #[.int .i64 k, .int .i64 r, .int .i64 s, .int .i64 t, .int .i64 vk, .int .i64 vn]] w fun e w' => e = .returned (.bool b) ∧ Below w.heap.size w w' := by
  refine implOp_walk k r s t vk vn w b (hasC k 86) (valB k vk vn) (fun c n m => fieldB (hasC k c) n m) (howR k) (fun W => impl_Op_how.calls k r s t vk vn _ _ _ _ W rfl) (fun W => has_any k r s t vk vn 86 W)
    (fun W => valOp_any k r s t vk vn W) (fun c n m W hB => field_any w.heap.size k r s t vk vn c n m W hB) ⟨?_⟩
  rw [← opB_eq]
  exact (Option.some.inj h).symm
end Go.Proofs.Ytmklpbmlgjkbiaa.PS
