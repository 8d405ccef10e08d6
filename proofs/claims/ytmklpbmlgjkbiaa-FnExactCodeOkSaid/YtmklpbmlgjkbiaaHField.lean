/- The closure of OpOk, the values of steps, '==' of values; no condition. -/
import Derived.Test.YtmklpbmlgjkbiaaHHas
namespace Go.Proofs.Ytmklpbmlgjkbiaa.PS
open Go.RowKit Go.Proofs.YtmklpbmlgjkbiaaW.PrintWords Go.Proofs.YtmklpbmlgjkbiaaW.PrintLast
set_option linter.unusedVariables false
set_option linter.unusedSimpArgs false
set_option maxRecDepth 100000
theorem eqA27 (d : Nat) (w : World) (x0 y0 : Int) (x1 y1 : Int) :
    (Op.equalIn (d + 2) 27 (.agg #[.int .i64 x0, .int .i64 x1]) (.agg #[.int .i64 y0, .int .i64 y1])).run Try.prog w = .ok (x0 == y0 && (x1 == y1)) w := by
  refine eqA_of Try.underlying27 (by kernel_rfl) ?_
  refine eqf_cons (by rfl) (by go_simp; rfl) (by go_simp; rfl) (by go_simp) ?_
  exact eqf_last (by rfl) (by go_simp; rfl) (by go_simp; rfl) (by go_simp)
def fieldB (h : Bool) (n m : Int) : Bool := if h = true then decide (0 ≤ n ∧ n ≤ m) else decide (n = 0)
set_option maxHeartbeats 4000000 in
theorem field_any (B : Nat) (k r s t vk vn : Int) (c : UInt8) (n m : Int) (w : World) (hB : w.heap[B]? = some (.cells #[.int .i64 k, .int .i64 r, .int .i64 s, .int .i64 t, .int .i64 vk, .int .i64 vn] 29 (0, 0))) :
    Calls Try.prog 63 #[.string ⟨#[c]⟩, .int .i64 n, .int .i64 m, .pointer (some ⟨B, 0, none⟩)] w fun e w' => e = .returned (.bool (fieldB (hasC k c) n m)) ∧ Below w.heap.size w w' := by
  have q0 := blk_cell hB 0; have q1 := blk_cell hB 1; have q2 := blk_cell hB 2; have q3 := blk_cell hB 3; have q4 := blk_cell hB 4; have q5 := blk_cell hB 5
  simp at q0 q1 q2 q3 q4 q5
  clear hB
  have hw := fun W : World => has_any k r s t vk vn c W
  obtain ⟨h, hh⟩ : ∃ h, h = hasC k c := ⟨_, rfl⟩
  rw [← hh] at hw ⊢
  clear hh
  unfold fieldB
  cases h
  · go_enter Try.func63, Try.ntmps63
    go_wp2_with (first | (go_at_call 64; refine (hw _).mono ?_; rintro e w' ⟨rfl, hb⟩) | (go_at_call 65; refine (in_any _ _ _ _).mono ?_; rintro e w' ⟨rfl, rfl⟩))
    go_ret
    exact ⟨by by_cases hn : n = 0 <;> simp [hn], hb⟩
  · go_enter Try.func63, Try.ntmps63
    go_wp2_with (first | (go_at_call 64; refine (hw _).mono ?_; rintro e w' ⟨rfl, hb⟩) | (go_at_call 65; refine (in_any _ _ _ _).mono ?_; rintro e w' ⟨rfl, rfl⟩))
    go_ret
    exact ⟨by simp, hb⟩
theorem valok_any (a b : Int) (w : World) : Calls Try.prog 88 #[.agg #[.int .i64 a, .int .i64 b]] w fun e w' => e = .returned (.bool (okB a b)) ∧ Below w.heap.size w w' := by
  by_cases h0 : a = 0
  · subst h0
    have e : okB 0 b = (b == 0) := by
      unfold okB okP
      by_cases hb : b = 0 <;> simp [hb]
    rw [e]
    go_enter Try.func88, Try.ntmps88
    go_wp2
    go_ret
    exact ⟨by first | rfl | simp, below_alloc (Below.refl _ _) _⟩
  by_cases h1 : a = 1
  · subst h1
    have e : okB 1 b = decide (-99 ≤ b ∧ b ≤ 99) := by unfold okB okP; simp
    rw [e]
    go_enter Try.func88, Try.ntmps88
    go_wp2_with (go_at_call 65; refine (in_any _ _ _ _).mono ?_; rintro e w' ⟨rfl, rfl⟩)
    go_ret
    exact ⟨by first | rfl | simp, below_alloc (Below.refl _ _) _⟩
  by_cases h2 : a = 2
  · subst h2
    have e : okB 2 b = decide (0 ≤ b ∧ b ≤ 9) := by unfold okB okP; simp
    rw [e]
    go_enter Try.func88, Try.ntmps88
    go_wp2_with (go_at_call 65; refine (in_any _ _ _ _).mono ?_; rintro e w' ⟨rfl, rfl⟩)
    go_ret
    exact ⟨by first | rfl | simp, below_alloc (Below.refl _ _) _⟩
  by_cases h3 : a = 3
  · subst h3
    have e : okB 3 b = decide (1 ≤ b ∧ b ≤ 6) := by unfold okB okP; simp
    rw [e]
    go_enter Try.func88, Try.ntmps88
    go_wp2_with (go_at_call 65; refine (in_any _ _ _ _).mono ?_; rintro e w' ⟨rfl, rfl⟩)
    go_ret
    exact ⟨by first | rfl | simp, below_alloc (Below.refl _ _) _⟩
  have e : okB a b = false := by unfold okB okP; simp [h0, h1, h2, h3]
  rw [e]
  have b0 : (a == 0) = false := by simpa using h0
  have b1 : (a == 1) = false := by simpa using h1
  have b2 : (a == 2) = false := by simpa using h2
  have b3 : (a == 3) = false := by simpa using h3
  go_enter Try.func88, Try.ntmps88
  go_wp2
  go_ret
  exact ⟨rfl, below_alloc (Below.refl _ _) _⟩
end Go.Proofs.Ytmklpbmlgjkbiaa.PS
