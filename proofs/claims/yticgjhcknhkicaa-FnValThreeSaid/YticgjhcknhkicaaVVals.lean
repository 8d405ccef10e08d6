import Derived.Test.YticgjhcknhkicaaPVx3
namespace Go.Proofs.Yticgjhcknhkicaa.PV
open Go.RowKit Go.Proofs.YticgjhcknhkicaaW.PrintWords Go.Proofs.YticgjhcknhkicaaW.PrintLast

/-- A value is ok. -/
def okP (k n : Int) : Prop := (k = 0 ∧ n = 0) ∨ (k = 1 ∧ -99 ≤ n ∧ n ≤ 99) ∨ (k = 2 ∧ 0 ≤ n ∧ n ≤ 9) ∨ (k = 3 ∧ 1 ≤ n ∧ n ≤ 6)
instance (k n : Int) : Decidable (okP k n) := by unfold okP; infer_instance
def okB (k n : Int) : Bool := decide (okP k n)
theorem okB_true {k n : Int} : okB k n = true ↔ okP k n := by simp [okB]
theorem okB_false {k n : Int} : okB k n = false ↔ ¬ okP k n := by simp [okB]

theorem beqd (x y : Int) : (x == y) = decide (x = y) := by by_cases h : x = y <;> simp [h]

theorem l6In_eq (n a b : Int) : spec_l6In.f n a b = some (decide (a ≤ n ∧ n ≤ b)) := by
  unfold spec_l6In.f
  by_cases h : n ≥ a
  · rw [if_pos h]; simp; omega
  · rw [if_neg h]; simp; omega
theorem in_eq (n a b : Int) : impl_in.f n a b = some (decide (a ≤ n ∧ n ≤ b)) := by
  unfold impl_in.f
  by_cases h : n ≥ a
  · rw [if_pos h]; simp; omega
  · rw [if_neg h]; simp; omega
theorem specOk_eq (k n : Int) : spec_ValOk.f k n = some (okB k n) := by
  unfold spec_ValOk.f okB okP
  simp only [l6In_eq, Option.bind_some]
  by_cases h0 : k = 0
  · subst h0; simp [beqd]
  rw [if_neg h0]
  by_cases h1 : k = 1
  · subst h1; simp
  rw [if_neg h1]
  by_cases h2 : k = 2
  · subst h2; simp
  rw [if_neg h2]
  by_cases h3 : k = 3
  · subst h3; simp
  rw [if_neg h3]; simp [h0, h1, h2, h3]
theorem implOk_eq (k n : Int) : impl_ValOk.f k n = some (okB k n) := by
  rw [← specOk_eq]
  unfold impl_ValOk.f spec_ValOk.f
  simp only [l6In_eq, in_eq]

theorem w64' {x : Int} (h0 : -9223372036854775808 ≤ x) (h1 : x ≤ 9223372036854775807) : wrap64 x = x := by
  unfold wrap64; omega

/-- The sum of two numbers. -/
def addR (a m b n : Int) : Int × Int × Bool := if okP a m ∧ okP b n ∧ a = 1 ∧ b = 1 ∧ okP 1 (m + n) then (1, m + n, true) else (0, 0, false)
theorem addR_pos {a m b n : Int} (h : okP a m ∧ okP b n ∧ a = 1 ∧ b = 1 ∧ okP 1 (m + n)) : addR a m b n = (1, m + n, true) := if_pos h
theorem addR_neg {a m b n : Int} (h : ¬ (okP a m ∧ okP b n ∧ a = 1 ∧ b = 1 ∧ okP 1 (m + n))) : addR a m b n = (0, 0, false) := if_neg h
theorem ok1 {m : Int} (h : okP 1 m) : -99 ≤ m ∧ m ≤ 99 := by unfold okP at h; omega

theorem specAdd_eq (a m b n : Int) : spec_ValAdd.f a m b n = some (addR a m b n) := by
  unfold spec_ValAdd.f spec_l1Add.f
  simp only [specOk_eq, Option.bind_some]
  by_cases h1 : okP a m
  rotate_left
  · rw [if_neg (by rw [okB_true]; exact h1), addR_neg (fun h => h1 h.1)]
  rw [if_pos (okB_true.2 h1)]
  by_cases h2 : okP b n
  rotate_left
  · rw [if_neg (by rw [okB_true]; exact h2), addR_neg (fun h => h2 h.2.1)]
  rw [if_pos (okB_true.2 h2)]
  by_cases h3 : a = 1
  rotate_left
  · rw [if_neg h3, addR_neg (fun h => h3 h.2.2.1)]; rfl
  rw [if_pos h3]
  by_cases h4 : b = 1
  rotate_left
  · rw [if_neg h4, addR_neg (fun h => h4 h.2.2.2.1)]; rfl
  rw [if_pos h4]
  subst h3; subst h4
  have b1 := ok1 h1; have b2 := ok1 h2
  rw [w64' (by omega) (by omega)]
  by_cases h5 : okP 1 (m + n)
  · rw [if_pos (okB_true.2 h5), addR_pos ⟨h1, h2, rfl, rfl, h5⟩]; rfl
  · rw [if_neg (by rw [okB_true]; exact h5), addR_neg (fun h => h5 h.2.2.2.2)]; rfl

theorem implAdd_eq (k : Nat) (a m b n : Int) : impl_ValAdd.f (k + 1) a m b n = some (addR a m b n) := by
  unfold impl_ValAdd.f
  simp only [implOk_eq, Option.bind_some, impl_ValAdd.j0]
  by_cases h1 : okP a m
  rotate_left
  · rw [if_neg (by rw [okB_true]; exact h1), addR_neg (fun h => h1 h.1)]; rfl
  rw [if_pos (okB_true.2 h1)]
  by_cases h2 : okP b n
  rotate_left
  · rw [if_neg (by rw [okB_true]; exact h2), addR_neg (fun h => h2 h.2.1)]; rfl
  rw [if_pos (okB_true.2 h2)]
  by_cases h3 : a = 1
  rotate_left
  · rw [if_neg h3, addR_neg (fun h => h3 h.2.2.1)]; rfl
  rw [if_pos h3]
  by_cases h4 : b = 1
  rotate_left
  · rw [if_pos (by simpa using h4), addR_neg (fun h => h4 h.2.2.2.1)]
  rw [if_neg (by simpa using h4)]
  subst h3; subst h4
  have b1 := ok1 h1; have b2 := ok1 h2
  rw [w64' (by omega) (by omega)]
  by_cases h5 : okP 1 (m + n)
  · rw [if_pos (okB_true.2 h5), addR_pos ⟨h1, h2, rfl, rfl, h5⟩]
  · rw [if_neg (by rw [okB_true]; exact h5), addR_neg (fun h => h5 h.2.2.2.2)]

def fitR (k n q : Int) : Bool := decide (okP k n ∧ (q = 0 ∨ q = k))
theorem implFits_eq (k n q : Int) : impl_ValFits.f k n q = some (fitR k n q) := by
  unfold impl_ValFits.f fitR
  simp only [implOk_eq, Option.bind_some]
  by_cases h1 : okP k n
  rotate_left
  · rw [if_neg (by rw [okB_true]; exact h1)]; simp [h1]
  rw [if_pos (okB_true.2 h1)]
  by_cases h2 : q = 0
  · rw [if_pos h2]; simp [h1, h2]
  · rw [if_neg h2]; simp [h1, h2, beqd]
theorem specFits_eq (k n q : Int) : spec_ValFits.f k n q = some (fitR k n q) := by
  unfold spec_ValFits.f spec_l1Fits.f fitR
  simp only [specOk_eq, Option.bind_some, l6In_eq]
  by_cases h1 : okP k n
  rotate_left
  · rw [if_neg (by rw [okB_true]; exact h1)]; simp [h1]
  rw [if_pos (okB_true.2 h1)]
  by_cases h0 : 0 ≤ q ∧ q ≤ 3
  rotate_left
  · rw [if_neg (by simpa using h0)]
    simp [h1]
    unfold okP at h1; omega
  rw [if_pos (by simpa using h0)]
  by_cases h2 : q = 0
  · rw [if_pos h2]; simp [h1, h2]
  · rw [if_neg h2]; simp [h1, h2, beqd, eq_comm]
end Go.Proofs.Yticgjhcknhkicaa.PV
