/- The plain functions that the contracts by hand speak of. -/
import Derived.Test.YtmklpbmlgjkbiaaPSx0
namespace Go.Proofs.Ytmklpbmlgjkbiaa.PS
open Go.RowKit Go.Proofs.YtmklpbmlgjkbiaaW.PrintWords Go.Proofs.YtmklpbmlgjkbiaaW.PrintLast

/-- A value is ok. -/
def okP (k n : Int) : Prop := (k = 0 ∧ n = 0) ∨ (k = 1 ∧ -99 ≤ n ∧ n ≤ 99) ∨ (k = 2 ∧ 0 ≤ n ∧ n ≤ 9) ∨ (k = 3 ∧ 1 ≤ n ∧ n ≤ 6)
instance (k n : Int) : Decidable (okP k n) := by unfold okP; infer_instance
def okB (k n : Int) : Bool := decide (okP k n)
theorem okB_true {k n : Int} : okB k n = true ↔ okP k n := by simp [okB]
theorem okB_false {k n : Int} : okB k n = false ↔ ¬ okP k n := by simp [okB]

/-- What a kind of steps has: a slot, a second one, a place, a value. -/
def hasR (k : Int) : Bool := decide (1 ≤ k ∧ k ≤ 14 ∧ k ≠ 9 ∧ k ≠ 13)
def hasS (k : Int) : Bool := decide (k = 2 ∨ k = 3 ∨ k = 6 ∨ k = 7 ∨ k = 8)
def hasT (k : Int) : Bool := decide (k = 5 ∨ k = 8 ∨ k = 9 ∨ k = 10)
def hasV (k : Int) : Bool := decide (k = 1 ∨ k = 8 ∨ k = 10 ∨ k = 13)
def formL (k : Int) : List Bool := if 1 ≤ k ∧ k ≤ 14 then [hasR k, hasS k, hasT k, hasV k] else []

/-- The value of a step. -/
def valP (k vk vn : Int) : Prop := okP vk vn ∧ (k = 8 → vk = 1 ∧ 1 ≤ vn) ∧ (k = 13 → vk = 1 ∧ 0 ≤ vn ∧ vn ≤ 1)
instance (k vk vn : Int) : Decidable (valP k vk vn) := by unfold valP; infer_instance

/-- A step is ok. -/
def opP (k r s t vk vn : Int) : Prop :=
  (1 ≤ k ∧ k ≤ 14) ∧ valP k vk vn ∧ (r = 0 ∨ (hasR k = true ∧ 0 ≤ r ∧ r ≤ 3)) ∧ (s = 0 ∨ (hasS k = true ∧ 0 ≤ s ∧ s ≤ 3)) ∧
    (t = 0 ∨ (hasT k = true ∧ 0 ≤ t ∧ t ≤ 15)) ∧ (hasV k = true ∨ (vk = 0 ∧ vn = 0))
instance (k r s t vk vn : Int) : Decidable (opP k r s t vk vn) := by unfold opP; infer_instance
def opB (k r s t vk vn : Int) : Bool := decide (opP k r s t vk vn)
theorem opB_true {k r s t vk vn : Int} : opB k r s t vk vn = true ↔ opP k r s t vk vn := by simp [opB]
theorem opB_false {k r s t vk vn : Int} : opB k r s t vk vn = false ↔ ¬ opP k r s t vk vn := by simp [opB]
def opV.f (k r s t vk vn : Int) : Option Bool := some (opB k r s t vk vn)

/-- The slots that a step reads. -/
def usesL (k r s : Int) : List Int :=
  if k = 2 then [s] else if k = 3 ∨ k = 6 then [r, s] else if k = 10 ∨ k = 11 ∨ k = 12 ∨ k = 14 then [r] else []
def usesV.f (k r s t vk vn : Int) : Option (List Int) := some (if opB k r s t vk vn = true then usesL k r s else [])

/-- The manner of a kind of steps. -/
def mannersL : List S66 :=
  [⟨⟨#[]⟩, ⟨#[]⟩, ⟨#[]⟩, false⟩,
   ⟨⟨#[115, 101, 116]⟩, ⟨#[82, 86]⟩, ⟨#[]⟩, true⟩,
   ⟨⟨#[109, 111, 118, 101]⟩, ⟨#[82, 83]⟩, ⟨#[83]⟩, true⟩,
   ⟨⟨#[97, 100, 100]⟩, ⟨#[82, 83]⟩, ⟨#[82, 83]⟩, false⟩,
   ⟨⟨#[115, 101, 108, 102]⟩, ⟨#[82]⟩, ⟨#[]⟩, true⟩,
   ⟨⟨#[98, 101, 103, 105, 110]⟩, ⟨#[82, 84]⟩, ⟨#[]⟩, true⟩,
   ⟨⟨#[115, 101, 110, 100]⟩, ⟨#[82, 83]⟩, ⟨#[82, 83]⟩, false⟩,
   ⟨⟨#[116, 97, 107, 101]⟩, ⟨#[82, 83]⟩, ⟨#[]⟩, true⟩,
   ⟨⟨#[97, 102, 116, 101, 114]⟩, ⟨#[82, 83, 84, 86]⟩, ⟨#[]⟩, true⟩,
   ⟨⟨#[103, 111]⟩, ⟨#[84]⟩, ⟨#[]⟩, false⟩,
   ⟨⟨#[105, 102]⟩, ⟨#[82, 84, 86]⟩, ⟨#[82]⟩, false⟩,
   ⟨⟨#[108, 105, 110, 107]⟩, ⟨#[82]⟩, ⟨#[82]⟩, false⟩,
   ⟨⟨#[119, 97, 116, 99, 104]⟩, ⟨#[82]⟩, ⟨#[82]⟩, false⟩,
   ⟨⟨#[116, 114, 97, 112]⟩, ⟨#[86]⟩, ⟨#[]⟩, false⟩,
   ⟨⟨#[101, 110, 100]⟩, ⟨#[82]⟩, ⟨#[82]⟩, false⟩]
def howR (k : Int) : S66 := if 1 ≤ k ∧ k ≤ 14 then mannersL.getD k.toNat z66 else z66
def howV.f (k _r _s _t _vk _vn : Int) : Option (ByteArray × ByteArray × ByteArray × Bool) := some ((howR k).f0, (howR k).f1, (howR k).f2, (howR k).f3)

theorem kinds {P : Int → Prop} (h : ∀ k : Int, ¬ (1 ≤ k ∧ k ≤ 14) → P k) (h1 : P 1) (h2 : P 2) (h3 : P 3) (h4 : P 4) (h5 : P 5) (h6 : P 6) (h7 : P 7) (h8 : P 8) (h9 : P 9)
    (h10 : P 10) (h11 : P 11) (h12 : P 12) (h13 : P 13) (h14 : P 14) (k : Int) : P k := by
  by_cases hk : 1 ≤ k ∧ k ≤ 14
  · have : k = 1 ∨ k = 2 ∨ k = 3 ∨ k = 4 ∨ k = 5 ∨ k = 6 ∨ k = 7 ∨ k = 8 ∨ k = 9 ∨ k = 10 ∨ k = 11 ∨ k = 12 ∨ k = 13 ∨ k = 14 := by omega
    rcases this with rfl | rfl | rfl | rfl | rfl | rfl | rfl | rfl | rfl | rfl | rfl | rfl | rfl | rfl <;> assumption
  · exact h k hk
end Go.Proofs.Ytmklpbmlgjkbiaa.PS
