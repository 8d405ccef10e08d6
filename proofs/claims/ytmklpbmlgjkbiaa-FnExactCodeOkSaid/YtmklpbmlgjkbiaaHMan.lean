/- The manners of all kinds lie in a new block; no condition. -/
import Derived.Test.YtmklpbmlgjkbiaaHDefs
import Derived.Deep.RegionWith
namespace Go.Proofs.Ytmklpbmlgjkbiaa.PS
open Go.RowKit Go.Proofs.YtmklpbmlgjkbiaaW.PrintWords Go.Proofs.YtmklpbmlgjkbiaaW.PrintLast
set_option maxRecDepth 100000
theorem in_any (a b c : Int) (w : World) : Calls Try.prog 65 #[.int .i64 a, .int .i64 b, .int .i64 c] w fun e w' => e = .returned (.bool (decide (b ≤ a ∧ a ≤ c))) ∧ w = w' := by
  by_cases h1 : b ≤ a <;> by_cases h2 : a ≤ c <;> (go_enter Try.func65, Try.ntmps65; go_wp2; go_ret; exact ⟨by simp [h1, h2], rfl⟩)
def cellsOf : List S66 → List Value
  | [] => []
  | x :: xs => .string x.f0 :: .string x.f1 :: .string x.f2 :: .bool x.f3 :: cellsOf xs
/-- Where the manners lie: at block g. -/
def IsManners (w w' : World) (g : Nat) : Prop := Below w.heap.size w w' ∧ w.heap.size ≤ g ∧ ∀ i, w'.cell? ⟨g, i, none⟩ = (cellsOf mannersL)[i]?
set_option maxHeartbeats 4000000 in
theorem manners_any (w : World) : Calls Try.prog 89 #[] w fun e w' => ∃ g, e = .returned (.slice (some ⟨g, 0, none⟩) 15 15) ∧ IsManners w w' g := by
  go_enter Try.func89, Try.ntmps89
  go_wp2
  go_ret
  refine ⟨_, rfl, (Below.refl _ _).alloc (Nat.le_refl _) _, Nat.le_refl _, fun i => ?_⟩
  rw [World.cell?_alloc_new]
  show (cellsOf mannersL).toArray[i]? = _
  exact List.getElem?_toArray
end Go.Proofs.Ytmklpbmlgjkbiaa.PS
