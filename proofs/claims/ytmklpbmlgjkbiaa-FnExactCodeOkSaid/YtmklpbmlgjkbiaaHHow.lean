/- The manner of a step, told by its kind; no condition. -/
import Derived.Test.YtmklpbmlgjkbiaaHMan

namespace Go.Proofs.Ytmklpbmlgjkbiaa.PS
open Go.RowKit Go.Proofs.YtmklpbmlgjkbiaaW.PrintWords Go.Proofs.YtmklpbmlgjkbiaaW.PrintLast
set_option maxRecDepth 100000
theorem bcell {W w1 : World} (hb : Below W.heap.size W w1) : (∀ b o, b < W.heap.size → w1.cell? ⟨b, o, none⟩ = W.cell? ⟨b, o, none⟩) ∧ (∀ b o, b < W.heap.size → w1.frozen? ⟨b, o, none⟩ = W.frozen? ⟨b, o, none⟩) :=
  ⟨fun b o h => hb.cell (p := ⟨b, o, none⟩) h, fun b o h => hb.frozen (p := ⟨b, o, none⟩) h⟩
theorem blk2 (w : World) (A B : Obj) : ((w.alloc A).alloc B).drew.heap[w.heap.size + 1]? = some B := by
  have := blk_new (w.alloc A) B
  rwa [World.size_alloc] at this
theorem end4 {w W w' : World} {g t : Nat} {z0 z1 z2 z3 : Value} (hW : Below w.heap.size w W) (hge : w.heap.size ≤ g) (h0 : W.heap[g]? = some (.cells #[z0, z1, z2, z3] t (0, 0))) (hb : Below W.heap.size W w') (a b c d : Value) :
    Below w.heap.size w ((((w'.setCell ⟨g, 0, none⟩ a).setCell ⟨g, 1, none⟩ b).setCell ⟨g, 2, none⟩ c).setCell ⟨g, 3, none⟩ d) ∧
    ((((w'.setCell ⟨g, 0, none⟩ a).setCell ⟨g, 1, none⟩ b).setCell ⟨g, 2, none⟩ c).setCell ⟨g, 3, none⟩ d).heap[g]? = some (.cells #[a, b, c, d] t (0, 0)) :=
  ⟨below_set (below_set (below_set (below_set (below_step hW hb) hge) hge) hge) hge, blk_set (blk_set (blk_set (blk_set (blk_below h0 hb) 0 a) 1 b) 2 c) 3 d⟩
set_option maxHeartbeats 4000000 in
theorem how_kind (k : Int) (r s t vk vn : Int) (x : S66) (w : World) (hk : 1 ≤ k ∧ k ≤ 14) (hx : x = mannersL.getD k.toNat z66) :
    Calls Try.prog 67 #[.agg #[.int .i64 k, .int .i64 r, .int .i64 s, .int .i64 t, .int .i64 vk, .int .i64 vn]] w fun e w' => e = .returned (.agg #[.string x.f0, .string x.f1, .string x.f2, .bool x.f3]) ∧ Below w.heap.size w w' := by
  have hm : ∀ (W : World) (g : Nat), (∀ i, W.cell? ⟨g, i, none⟩ = (cellsOf mannersL)[i]?) → W.cell? ⟨g, k.toNat * 4, none⟩ = some (.string x.f0) ∧ W.cell? ⟨g, k.toNat * 4 + 1, none⟩ = some (.string x.f1) ∧ W.cell? ⟨g, k.toNat * 4 + 2, none⟩ = some (.string x.f2) ∧ W.cell? ⟨g, k.toNat * 4 + 3, none⟩ = some (.bool x.f3) := by
    intro W g h
    have : k = 1 ∨ k = 2 ∨ k = 3 ∨ k = 4 ∨ k = 5 ∨ k = 6 ∨ k = 7 ∨ k = 8 ∨ k = 9 ∨ k = 10 ∨ k = 11 ∨ k = 12 ∨ k = 13 ∨ k = 14 := by omega
    rcases this with rfl | rfl | rfl | rfl | rfl | rfl | rfl | rfl | rfl | rfl | rfl | rfl | rfl | rfl <;> (subst hx; exact ⟨h _, h _, h _, h _⟩)
  clear hx
  obtain ⟨hk1, hk2⟩ := hk
  go_enter Try.func67, Try.ntmps67
  go_wp2_with (go_at_call 65; refine (in_any _ _ _ _).mono ?_; rintro e w' ⟨rfl, rfl⟩)
  go_region_with (go_at_call 89; refine (manners_any _).mono ?_; rintro e w' ⟨g, rfl, hb, hg, hc⟩; obtain ⟨m0, m1, m2, m3⟩ := hm _ _ hc; obtain ⟨b1, b2⟩ := bcell hb; clear hc; have hgs := hb.size; have sz := b1 w.heap.size)
  all_goals go_wp2
  all_goals
    obtain ⟨E0, E1⟩ := end4 (w := w) (g := w.heap.size + 1) (t := 66) (below_drew1 (below_alloc (below_alloc (Below.refl _ _) _) _)) (Nat.le_succ _) (blk2 _ _ _) hb (.string x.f0) (.string x.f1) (.string x.f2) (.bool x.f3)
    have q0 := blk_cell E1 0; have q1 := blk_cell E1 1; have q2 := blk_cell E1 2; have q3 := blk_cell E1 3
    exact bodyPost_ret (v := .agg #[.string x.f0, .string x.f1, .string x.f2, .bool x.f3]) (by simp [results, Try.results67, go_sem, q0, q1, q2, q3]) rfl ⟨rfl, E0⟩
set_option maxHeartbeats 4000000 in
theorem how_none (k : Int) (r s t vk vn : Int) (w : World) (hk : decide (1 ≤ k ∧ k ≤ 14) = false) :
    Calls Try.prog 67 #[.agg #[.int .i64 k, .int .i64 r, .int .i64 s, .int .i64 t, .int .i64 vk, .int .i64 vn]] w fun e w' => e = .returned (.agg #[.string ⟨#[]⟩, .string ⟨#[]⟩, .string ⟨#[]⟩, .bool false]) ∧ Below w.heap.size w w' := by
  go_enter Try.func67, Try.ntmps67
  go_wp2_with (go_at_call 65; refine (in_any _ _ _ _).mono ?_; rintro e w' ⟨rfl, rfl⟩; rw [hk])
  exact bodyPost_ret (v := .agg #[.string ⟨#[]⟩, .string ⟨#[]⟩, .string ⟨#[]⟩, .bool false]) (by simp [results, Try.results67, go_sem]) rfl ⟨rfl, by repeat (first | exact Below.refl _ _ | apply below_alloc | apply below_drew1 | refine below_set ?_ (Nat.le_succ _))⟩
theorem impl_Op_how.calls (k r s t vk vn : Int) (r1 r2 r3 : ByteArray) (r4 : Bool) (w : World) (h : howV.f k r s t vk vn = some (r1, r2, r3, r4)) :
    Calls Try.prog 67 #[.agg #[.int .i64 k, .int .i64 r, .int .i64 s, .int .i64 t, .int .i64 vk, .int .i64 vn]] w fun e w' => e = .returned (.agg #[.string r1, .string r2, .string r3, .bool r4]) ∧ Below w.heap.size w w' := by
  unfold howV.f at h
  have h := Option.some.inj h
  simp only [Prod.mk.injEq] at h
  obtain ⟨rfl, rfl, rfl, rfl⟩ := h
  by_cases hk : 1 ≤ k ∧ k ≤ 14
  · have e : howR k = mannersL.getD k.toNat z66 := if_pos hk
    rw [e]
    exact how_kind k r s t vk vn _ w hk rfl
  · have e : howR k = z66 := if_neg hk
    rw [e]
    exact how_none k r s t vk vn w (decide_eq_false hk)
end Go.Proofs.Ytmklpbmlgjkbiaa.PS
