/- The reference's OpOk at a kind that asks nothing more of the value. -/
import Derived.Test.YtmklpbmlgjkbiaaHSpec0
namespace Go.Proofs.Ytmklpbmlgjkbiaa.PS
open Go.RowKit Go.Proofs.YtmklpbmlgjkbiaaW.PrintWords Go.Proofs.YtmklpbmlgjkbiaaW.PrintLast
set_option linter.unusedVariables false
set_option linter.unusedSimpArgs false
set_option maxRecDepth 100000
attribute [local go_sem high] eqA27
set_option maxHeartbeats 16000000 in
theorem specOp_main (k r s t vk vn : Int) (w : World) (g0 u0 u1 u2 u3 vb : Bool)
    (hForm : ∀ W, Calls Try.prog 57 #[.int .i64 k] W fun e w' => ∃ g c, e = .returned (.slice (some ⟨g, 0, none⟩) 4 c) ∧ Below W.heap.size W w' ∧ W.heap.size ≤ g ∧ w'.cell? ⟨g, 0, none⟩ = some (.bool u0) ∧ w'.cell? ⟨g, 1, none⟩ = some (.bool u1) ∧ w'.cell? ⟨g, 2, none⟩ = some (.bool u2) ∧ w'.cell? ⟨g, 3, none⟩ = some (.bool u3))
    (hVal : ∀ W, Calls Try.prog 58 #[.agg #[.int .i64 vk, .int .i64 vn]] W fun e w' => e = .returned (.bool vb) ∧ Below W.heap.size W w') (c8 : (k == 8) = false) (c13 : (k == 13) = false) (hvb : Aside0 (vb = true)) (hg : Aside0 (g0 = (((decide (0 ≤ r ∧ r ≤ 3) && u0) || r == 0) && (((decide (0 ≤ s ∧ s ≤ 3) && u1) || s == 0) && (((decide (0 ≤ t ∧ t ≤ 15) && u2) || t == 0) && (u3 || (vk == 0 && (vn == 0)))))))) :
    Calls Try.prog 23 #[.agg #[.int .i64 k, .int .i64 r, .int .i64 s, .int .i64 t, .int .i64 vk, .int .i64 vn]] w fun e w' => e = .returned (.bool g0) ∧ Below w.heap.size w w' := by
  have BK : Aside0 ((w.alloc (.cells #[.int .i64 k, .int .i64 r, .int .i64 s, .int .i64 t, .int .i64 vk, .int .i64 vn] 29)).heap[w.heap.size]? = some (.cells #[.int .i64 k, .int .i64 r, .int .i64 s, .int .i64 t, .int .i64 vk, .int .i64 vn] 29 (0, 0))) := ⟨blk_new _ _⟩
  have HB := Aside0.mk (Below.refl w.heap.size w)
  have hu27 := Try.underlying27
  have hu29 := Try.underlying29
  obtain rfl := hvb.out
  clear hvb
  go_enter Try.func23, Try.ntmps23
  go_wp2_with (first | (go_at_call 57; refine (hForm _).mono ?_; rintro e w' ⟨g, c, rfl, hb, hg, f0, f1, f2, f3⟩; have SZ := Aside0.mk (hb.size); have BK := Aside0.mk (blk_below (by (with_reducible repeat (first | refine blk_drewN ?_ _ | refine blk_drew ?_ | refine blk_alloc ?_ _)); exact BK.out) hb); have HB := Aside0.mk (below_step (by repeat (first | (with_reducible first | exact HB.out | apply below_alloc | apply pw_below_drewN | apply below_drew1) | exact HB.out)) hb); have q0 : w'.cell? ⟨w.heap.size, 0, none⟩ = some (.int .i64 k) := (blk_cell BK.out 0).trans rfl; have q1 : w'.cell? ⟨w.heap.size, 1, none⟩ = some (.int .i64 r) := (blk_cell BK.out 1).trans rfl; have q2 : w'.cell? ⟨w.heap.size, 2, none⟩ = some (.int .i64 s) := (blk_cell BK.out 2).trans rfl; have q3 : w'.cell? ⟨w.heap.size, 3, none⟩ = some (.int .i64 t) := (blk_cell BK.out 3).trans rfl; have q4 : w'.cell? ⟨w.heap.size, 4, none⟩ = some (.int .i64 vk) := (blk_cell BK.out 4).trans rfl; have q5 : w'.cell? ⟨w.heap.size, 5, none⟩ = some (.int .i64 vn) := (blk_cell BK.out 5).trans rfl; have GS := Aside0.mk (cell_lt f0); have P0 := Aside0.mk f0; have P1 := Aside0.mk f1; have P2 := Aside0.mk f2; have P3 := Aside0.mk f3; clear hb hg) | (go_at_call 58; refine (hVal _).mono ?_; rintro e w'2 ⟨rfl, hb⟩; have P0 := Aside0.mk ((hb.cell (p := ⟨g, 0, none⟩) GS.out).trans P0.out); have P1 := Aside0.mk ((hb.cell (p := ⟨g, 1, none⟩) GS.out).trans P1.out); have P2 := Aside0.mk ((hb.cell (p := ⟨g, 2, none⟩) GS.out).trans P2.out); have P3 := Aside0.mk ((hb.cell (p := ⟨g, 3, none⟩) GS.out).trans P3.out); have BK := Aside0.mk (blk_below (by (with_reducible repeat (first | refine blk_drewN ?_ _ | refine blk_drew ?_ | refine blk_alloc ?_ _)); exact BK.out) hb); have HB := Aside0.mk (below_step (by repeat (first | (with_reducible first | exact HB.out | apply below_alloc | apply pw_below_drewN | apply below_drew1) | exact HB.out)) hb); have q0 : w'2.cell? ⟨w.heap.size, 0, none⟩ = some (.int .i64 k) := (blk_cell BK.out 0).trans rfl; have q1 : w'2.cell? ⟨w.heap.size, 1, none⟩ = some (.int .i64 r) := (blk_cell BK.out 1).trans rfl; have q2 : w'2.cell? ⟨w.heap.size, 2, none⟩ = some (.int .i64 s) := (blk_cell BK.out 2).trans rfl; have q3 : w'2.cell? ⟨w.heap.size, 3, none⟩ = some (.int .i64 t) := (blk_cell BK.out 3).trans rfl; have q4 : w'2.cell? ⟨w.heap.size, 4, none⟩ = some (.int .i64 vk) := (blk_cell BK.out 4).trans rfl; have q5 : w'2.cell? ⟨w.heap.size, 5, none⟩ = some (.int .i64 vn) := (blk_cell BK.out 5).trans rfl; have f0 := P0.out; have f1 := P1.out; have f2 := P2.out; have f3 := P3.out; clear hb) | (go_at_call 59; refine (in2_any _ _ _ _).mono ?_; rintro e w' ⟨rfl, rfl⟩) | (go_at_call 60; refine (slot_any _ _).mono ?_; rintro e w' ⟨rfl, rfl⟩) | (go_at_call 61; refine (to_any _ _).mono ?_; rintro e w' ⟨rfl, rfl⟩))
  all_goals go_ret
  all_goals refine ⟨?_, HB.out⟩
  all_goals (rw [hg.out]; simp [*])
end Go.Proofs.Ytmklpbmlgjkbiaa.PS
