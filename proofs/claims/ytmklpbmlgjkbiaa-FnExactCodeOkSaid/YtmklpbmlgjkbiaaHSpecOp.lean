/- The reference's OpOk says what the plain opB says, for every step; no condition. -/
import Derived.Test.YtmklpbmlgjkbiaaHSpec1
import Derived.Test.YtmklpbmlgjkbiaaHSpec2
import Derived.Test.YtmklpbmlgjkbiaaHSpec3
namespace Go.Proofs.Ytmklpbmlgjkbiaa.PS
open Go.RowKit Go.Proofs.YtmklpbmlgjkbiaaW.PrintWords Go.Proofs.YtmklpbmlgjkbiaaW.PrintLast
set_option linter.unusedVariables false
set_option maxRecDepth 100000
theorem form_eq (k : Int) : spec_l2Form.f 3 k = some (formL k) := by
  refine kinds (P := fun k => spec_l2Form.f 3 k = some (formL k)) (fun k hk => ?_) (by decide) (by decide) (by decide) (by decide) (by decide) (by decide) (by decide) (by decide) (by decide) (by decide) (by decide) (by decide) (by decide) (by decide) k
  unfold formL
  rw [if_neg hk]
  have h1 : k ≠ 1 := by omega
  have h2 : k ≠ 2 := by omega
  have h3 : k ≠ 3 := by omega
  have h4 : k ≠ 4 := by omega
  have h5 : k ≠ 5 := by omega
  have h6 : k ≠ 6 := by omega
  have h7 : k ≠ 7 := by omega
  have h8 : k ≠ 8 := by omega
  have h9 : k ≠ 9 := by omega
  have h10 : k ≠ 10 := by omega
  have h11 : k ≠ 11 := by omega
  have h12 : k ≠ 12 := by omega
  have h13 : k ≠ 13 := by omega
  have h14 : k ≠ 14 := by omega
  simp [spec_l2Form.f, spec_l2Form.j0, spec_l2Form.j1, h1, h2, h3, h4, h5, h6, h7, h8, h9, h10, h11, h12, h13, h14]
theorem form_calls {k : Int} (hk : 1 ≤ k ∧ k ≤ 14) (W : World) : Calls Try.prog 57 #[.int .i64 k] W fun e w' => ∃ g c, e = .returned (.slice (some ⟨g, 0, none⟩) 4 c) ∧ Below W.heap.size W w' ∧ W.heap.size ≤ g ∧ w'.cell? ⟨g, 0, none⟩ = some (.bool (hasR k)) ∧ w'.cell? ⟨g, 1, none⟩ = some (.bool (hasS k)) ∧ w'.cell? ⟨g, 2, none⟩ = some (.bool (hasT k)) ∧ w'.cell? ⟨g, 3, none⟩ = some (.bool (hasV k)) := by
  refine (spec_l2Form.calls 3 k (formL k) W (form_eq k)).mono ?_
  rintro e w' ⟨v, rfl, hR, hb⟩
  have : formL k = [hasR k, hasS k, hasT k, hasV k] := if_pos hk
  rw [this] at hR
  obtain ⟨g, c, rfl, hg, q0, q1, q2, q3⟩ := own4 hR
  exact ⟨g, c, rfl, hb, hg, q0, q1, q2, q3⟩
theorem sok_eq (k n : Int) : spec_ValOk.f k n = some (okB k n) := by
  unfold spec_ValOk.f spec_l6In.f okB okP
  by_cases h0 : k = 0
  · subst h0; by_cases hn : n = 0 <;> simp [hn]
  rw [if_neg h0]
  by_cases h1 : k = 1
  · subst h1; by_cases a : n ≥ -99 <;> simp [a] <;> omega
  rw [if_neg h1]
  by_cases h2 : k = 2
  · subst h2; by_cases a : n ≥ 0 <;> simp [a] <;> omega
  rw [if_neg h2]
  by_cases h3 : k = 3
  · subst h3; by_cases a : n ≥ 1 <;> simp [a] <;> omega
  rw [if_neg h3]; simp [h0, h1, h2, h3]
theorem opB_form (k r s t vk vn : Int) (hk : 1 ≤ k ∧ k ≤ 14) (hv : valP k vk vn) : opB k r s t vk vn = (((decide (0 ≤ r ∧ r ≤ 3) && hasR k) || r == 0) && (((decide (0 ≤ s ∧ s ≤ 3) && hasS k) || s == 0) && (((decide (0 ≤ t ∧ t ≤ 15) && hasT k) || t == 0) && (hasV k || (vk == 0 && (vn == 0)))))) := by
  have e : ∀ x y : Int, (x == y) = decide (x = y) := fun x y => by by_cases h : x = y <;> simp [h]
  have sw : ∀ (a b c : Prop), ((a ∧ b) ∨ c) ↔ (c ∨ (b ∧ a)) := fun a b c => ⟨fun h => h.elim (fun g => .inr ⟨g.2, g.1⟩) .inl, fun h => h.elim .inr (fun g => .inl ⟨g.2, g.1⟩)⟩
  rw [Bool.eq_iff_iff]
  simp only [opB, decide_eq_true_eq, Bool.and_eq_true, Bool.or_eq_true, e, sw]
  exact ⟨fun h => h.2.2, fun h => ⟨hk, hv, h⟩⟩
theorem opB_bad {k r s t vk vn : Int} (h : ¬ (1 ≤ k ∧ k ≤ 14) ∨ ¬ valP k vk vn) : opB k r s t vk vn = false := opB_false.2 (fun g => h.elim (fun a => a g.1) (fun a => a g.2.1))
set_option maxHeartbeats 1000000 in
theorem specOp_none (k r s t vk vn : Int) (w : World) (hk : ¬ (1 ≤ k ∧ k ≤ 14)) :
    Calls Try.prog 23 #[.agg #[.int .i64 k, .int .i64 r, .int .i64 s, .int .i64 t, .int .i64 vk, .int .i64 vn]] w fun e w' => e = .returned (.bool false) ∧ Below w.heap.size w w' := by
  have hForm : ∀ W : World, Calls Try.prog 57 #[.int .i64 k] W fun e w' => ∃ A c, e = .returned (.slice A 0 c) ∧ Below W.heap.size W w' := fun W => by
    refine (spec_l2Form.calls 3 k (formL k) W (form_eq k)).mono ?_
    rintro e w' ⟨v, rfl, hR, hb⟩
    have : formL k = [] := if_neg hk
    rw [this] at hR
    obtain ⟨A, c, rfl⟩ := Kd.R_slice hR
    exact ⟨A, c, rfl, hb⟩
  clear hk
  have HB := Aside0.mk (Below.refl w.heap.size w)
  go_enter Try.func23, Try.ntmps23
  go_wp2_with (go_at_call 57; refine (hForm _).mono ?_; rintro e w' ⟨A, c, rfl, hb⟩)
  go_ret
  exact ⟨rfl, below_step (below_alloc (Below.refl _ _) _) hb⟩
theorem spec_OpOk.calls (k r s t vk vn : Int) (b : Bool) (w : World) (h : opV.f k r s t vk vn = some b) :
    Calls Try.prog 23 #[.agg #[.int .i64 k, .int .i64 r, .int .i64 s, .int .i64 t, .int .i64 vk, .int .i64 vn]] w fun e w' => e = .returned (.bool b) ∧ Below w.heap.size w w' := by
  obtain rfl := Option.some.inj h
  by_cases hk : 1 ≤ k ∧ k ≤ 14
  rotate_left
  · rw [opB_bad (.inl hk)]; exact specOp_none k r s t vk vn w hk
  have hForm := fun W => form_calls hk W
  have hVal := fun W => spec_ValOk.calls vk vn (okB vk vn) W (sok_eq vk vn)
  by_cases hv : okP vk vn
  rotate_left
  · rw [opB_bad (.inr (fun g => hv g.1))]
    exact specOp_bad k r s t vk vn w false _ _ _ _ (okB vk vn) hForm hVal ⟨okB_false.2 hv⟩ ⟨rfl⟩
  have hvb : Aside0 (okB vk vn = true) := ⟨okB_true.2 hv⟩
  by_cases h8 : k = 8
  · by_cases h1 : vk = 1
    · by_cases hn : 1 ≤ vn
      · subst h8; subst h1; exact specOp_8 r s t vn w _ _ _ _ _ _ hForm hVal hn hvb ⟨opB_form 8 r s t 1 vn hk ⟨hv, fun _ => ⟨rfl, hn⟩, fun e => by omega⟩⟩
      · rw [opB_bad (.inr (fun g => hn (g.2.1 h8).2))]
        subst h8; subst h1; exact specOp_8n r s t vn w false _ _ _ _ _ hForm hVal (by omega) (decide_eq_true (by omega)) hvb ⟨rfl⟩
    · rw [opB_bad (.inr (fun g => h1 (g.2.1 h8).1))]
      subst h8; exact specOp_8k r s t vk vn w false _ _ _ _ _ hForm hVal (by simpa using h1) (by simpa using h1) hvb ⟨rfl⟩
  by_cases h13 : k = 13
  · by_cases h1 : vk = 1
    · by_cases hn : 0 ≤ vn ∧ vn ≤ 1
      · subst h13; subst h1; exact specOp_13 r s t vn w _ _ _ _ _ _ hForm hVal hn.1 hn.2 hvb ⟨opB_form 13 r s t 1 vn hk ⟨hv, fun e => by omega, fun _ => ⟨rfl, hn⟩⟩⟩
      · rw [opB_bad (.inr (fun g => hn (g.2.2 h13).2))]
        subst h13; subst h1; exact specOp_13n r s t vn w false _ _ _ _ _ hForm hVal ⟨decide_eq_false hn⟩ hvb ⟨rfl⟩
    · rw [opB_bad (.inr (fun g => h1 (g.2.2 h13).1))]
      subst h13; exact specOp_13k r s t vk vn w false _ _ _ _ _ hForm hVal (by simpa using h1) (by simpa using h1) hvb ⟨rfl⟩
  exact specOp_main k r s t vk vn w _ _ _ _ _ _ hForm hVal (by simpa using h8) (by simpa using h13) hvb ⟨opB_form k r s t vk vn hk ⟨hv, fun e => absurd e h8, fun e => absurd e h13⟩⟩
end Go.Proofs.Ytmklpbmlgjkbiaa.PS
