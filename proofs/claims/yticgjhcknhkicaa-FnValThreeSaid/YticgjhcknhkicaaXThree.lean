/- Of three numbers it does not matter which are added first: the walk; no condition. -/
import Derived.Test.YticgjhcknhkicaaVVals
import Derived.Test.YticgjhcknhkicaaVDraw
import Derived.Deep.RegionWith
import Derived.Deep.RegionHeld3
import Derived.Deep.DeepCutAuto
import Derived.Deep.CutBlock
namespace Go.Proofs.Yticgjhcknhkicaa.PV
open Go.RowKit Go.Proofs.YticgjhcknhkicaaW.PrintWords Go.Proofs.YticgjhcknhkicaaW.PrintLast
set_option linter.unusedVariables false
set_option linter.unusedSimpArgs false
set_option maxRecDepth 100000
/-- Boxes of values, laid since w. -/
def Bxs (w W : World) (L : List (Nat × Int × Int)) : Prop := Below w.heap.size w W ∧ ∀ t ∈ L, W.heap[t.1]? = some (.cells #[.int .i64 t.2.1, .int .i64 t.2.2] 26 (0, 0))
theorem Bxs.step {w W W' : World} {L : List (Nat × Int × Int)} (h : Bxs w W L) (hb : Below W.heap.size W W') : Bxs w W' L := ⟨below_step h.1 hb, fun t ht => blk_below (h.2 t ht) hb⟩
theorem Bxs.add {w W : World} {L : List (Nat × Int × Int)} (h : Bxs w W L) (p q : Int) : Bxs w (W.alloc (.cells #[.int .i64 p, .int .i64 q] 26)) ((W.heap.size, p, q) :: L) :=
  ⟨below_alloc h.1 _, fun t ht => by
    rcases List.mem_cons.1 ht with rfl | ht
    · exact blk_new W _
    · exact blk_alloc (h.2 t ht) _⟩
theorem Bxs.put {w W : World} {L : List (Nat × Int × Int)} (h : Bxs w W L) (p q : Int) (B : Nat) (hB : B = W.heap.size) : Bxs w (W.alloc (.cells #[.int .i64 p, .int .i64 q] 26)) ((B, p, q) :: L) := by
  subst hB; exact h.add p q
theorem Bxs.below {w W : World} {L : List (Nat × Int × Int)} (h : Bxs w W L) : Below w.heap.size w W := h.1
theorem Bxs.get {w W : World} {L : List (Nat × Int × Int)} (h : Bxs w W L) {B : Nat} {p q : Int} (ht : (B, p, q) ∈ L) : W.cell? ⟨B, 0, none⟩ = some (.int .i64 p) ∧ W.cell? ⟨B, 1, none⟩ = some (.int .i64 q) :=
  ⟨(blk_cell (h.2 _ ht) 0).trans rfl, (blk_cell (h.2 _ ht) 1).trans rfl⟩
/-- The sums of three numbers. -/
theorem three_sums {m n z : Int} (h1 : okP 1 m) (h2 : okP 1 n) (hz : -30 ≤ z ∧ z ≤ 29) {xk xn yk yn zk zn : Int} {xb yb zb : Bool} (hx : addR 1 (m + n) 1 z = (xk, xn, xb)) (hy : addR 1 n 1 z = (yk, yn, yb)) (hq : addR 1 m yk yn = (zk, zn, zb)) :
    xb = false ∨ yb = false ∨ zb = false ∨ (xk == zk && xn == zn) = true := by
  by_cases c1 : okP 1 (m + n) ∧ okP 1 z ∧ (1 : Int) = 1 ∧ (1 : Int) = 1 ∧ okP 1 (m + n + z)
  rotate_left
  · rw [addR_neg c1] at hx; injection hx with _ hx; injection hx with _ hx; exact .inl hx.symm
  by_cases c2 : okP 1 n ∧ okP 1 z ∧ (1 : Int) = 1 ∧ (1 : Int) = 1 ∧ okP 1 (n + z)
  rotate_left
  · rw [addR_neg c2] at hy; injection hy with _ hy; injection hy with _ hy; exact .inr (.inl hy.symm)
  rw [addR_pos c2] at hy
  injection hy with e1 hy
  injection hy with e2 e3
  subst e1 e2
  by_cases c3 : okP 1 m ∧ okP 1 (n + z) ∧ (1 : Int) = 1 ∧ (1 : Int) = 1 ∧ okP 1 (m + (n + z))
  rotate_left
  · rw [addR_neg c3] at hq; injection hq with _ hq; injection hq with _ hq; exact .inr (.inr (.inl hq.symm))
  rw [addR_pos c1] at hx
  rw [addR_pos c3] at hq
  injection hx with x1 hx
  injection hx with x2 x3
  injection hq with q1 hq
  injection hq with q2 q3
  subst x1 x2 q1 q2
  refine .inr (.inr (.inr ?_))
  simp
  omega
theorem add_call (a m b n : Int) (W : World) : Calls Try.prog 18 #[.agg #[.int .i64 a, .int .i64 m], .agg #[.int .i64 b, .int .i64 n]] W fun e w' => e = .returned (.tuple #[.agg #[.int .i64 (addR a m b n).1, .int .i64 (addR a m b n).2.1], .bool (addR a m b n).2.2]) ∧ Below W.heap.size W w' :=
  impl_ValAdd.calls 1 a m b n _ _ _ W (by rw [implAdd_eq])
theorem told_call (a m b n : Int) (W : World) : Calls Try.prog 17 #[.agg #[.int .i64 a, .int .i64 m], .agg #[.int .i64 b, .int .i64 n]] W fun e w' => e = .returned (.tuple #[.agg #[.int .i64 (addR a m b n).1, .int .i64 (addR a m b n).2.1], .bool (addR a m b n).2.2]) ∧ Below W.heap.size W w' :=
  spec_ValAdd.calls a m b n _ _ _ W (by rw [specAdd_eq])
set_option maxHeartbeats 4000000 in
theorem valThree_w (A0 : Option Addr) (c0 : Nat) (l0 : List Int) (A1 : Option Addr) (c1 : Nat) (l1 : List Int) (w : World) (hr0 : Kd.C (Kd.int .u8) w A0 l0.length l0) (hc0 : l0.length ≤ c0) (hw0 : ∀ x ∈ l0, (Lit.int .u8 x).wf = true) :
    Calls Try.prog 11 #[.slice A0 l0.length c0, .slice A1 l1.length c1] w fun e w' => e = .returned (.bool true) ∧ Below w.heap.size w w' := by
  obtain ⟨a, m, b, n, hd, -, -⟩ := drawAdd_ok 3 hw0
  have H0 : Aside0 (∀ W, Below w.heap.size w W → Calls Try.prog 22 #[.slice A0 l0.length c0] W fun e w' => e = .returned (.tuple #[.agg #[.int .i64 a, .int .i64 m], .agg #[.int .i64 b, .int .i64 n]]) ∧ Below W.heap.size W w') := ⟨fun W hW => spec_DrawValAdd.calls 5 A0 c0 l0 a m b n W (Kd.C_below hr0 hW) hc0 hd⟩
  clear hr0 hw0 hc0 hd
  go_enter Try.func11, Try.ntmps11
  by_cases m0 : l0.length > 1048576
  · have e0 : decide ((1048576 : Int) < (l0.length : Int)) = true := decide_eq_true (by omega)
    clear m0
    go_wp2
    go_ret
    exact ⟨rfl, Below.refl _ _⟩
  by_cases m1 : l1.length > 1048576
  · have e0 : decide ((1048576 : Int) < (l0.length : Int)) = false := decide_eq_false (by omega)
    have e1 : decide ((1048576 : Int) < (l1.length : Int)) = true := decide_eq_true (by omega)
    clear m0 m1
    go_wp2
    go_ret
    exact ⟨rfl, Below.refl _ _⟩
  have e0 : decide ((1048576 : Int) < (l0.length : Int)) = false := decide_eq_false (by omega)
  have e1 : decide ((1048576 : Int) < (l1.length : Int)) = false := decide_eq_false (by omega)
  have HL := Aside0.mk m1
  clear m0 m1
  go_upto_region 4 with (go_at_call 22; (with_reducible refine (H0.out _ (Below.refl _ _)).mono ?_); rintro e w1 ⟨rfl, hb⟩; have HB := Aside0.mk (((show Bxs w w1 [] from ⟨hb, fun t ht => by cases ht⟩).add a m).put b n (w1.heap.size + 1) (by simp)); clear hb)
  obtain ⟨c0, c1⟩ := HB.out.get (B := w1.heap.size) (p := a) (q := m) (by simp)
  obtain ⟨d0, d1⟩ := HB.out.get (B := w1.heap.size + 1) (p := b) (q := n) (by simp)
  have HT : Aside0 (∀ W, Calls Try.prog 17 #[.agg #[.int .i64 a, .int .i64 m], .agg #[.int .i64 b, .int .i64 n]] W fun e w' => e = .returned (.tuple #[.agg #[.int .i64 (addR a m b n).1, .int .i64 (addR a m b n).2.1], .bool (addR a m b n).2.2]) ∧ Below W.heap.size W w') := ⟨fun W => told_call a m b n W⟩
  have HA : Aside0 (∀ W, Calls Try.prog 18 #[.agg #[.int .i64 a, .int .i64 m], .agg #[.int .i64 b, .int .i64 n]] W fun e w' => e = .returned (.tuple #[.agg #[.int .i64 (addR a m b n).1, .int .i64 (addR a m b n).2.1], .bool (addR a m b n).2.2]) ∧ Below W.heap.size W w') := ⟨fun W => add_call a m b n W⟩
  by_cases h : okP a m ∧ okP b n ∧ a = 1 ∧ b = 1 ∧ okP 1 (m + n)
  rotate_left
  · rw [addR_neg h] at HT HA
    clear h
    go_wp2_with (first
      | (go_at_call 17; (with_reducible refine (HT.out _).mono ?_); rintro e w2 ⟨rfl, hb⟩; replace HB := Aside0.mk ((HB.out.step hb).add 0 0); clear hb c0 c1 d0 d1; obtain ⟨c0, c1⟩ := HB.out.get (B := w1.heap.size) (p := a) (q := m) (by simp); obtain ⟨d0, d1⟩ := HB.out.get (B := w1.heap.size + 1) (p := b) (q := n) (by simp))
      | (go_at_call 18; (with_reducible refine (HA.out _).mono ?_); rintro e w3 ⟨rfl, hb⟩; replace HB := Aside0.mk ((HB.out.step hb).add 0 0); clear hb c0 c1 d0 d1; obtain ⟨c0, c1⟩ := HB.out.get (B := w2.heap.size) (p := 0) (q := 0) (by simp); obtain ⟨d0, d1⟩ := HB.out.get (B := w3.heap.size) (p := 0) (q := 0) (by simp)))
    go_ret
    exact ⟨rfl, HB.out.below⟩
  obtain ⟨h1, h2, rfl, rfl, h3⟩ := h
  rw [addR_pos ⟨h1, h2, rfl, rfl, h3⟩] at HT HA
  have H123 := Aside0.mk (show _ ∧ _ ∧ _ from ⟨h1, h2, h3⟩)
  clear h1 h2 h3
  go_upto_region 9 with (first
    | (go_at_call 17; (with_reducible refine (HT.out _).mono ?_); rintro e w2 ⟨rfl, hb⟩; replace HB := Aside0.mk ((HB.out.step hb).add 1 (m + n)); clear hb c0 c1 d0 d1; obtain ⟨c0, c1⟩ := HB.out.get (B := w1.heap.size) (p := 1) (q := m) (by simp); obtain ⟨d0, d1⟩ := HB.out.get (B := w1.heap.size + 1) (p := 1) (q := n) (by simp))
    | (go_at_call 18; (with_reducible refine (HA.out _).mono ?_); rintro e w3 ⟨rfl, hb⟩; replace HB := Aside0.mk ((HB.out.step hb).add 1 (m + n)); clear hb c0 c1 d0 d1; obtain ⟨c0, c1⟩ := HB.out.get (B := w2.heap.size) (p := 1) (q := m + n) (by simp); obtain ⟨d0, d1⟩ := HB.out.get (B := w3.heap.size) (p := 1) (q := m + n) (by simp)))
  obtain ⟨z, hz⟩ : ∃ z : Int, z = (l1.length : Int) % 60 - 30 := ⟨_, rfl⟩
  rw [← hz]
  have hz2 : -30 ≤ z ∧ z ≤ 29 := by omega
  obtain ⟨xk, xn, xb, hx⟩ : ∃ a b c, addR 1 (m + n) 1 z = (a, b, c) := ⟨_, _, _, rfl⟩
  obtain ⟨yk, yn, yb, hy⟩ : ∃ a b c, addR 1 n 1 z = (a, b, c) := ⟨_, _, _, rfl⟩
  obtain ⟨zk, zn, zb, hq⟩ : ∃ a b c, addR 1 m yk yn = (a, b, c) := ⟨_, _, _, rfl⟩
  have hS := three_sums H123.out.1 H123.out.2.1 hz2 hx hy hq
  have hf : addR 1 m 1 0 = (1, m, true) := by
    have := H123.out.1
    rw [addR_pos ⟨this, by unfold okP; omega, rfl, rfl, by simpa using this⟩]
    simp
  have HX : Aside0 (∀ W, Calls Try.prog 18 #[.agg #[.int .i64 1, .int .i64 (m + n)], .agg #[.int .i64 1, .int .i64 z]] W fun e w' => e = .returned (.tuple #[.agg #[.int .i64 xk, .int .i64 xn], .bool xb]) ∧ Below W.heap.size W w') := ⟨fun W => by have := add_call 1 (m + n) 1 z W; rwa [hx] at this⟩
  have HY : Aside0 (∀ W, Calls Try.prog 18 #[.agg #[.int .i64 1, .int .i64 n], .agg #[.int .i64 1, .int .i64 z]] W fun e w' => e = .returned (.tuple #[.agg #[.int .i64 yk, .int .i64 yn], .bool yb]) ∧ Below W.heap.size W w') := ⟨fun W => by have := add_call 1 n 1 z W; rwa [hy] at this⟩
  have HZ : Aside0 (∀ W, Calls Try.prog 18 #[.agg #[.int .i64 1, .int .i64 m], .agg #[.int .i64 yk, .int .i64 yn]] W fun e w' => e = .returned (.tuple #[.agg #[.int .i64 zk, .int .i64 zn], .bool zb]) ∧ Below W.heap.size W w') := ⟨fun W => by have := add_call 1 m yk yn W; rwa [hq] at this⟩
  have HF : Aside0 (∀ W, Calls Try.prog 18 #[.agg #[.int .i64 1, .int .i64 m], .agg #[.int .i64 1, .int .i64 0]] W fun e w' => e = .returned (.tuple #[.agg #[.int .i64 1, .int .i64 m], .bool true]) ∧ Below W.heap.size W w') := ⟨fun W => by have := add_call 1 m 1 0 W; rwa [hf] at this⟩
  clear hx hy hq hf hz hz2 HA HT H123
  replace HB := Aside0.mk (HB.out.put 1 z (w3.heap.size + 1) (by simp))
  clear c0 c1 d0 d1
  obtain ⟨c0, c1⟩ := HB.out.get (B := w3.heap.size) (p := 1) (q := m + n) (by simp)
  obtain ⟨d0, d1⟩ := HB.out.get (B := w3.heap.size + 1) (p := 1) (q := z) (by simp)
  go_upto_region 10 with (go_at_call 18; (with_reducible refine (HX.out _).mono ?_); rintro e w4 ⟨rfl, hb⟩; replace HB := Aside0.mk ((HB.out.step hb).add xk xn); clear hb c0 c1 d0 d1; obtain ⟨c0, c1⟩ := HB.out.get (B := w1.heap.size + 1) (p := 1) (q := n) (by simp); obtain ⟨d0, d1⟩ := HB.out.get (B := w3.heap.size + 1) (p := 1) (q := z) (by simp))
  go_upto_region 11 with (go_at_call 18; (with_reducible refine (HY.out _).mono ?_); rintro e w5 ⟨rfl, hb⟩; replace HB := Aside0.mk ((HB.out.step hb).add yk yn); clear hb c0 c1 d0 d1; obtain ⟨c0, c1⟩ := HB.out.get (B := w1.heap.size) (p := 1) (q := m) (by simp); obtain ⟨d0, d1⟩ := HB.out.get (B := w5.heap.size) (p := yk) (q := yn) (by simp))
  go_upto_region 12 with (go_at_call 18; (with_reducible refine (HZ.out _).mono ?_); rintro e w6 ⟨rfl, hb⟩; replace HB := Aside0.mk ((HB.out.step hb).add zk zn); clear hb c0 c1 d0 d1; obtain ⟨c0, c1⟩ := HB.out.get (B := w1.heap.size) (p := 1) (q := m) (by simp))
  go_upto_region 13 with (go_at_call 18; (with_reducible refine (HF.out _).mono ?_); rintro e w7 ⟨rfl, hb⟩; replace HB := Aside0.mk ((HB.out.step hb).add 1 m); clear hb c0 c1; obtain ⟨c0, c1⟩ := HB.out.get (B := w1.heap.size) (p := 1) (q := m) (by simp); obtain ⟨d0, d1⟩ := HB.out.get (B := w7.heap.size) (p := 1) (q := m) (by simp); obtain ⟨f0, f1⟩ := HB.out.get (B := w4.heap.size) (p := xk) (q := xn) (by simp); obtain ⟨g0, g1⟩ := HB.out.get (B := w6.heap.size) (p := zk) (q := zn) (by simp))
  cases xb with
  | false =>
    clear hS
    go_wp2
    go_ret
    exact ⟨rfl, HB.out.below⟩
  | true =>
    cases yb with
    | false =>
      clear hS
      go_wp2
      go_ret
      exact ⟨rfl, HB.out.below⟩
    | true =>
      cases zb with
      | false =>
        clear hS
        go_wp2
        go_ret
        exact ⟨rfl, HB.out.below⟩
      | true =>
        have hS : xk = zk ∧ xn = zn := by simpa using hS
        obtain ⟨rfl, rfl⟩ := hS
        go_wp2
        go_ret
        exact ⟨by simp, HB.out.below⟩
theorem valThree (a0 : Option Addr) (len0 cap0 : Nat) (z0 : List Int) (a1 : Option Addr) (len1 cap1 : Nat) (z1 : List Int) (w : World)
    (w0 : (a0 = none ∧ len0 = 0 ∧ cap0 = 0 ∧ z0 = []) ∨ ∃ x, a0 = some x ∧ len0 ≤ cap0 ∧ cap0 ≤ maxLen ∧ z0.length = cap0 ∧ (∀ i, i < z0.length → w.cell? (x.add i) = some (.int .u8 (z0.getD i 0))) ∧ ∀ n ∈ z0, (Lit.int .u8 n).wf = true)
    (w1 : (a1 = none ∧ len1 = 0 ∧ cap1 = 0 ∧ z1 = []) ∨ ∃ x, a1 = some x ∧ len1 ≤ cap1 ∧ cap1 ≤ maxLen ∧ z1.length = cap1 ∧ (∀ i, i < z1.length → w.cell? (x.add i) = some (.int .u8 (z1.getD i 0))) ∧ ∀ n ∈ z1, (Lit.int .u8 n).wf = true) :
    Calls Try.prog 11 #[.slice a0 len0 cap0, .slice a1 len1 cap1] w fun e w' => e = .returned (.bool true) ∧ Below w.heap.size w w' := by
  obtain ⟨l0, rfl, hr0, hm0, hw0, hc0⟩ := ReadsInt.ofRowC w0
  obtain ⟨l1, rfl, hr1, hm1, hw1, hc1⟩ := ReadsInt.ofRowC w1
  exact valThree_w a0 cap0 l0 a1 cap1 l1 w (Kd.C_of_reads (d := (0 : Int)) (h1 := fun _ => rfl) hr0) hc0 hw0
end Go.Proofs.Yticgjhcknhkicaa.PV
