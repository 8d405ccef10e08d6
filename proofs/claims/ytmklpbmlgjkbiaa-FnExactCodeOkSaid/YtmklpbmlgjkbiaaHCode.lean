/- CodeOk, as the program looks at it: the closure, the library's search, the whole; no condition. -/
import Derived.Test.YtmklpbmlgjkbiaaHImplOp
namespace Go.Proofs.Ytmklpbmlgjkbiaa.PS
open Go.RowKit Go.Proofs.YtmklpbmlgjkbiaaW.PrintWords Go.Proofs.YtmklpbmlgjkbiaaW.PrintLast
set_option linter.unusedVariables false
set_option linter.unusedSimpArgs false
set_option maxRecDepth 100000
def opS (x : S29) : Bool := opB x.f0 x.f1 x.f2 x.f3 x.f4.f0 x.f4.f1
/-- Wrong among n steps. -/
def wrongB (n : Nat) (x : S29) : Bool := !(opS x) || (hasT x.f0 && decide ((n : Int) ≤ x.f3))
def codeB (l : List S29) : Bool := decide (1 ≤ l.length ∧ l.length ≤ 16) && !(l.any (wrongB l.length))
def codeV.f (l : List S29) : Option Bool := some (codeB l)
set_option maxHeartbeats 4000000 in
theorem wrong_any (A0 : Option Addr) (n c0 B : Nat) (k r s t vk vn : Int) (w : World) (hB : w.heap[B]? = some (.cells #[.slice A0 n c0] 42 (0, 0))) :
    Calls Try.prog 73 #[.agg #[.int .i64 k, .int .i64 r, .int .i64 s, .int .i64 t, .int .i64 vk, .int .i64 vn], .pointer (some ⟨B, 0, none⟩)] w fun e w' => e = .returned (.bool (!(opB k r s t vk vn) || (hasT k && decide ((n : Int) ≤ t)))) ∧ Below w.heap.size w w' := by
  have hOk := fun W : World => impl_OpOk.calls k r s t vk vn (opB k r s t vk vn) W rfl
  have hHas := fun W : World => has_any k r s t vk vn 84 W
  rw [hasC_T] at hHas
  have ltB := blk_lt hB
  obtain ⟨g, hg⟩ : ∃ g, g = opB k r s t vk vn := ⟨_, rfl⟩
  obtain ⟨h, hh⟩ : ∃ h, h = hasT k := ⟨_, rfl⟩
  rw [← hg] at hOk ⊢
  rw [← hh] at hHas ⊢
  clear hg hh
  have BK : Aside0 ((w.alloc (.cells #[.int .i64 k, .int .i64 r, .int .i64 s, .int .i64 t, .int .i64 vk, .int .i64 vn] 29)).heap[w.heap.size]? = some (.cells #[.int .i64 k, .int .i64 r, .int .i64 s, .int .i64 t, .int .i64 vk, .int .i64 vn] 29 (0, 0))) := ⟨blk_new _ _⟩
  have BB : Aside0 ((w.alloc (.cells #[.int .i64 k, .int .i64 r, .int .i64 s, .int .i64 t, .int .i64 vk, .int .i64 vn] 29)).heap[B]? = some (.cells #[.slice A0 n c0] 42 (0, 0))) := ⟨blk_alloc hB _⟩
  have HB := Aside0.mk (below_alloc (Below.refl w.heap.size w) (.cells #[.int .i64 k, .int .i64 r, .int .i64 s, .int .i64 t, .int .i64 vk, .int .i64 vn] 29))
  clear hB ltB
  cases g <;> cases h
  all_goals go_enter Try.func73, Try.ntmps73
  all_goals go_wp2_with (first | (go_at_call 25; refine (hOk _).mono ?_; rintro e w' ⟨rfl, hb⟩; have BK1 := Aside0.mk (blk_below BK.out hb); have BB1 := Aside0.mk (blk_below BB.out hb); have HB1 := Aside0.mk (below_step HB.out hb); clear HB BK BB hb; have HB := HB1; have BK := BK1; have BB := BB1; clear HB1 BK1 BB1; obtain ⟨q0, q1, q2, q3, q4, q5⟩ : w'.cell? ⟨w.heap.size, 0, none⟩ = some (.int .i64 k) ∧ w'.cell? ⟨w.heap.size, 1, none⟩ = some (.int .i64 r) ∧ w'.cell? ⟨w.heap.size, 2, none⟩ = some (.int .i64 s) ∧ w'.cell? ⟨w.heap.size, 3, none⟩ = some (.int .i64 t) ∧ w'.cell? ⟨w.heap.size, 4, none⟩ = some (.int .i64 vk) ∧ w'.cell? ⟨w.heap.size, 5, none⟩ = some (.int .i64 vn) := ⟨(blk_cell BK.out 0).trans rfl, (blk_cell BK.out 1).trans rfl, (blk_cell BK.out 2).trans rfl, (blk_cell BK.out 3).trans rfl, (blk_cell BK.out 4).trans rfl, (blk_cell BK.out 5).trans rfl⟩) | (go_at_call 64; refine (hHas _).mono ?_; rintro e w'2 ⟨rfl, hb⟩; have BK1 := Aside0.mk (blk_below BK.out hb); have BB1 := Aside0.mk (blk_below BB.out hb); have HB1 := Aside0.mk (below_step HB.out hb); clear HB BK BB hb; have HB := HB1; have BK := BK1; have BB := BB1; clear HB1 BK1 BB1; have u3 : w'2.cell? ⟨w.heap.size, 3, none⟩ = some (.int .i64 t) := (blk_cell BK.out 3).trans rfl; have u0 : w'2.cell? ⟨B, 0, none⟩ = some (.slice A0 n c0) := (blk_cell BB.out 0).trans rfl))
  all_goals go_ret
  all_goals exact ⟨by simp, HB.out⟩

def aggS (x : S29) : Value := .agg #[.int .i64 x.f0, .int .i64 x.f1, .int .i64 x.f2, .int .i64 x.f3, .int .i64 x.f4.f0, .int .i64 x.f4.f1]
/-- A looked-for step is found at i, or not at all. -/
def FoundAt (p : S29 → Bool) (l : List S29) (i : Int) : Prop := (0 ≤ i ∧ l.any p = true) ∨ (i = -1 ∧ l.any p = false)
theorem found_yes {p : S29 → Bool} {l : List S29} {kk : Nat} (h : kk < l.length) (hp : p (rd_T29 l kk) = true) : FoundAt p l kk := by
  refine .inl ⟨by omega, List.any_eq_true.2 ⟨rd_T29 l kk, ?_, hp⟩⟩
  unfold rd_T29
  rw [List.getD_eq_getElem?_getD, Int.toNat_natCast, List.getElem?_eq_getElem h]
  exact List.getElem_mem h
theorem found_no {p : S29 → Bool} {l : List S29} (h : ∀ j, j < l.length → p (rd_T29 l (j : Nat)) = false) : FoundAt p l (-1) := by
  refine .inr ⟨rfl, List.any_eq_false.2 fun x hx => ?_⟩
  obtain ⟨j, hj, rfl⟩ := List.mem_iff_getElem.1 hx
  have := h j hj
  unfold rd_T29 at this
  rw [List.getD_eq_getElem?_getD, Int.toNat_natCast, List.getElem?_eq_getElem hj] at this
  simpa using this
set_option maxHeartbeats 4000000 in
theorem index_ops (p : S29 → Bool) (g : Nat) (lb : Array Value) (eg : ∀ args w, (callFunc g args).run Try.prog w = .ok (.enter g args) w) (A0 : Option Addr) (c0 : Nat) (l0 : List S29) (w : World)
    (hr0 : Kd.C k29 w A0 l0.length l0) (hl : l0.length ≤ 16)
    (hp : ∀ (W : World) (x : S29), Below w.heap.size w W → Calls Try.prog g (#[aggS x] ++ lb) W fun e w' => e = .returned (.bool (p x)) ∧ Below w.heap.size w w') :
    Calls Try.prog 92 #[.slice A0 l0.length c0, .func (.func g) #[] lb] w fun e w' => ∃ i, e = .returned (.int .i64 i) ∧ FoundAt p l0 i ∧ Below w.heap.size w w' := by
  have HR0 := Aside0.mk hr0
  clear hr0
  go_enter Try.func92, Try.ntmps92
  go_wp2
  go_loopg [5, 8] l0.length (fun gg _ s8 wr => ∃ kk : Nat, kk ≤ l0.length ∧ l0.length - kk ≤ gg ∧ s8 = .int .i64 kk ∧ Aside (Below w.heap.size w wr) ∧ Aside (∀ j, j < kk → p (rd_T29 l0 (j : Nat)) = false))
  case atStart => exact ⟨0, Nat.zero_le _, by omega, rfl, Below.refl _ w, fun j hj => absurd hj (Nat.not_lt_zero _)⟩
  case round =>
    obtain ⟨kk, hkk, hgg, rfl, BW, A⟩ := hrel
    by_cases hlt : kk < l0.length
    · have hltz : (kk : Int) < (l0.length : Int) := by omega
      have h0z : 0 ≤ (kk : Int) := by omega
      obtain ⟨ad, e, x0, x1, x2, x3, x4, x5⟩ := at_T29 HR0.out (kk : Int) h0z hltz
      subst e
      rw [Int.toNat_natCast] at x0 x1 x2 x3 x4 x5
      replace x0 := (BW.out.cell (World.block_lt_of_cell? w _ x0)).trans x0
      replace x1 := (BW.out.cell (World.block_lt_of_cell? w _ x1)).trans x1
      replace x2 := (BW.out.cell (World.block_lt_of_cell? w _ x2)).trans x2
      replace x3 := (BW.out.cell (World.block_lt_of_cell? w _ x3)).trans x3
      replace x4 := (BW.out.cell (World.block_lt_of_cell? w _ x4)).trans x4
      replace x5 := (BW.out.cell (World.block_lt_of_cell? w _ x5)).trans x5
      have hcall := hp wr (rd_T29 l0 (kk : Int)) BW.out
      unfold aggS at hcall
      clear hp
      obtain ⟨y, hy0⟩ : ∃ y, y = rd_T29 l0 (kk : Int) := ⟨_, rfl⟩
      rw [← hy0] at hcall x0 x1 x2 x3 x4 x5
      have hy := Aside0.mk hy0
      clear hy0
      cases hq : p y with
      | true =>
        rw [hq] at hcall
        go_wp2_with (go_at_fn g; refine hcall.mono ?_; rintro e w' ⟨rfl, hb'⟩)
        go_ret
        exact ⟨_, rfl, found_yes hlt (by rw [← hy.out]; exact hq), hb'⟩
      | false =>
        rw [hq] at hcall
        go_wp2_with (go_at_fn g; refine hcall.mono ?_; rintro e w' ⟨rfl, hb'⟩)
        go_roundg (l0.length - (kk + 1))
        case measure => omega
        case rel =>
          refine ⟨kk + 1, by omega, by omega, by go_num, hb', (show Aside _ from fun j hj => ?_)⟩
          by_cases e : j = kk
          · subst e
            rw [← hy.out]; exact hq
          · exact A.out j (by omega)
    · have hltz : ¬ (kk : Int) < (l0.length : Int) := by omega
      have : kk = l0.length := by omega
      subst this
      go_wp2
      go_ret
      exact ⟨_, rfl, found_no A.out, BW.out⟩
set_option maxHeartbeats 4000000 in
theorem contains_ops (p : S29 → Bool) (g : Nat) (lb : Array Value) (eg : ∀ args w, (callFunc g args).run Try.prog w = .ok (.enter g args) w) (A0 : Option Addr) (c0 : Nat) (l0 : List S29) (w : World)
    (hr0 : Kd.C k29 w A0 l0.length l0) (hl : l0.length ≤ 16)
    (hp : ∀ (W : World) (x : S29), Below w.heap.size w W → Calls Try.prog g (#[aggS x] ++ lb) W fun e w' => e = .returned (.bool (p x)) ∧ Below w.heap.size w w') :
    Calls Try.prog 74 #[.slice A0 l0.length c0, .func (.func g) #[] lb] w fun e w' => e = .returned (.bool (l0.any p)) ∧ Below w.heap.size w w' := by
  have hx := index_ops p g lb eg A0 c0 l0 w hr0 hl hp
  clear hr0 hp
  go_enter Try.func74, Try.ntmps74
  go_wp2_with (go_at_call 92; refine hx.mono ?_; rintro e w' ⟨i, rfl, hi, hb⟩)
  go_ret
  refine ⟨?_, hb⟩
  rcases hi with ⟨h0, h1⟩ | ⟨rfl, h1⟩
  · rw [h1]; simp [h0]
  · rw [h1]; rfl
set_option maxHeartbeats 4000000 in
theorem impl_CodeOk.calls (A0 : Option Addr) (c0 : Nat) (l0 : List S29) (r : Bool) (w : World) (hr0 : Kd.C k29 w A0 l0.length l0) (hc0 : l0.length ≤ c0) (h : codeV.f l0 = some r) :
    Calls Try.prog 35 #[.slice A0 l0.length c0] w fun e w' => e = .returned (.bool r) ∧ Below w.heap.size w w' := by
  have h := Aside0.mk (Option.some.inj h)
  have HR0 := Aside0.mk hr0
  clear hr0
  by_cases hl : 1 ≤ l0.length ∧ l0.length ≤ 16
  · have b1 : (decide (1 ≤ l0.length ∧ l0.length ≤ 16)) = true := decide_eq_true hl
    have b2 : (decide (1 ≤ (l0.length : Int) ∧ (l0.length : Int) ≤ 16)) = true := decide_eq_true (by omega)
    obtain ⟨w1, hw1⟩ : ∃ w1, w1 = w.alloc (.cells #[.slice A0 l0.length c0] 42) := ⟨_, rfl⟩
    have hx := contains_ops (wrongB l0.length) 73 #[.pointer (some ⟨w.heap.size, 0, none⟩)] (fun _ _ => by kernel_rfl) A0 c0 l0 w1 (by rw [hw1]; exact Kd.C_alloc HR0.out _) hl.2 (fun W x hb => by
      have hB : W.heap[w.heap.size]? = some (.cells #[.slice A0 l0.length c0] 42 (0, 0)) := by
        have := blk_new w (.cells #[.slice A0 l0.length c0] 42)
        rw [← hw1] at this
        exact blk_below this hb
      refine (wrong_any A0 l0.length c0 w.heap.size x.f0 x.f1 x.f2 x.f3 x.f4.f0 x.f4.f1 W hB).mono ?_
      rintro e w' ⟨rfl, hb'⟩
      exact ⟨rfl, below_step hb hb'⟩)
    rw [hw1] at hx
    go_enter Try.func35, Try.ntmps35
    go_wp2_with (first | (go_at_call 65; refine (in_any _ _ _ _).mono ?_; rintro e w' ⟨rfl, rfl⟩) | (go_at_call 74; refine hx.mono ?_; rintro e w' ⟨rfl, hb⟩))
    all_goals go_ret
    all_goals (refine ⟨by rw [← h.out]; unfold codeB; simp [b1], ?_⟩)
    all_goals exact below_step (below_alloc (Below.refl _ _) _) hb
  · have b1 : (decide (1 ≤ l0.length ∧ l0.length ≤ 16)) = false := decide_eq_false hl
    have b2 : (decide (1 ≤ (l0.length : Int) ∧ (l0.length : Int) ≤ 16)) = false := decide_eq_false (by omega)
    go_enter Try.func35, Try.ntmps35
    go_wp2_with (first | (go_at_call 65; refine (in_any _ _ _ _).mono ?_; rintro e w' ⟨rfl, rfl⟩))
    all_goals go_ret
    all_goals (refine ⟨by rw [← h.out]; unfold codeB; simp [b1], ?_⟩)
    all_goals exact below_alloc (Below.refl _ _) _
end Go.Proofs.Ytmklpbmlgjkbiaa.PS
