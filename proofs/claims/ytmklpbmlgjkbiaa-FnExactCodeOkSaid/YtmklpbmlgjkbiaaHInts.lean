/- Lists of numbers compared, marked, held: told without rounds. -/
import Derived.Test.YtmklpbmlgjkbiaaHSpecOp
import Derived.Test.YtmklpbmlgjkbiaaPSx1
namespace Go.Proofs.Ytmklpbmlgjkbiaa.PS
open Go.RowKit Go.Proofs.YtmklpbmlgjkbiaaW.PrintWords Go.Proofs.YtmklpbmlgjkbiaaW.PrintLast
set_option linter.unusedVariables false
theorem w64 {x : Int} (h0 : -9223372036854775808 ≤ x) (h1 : x ≤ 9223372036854775807) : wrap64 x = x := by
  unfold wrap64; omega
theorem rd_at (l : List Int) (i : Nat) (h : i < l.length) : rd l (i : Int) = l[i] := by
  unfold rd; simp [List.getD_eq_getElem?_getD, List.getElem?_eq_getElem h]

def eqIntsV.f (l0 l1 : List Int) : Option Bool := some (decide (l0 = l1))
theorem eqInts_loop (l0 l1 : List Int) (hl : l0.length = l1.length) (hm : l0.length ≤ 9223372036854775807) (d : Nat) : ∀ (k i : Nat), l0.length - i = d → i ≤ l0.length → d < k →
    laws_eqIntS.l0 k l0 l1 i = some (decide (l0.drop i = l1.drop i)) := by
  induction d with
  | zero =>
    intro k i hd hi hk
    obtain ⟨k, rfl⟩ : ∃ m, k = m + 1 := ⟨k - 1, by omega⟩
    simp only [laws_eqIntS.l0]
    rw [if_neg (by omega), List.drop_of_length_le (by omega), List.drop_of_length_le (by omega)]; simp
  | succ d ih =>
    intro k i hd hi hk
    obtain ⟨k, rfl⟩ : ∃ m, k = m + 1 := ⟨k - 1, by omega⟩
    simp only [laws_eqIntS.l0]
    have d0 : l0.drop i = l0[i]'(by omega) :: l0.drop (i + 1) := List.drop_eq_getElem_cons (by omega)
    have d1 : l1.drop i = l1[i]'(by omega) :: l1.drop (i + 1) := List.drop_eq_getElem_cons (by omega)
    rw [if_pos (by omega), if_pos (by omega), if_pos (by omega), rd_at l0 i (by omega), rd_at l1 i (by omega), d0, d1]
    by_cases he : l0[i]'(by omega) = l1[i]'(by omega)
    · rw [if_pos he, w64 (by omega) (by omega), show ((i : Int) + 1) = ((i + 1 : Nat) : Int) from by omega, ih k (i + 1) (by omega) (by omega) (by omega), he]
      exact congrArg some (decide_eq_decide.2 ⟨fun h => by rw [h], fun h => (List.cons.inj h).2⟩)
    · rw [if_neg he]
      exact congrArg some (decide_eq_false (fun h => he (List.cons.inj h).1)).symm
theorem eqInts_eq (l0 l1 : List Int) (hm : l0.length ≤ 9223372036854775807) : laws_eqIntS.f (l0.length + 1) l0 l1 = some (decide (l0 = l1)) := by
  unfold laws_eqIntS.f
  by_cases hl : l0.length = l1.length
  · rw [if_pos (by omega)]
    have := eqInts_loop l0 l1 hl hm l0.length (l0.length + 1) 0 (by omega) (by omega) (by omega)
    simpa using this
  · rw [if_neg (by omega)]
    have : l0 ≠ l1 := fun e => hl (by rw [e])
    simp [this]
theorem laws_eqIntS_as.calls (A0 : Option Addr) (c0 : Nat) (l0 : List Int) (A1 : Option Addr) (c1 : Nat) (l1 : List Int) (r : Bool) (w : World) (hr0 : Kd.C (Kd.int .i64) w A0 l0.length l0) (hc0 : l0.length ≤ c0) (hr1 : Kd.C (Kd.int .i64) w A1 l1.length l1) (hc1 : l1.length ≤ c1) (h : eqIntsV.f l0 l1 = some r) :
    Calls Try.prog 28 #[.slice A0 l0.length c0, .slice A1 l1.length c1] w fun e w' => e = .returned (.bool r) ∧ Drawn0 w w' :=
  laws_eqIntS.calls (l0.length + 1) A0 c0 l0 A1 c1 l1 r w hr0 hc0 hr1 hc1 ((eqInts_eq l0 l1 (Kd.C_max hr0)).trans h)
theorem eqInts_same (l : List Int) : eqIntsV.f l l = some true := by unfold eqIntsV.f; simp

/-- The numbers from k on, one for each place; and the next one. -/
def marks : Nat → Int → List Int
  | 0, _ => []
  | n + 1, k => k :: marks n (wrap64 (k + 1))
def marked : Nat → Int → Int
  | 0, k => k
  | n + 1, k => marked n (wrap64 (k + 1))
theorem marks_length : ∀ (n : Nat) (k : Int), (marks n k).length = n
  | 0, _ => rfl
  | n + 1, k => by simp [marks, marks_length n]
def markIntsV.f (l : List Int) (k : Int) : Option (Int × List Int) := some (marked l.length k, marks l.length k)
theorem markInts_loop (d : Nat) : ∀ (k i : Nat) (l : List Int) (x : Int), l.length ≤ 9223372036854775807 → l.length - i = d → i ≤ l.length → d < k →
    laws_markIntS.l0 k l x i = some (marked d x, l.take i ++ marks d x) := by
  induction d with
  | zero =>
    intro k i l x hm hd hi hk
    obtain ⟨k, rfl⟩ : ∃ m, k = m + 1 := ⟨k - 1, by omega⟩
    simp only [laws_markIntS.l0]
    rw [if_neg (by omega), List.take_of_length_le (by omega)]; simp [marked, marks]
  | succ d ih =>
    intro k i l x hm hd hi hk
    obtain ⟨k, rfl⟩ : ∃ m, k = m + 1 := ⟨k - 1, by omega⟩
    simp only [laws_markIntS.l0]
    rw [if_pos (by omega), if_pos (by omega), w64 (x := (i : Int) + 1) (by omega) (by omega), show ((i : Int) + 1) = ((i + 1 : Nat) : Int) from by omega]
    rw [Int.toNat_natCast, ih k (i + 1) (l.set i x) (wrap64 (x + 1)) (by simpa using hm) (by simp; omega) (by simp; omega) (by omega)]
    have : (l.set i x).take (i + 1) = l.take i ++ [x] := by
      rw [List.take_succ_eq_append_getElem (by simp; omega), List.take_set_of_le (by omega)]; simp
    rw [this]; simp [marked, marks]
theorem markInts_eq (l : List Int) (x : Int) (hm : l.length ≤ 9223372036854775807) : laws_markIntS.f (l.length + 1) l x = some (marked l.length x, marks l.length x) := by
  unfold laws_markIntS.f
  have := markInts_loop l.length (l.length + 1) 0 l x hm (by omega) (by omega) (by omega)
  simpa using this
theorem laws_markIntS_as.calls (P0_ : Nat → Prop) (u9000_ : Value) (l0 : List Int) (a1 : Int) (r1 : Int) (r2 : List Int) (w0 w : World) (hB : Below w0.heap.size w0 w) (ho0 : Kd.R (Kd.int .i64) 3 w w0.heap.size P0_ u9000_ l0) (h : markIntsV.f l0 a1 = some (r1, r2)) :
    Calls Try.prog 29 #[u9000_, .int .i64 a1] w fun e w' => e = .returned (.int .i64 r1) ∧ Kd.R (Kd.int .i64) 3 w' w0.heap.size (fun k_ => (P0_ k_ ∨ w.heap.size ≤ k_)) u9000_ r2 ∧ Below w0.heap.size w0 w' ∧ Kept w w' (fun k_ => P0_ k_) := by
  obtain ⟨A, c, _, _, hC⟩ := Kd.R_reads ho0
  exact laws_markIntS.calls (l0.length + 1) P0_ u9000_ l0 a1 r1 r2 w0 w hB ho0 ((markInts_eq l0 a1 (Kd.C_max hC)).trans h)

def heldR : List Int → Int → Int
  | [], k => k
  | x :: xs, k => if x = k then heldR xs (wrap64 (k + 1)) else -1
def heldIntsV.f (l : List Int) (k : Int) : Option Int := some (heldR l k)
theorem heldInts_loop (l : List Int) (hm : l.length ≤ 9223372036854775807) (d : Nat) : ∀ (k i : Nat) (x : Int), l.length - i = d → i ≤ l.length → d < k →
    laws_heldIntS.l0 k l x i = some (heldR (l.drop i) x) := by
  induction d with
  | zero =>
    intro k i x hd hi hk
    obtain ⟨k, rfl⟩ : ∃ m, k = m + 1 := ⟨k - 1, by omega⟩
    simp only [laws_heldIntS.l0]
    rw [if_neg (by omega), List.drop_of_length_le (by omega)]; rfl
  | succ d ih =>
    intro k i x hd hi hk
    obtain ⟨k, rfl⟩ : ∃ m, k = m + 1 := ⟨k - 1, by omega⟩
    simp only [laws_heldIntS.l0]
    rw [if_pos (by omega), if_pos (by omega), rd_at l i (by omega), List.drop_eq_getElem_cons (by omega : i < l.length)]
    simp only [heldR]
    by_cases he : l[i]'(by omega) = x
    · rw [if_pos he, if_pos he, w64 (x := (i : Int) + 1) (by omega) (by omega), show ((i : Int) + 1) = ((i + 1 : Nat) : Int) from by omega]
      exact ih k (i + 1) _ (by omega) (by omega) (by omega)
    · rw [if_neg he, if_neg he]
theorem heldInts_eq (l : List Int) (x : Int) (hm : l.length ≤ 9223372036854775807) : laws_heldIntS.f (l.length + 1) l x = some (heldR l x) := by
  unfold laws_heldIntS.f
  have := heldInts_loop l hm l.length (l.length + 1) 0 x (by omega) (by omega) (by omega)
  simpa using this
theorem laws_heldIntS_as.calls (A0 : Option Addr) (c0 : Nat) (l0 : List Int) (a1 : Int) (r : Int) (w : World) (hr0 : Kd.C (Kd.int .i64) w A0 l0.length l0) (hc0 : l0.length ≤ c0) (h : heldIntsV.f l0 a1 = some r) :
    Calls Try.prog 30 #[.slice A0 l0.length c0, .int .i64 a1] w fun e w' => e = .returned (.int .i64 r) ∧ Drawn0 w w' :=
  laws_heldIntS.calls (l0.length + 1) A0 c0 l0 a1 r w hr0 hc0 ((heldInts_eq l0 a1 (Kd.C_max hr0)).trans h)
/-- What was marked is held. -/
theorem held_marks : ∀ (n : Nat) (k : Int), heldR (marks n k) k = marked n k
  | 0, _ => rfl
  | n + 1, k => by simp only [marks, heldR, marked, if_true]; exact held_marks n _
theorem marked_eq (n : Nat) : ∀ k : Int, 0 ≤ k → k + n ≤ 9223372036854775807 → marked n k = k + n := by
  induction n with
  | zero => intro k _ _; simp [marked]
  | succ n ih => intro k h0 h1; simp only [marked]; rw [w64 (by omega) (by omega), ih _ (by omega) (by omega)]; omega

theorem specUses_eq (k r s t vk vn : Int) : spec_OpUses.f 3 k r s t vk vn = some (if opB k r s t vk vn = true then usesL k r s else []) := by
  unfold spec_OpUses.f opV.f
  simp only [Option.bind_some]
  by_cases h : opB k r s t vk vn = true
  · rw [if_pos h, if_pos h]
    have : spec_l2Uses.f 3 k r s t vk vn = some (usesL k r s) := by
      unfold spec_l2Uses.f usesL
      by_cases h2 : k = 2
      · simp [h2]
      by_cases h3 : k = 3
      · simp [h3, spec_l2Uses.j0]
      by_cases h6 : k = 6
      · simp [h6, spec_l2Uses.j0]
      by_cases h10 : k = 10
      · simp [h10, spec_l2Uses.j0, spec_l2Uses.j1]
      by_cases h11 : k = 11
      · simp [h11, spec_l2Uses.j0, spec_l2Uses.j1]
      by_cases h12 : k = 12
      · simp [h12, spec_l2Uses.j0, spec_l2Uses.j1]
      by_cases h14 : k = 14
      · simp [h14, spec_l2Uses.j0, spec_l2Uses.j1]
      simp [h2, h3, h6, h10, h11, h12, h14, spec_l2Uses.j0, spec_l2Uses.j1]
    rw [this]; rfl
  · rw [if_neg h, if_neg h]
theorem spec_OpUses_as.calls (a0_0 : Int) (a0_1 : Int) (a0_2 : Int) (a0_3 : Int) (a0_4 : Int) (a0_5 : Int) (r : List Int) (w : World) (h : usesV.f a0_0 a0_1 a0_2 a0_3 a0_4 a0_5 = some r) :
    Calls Try.prog 26 #[.agg #[.int .i64 a0_0, .int .i64 a0_1, .int .i64 a0_2, .int .i64 a0_3, .int .i64 a0_4, .int .i64 a0_5]] w fun e w' => ∃ v0_ : Value, e = .returned (v0_) ∧ Kd.R (Kd.int .i64) 3 w' w.heap.size (fun _ => True) v0_ r ∧ Below w.heap.size w w' :=
  spec_OpUses.calls 3 a0_0 a0_1 a0_2 a0_3 a0_4 a0_5 r w ((specUses_eq _ _ _ _ _ _).trans h)
end Go.Proofs.Ytmklpbmlgjkbiaa.PS
