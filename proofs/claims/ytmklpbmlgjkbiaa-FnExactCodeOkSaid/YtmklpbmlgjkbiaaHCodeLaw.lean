/- Lists of steps made, compared, looked at by the reference: told without rounds. -/
import Derived.Test.YtmklpbmlgjkbiaaHSpecOp
import Derived.Test.YtmklpbmlgjkbiaaHCode
import Derived.Test.YtmklpbmlgjkbiaaHInts
import Derived.Test.YtmklpbmlgjkbiaaPSx7
namespace Go.Proofs.Ytmklpbmlgjkbiaa.PS
open Go.RowKit Go.Proofs.YtmklpbmlgjkbiaaW.PrintWords Go.Proofs.YtmklpbmlgjkbiaaW.PrintLast
set_option linter.unusedVariables false
theorem rd29_at (l : List S29) (i : Nat) (h : i < l.length) : rd_T29 l (i : Int) = l[i] := by
  unfold rd_T29; simp [List.getD_eq_getElem?_getD, List.getElem?_eq_getElem h]
theorem rd25_at (l : List S25) (i : Nat) (h : i < l.length) : rd_T25 l (i : Int) = l[i] := by
  unfold rd_T25; simp [List.getD_eq_getElem?_getD, List.getElem?_eq_getElem h]
instance : DecidableEq S27 := fun a b => decidable_of_iff (a.f0 = b.f0 ∧ a.f1 = b.f1) ⟨fun ⟨h, g⟩ => by cases a; cases b; simp_all, fun h => by subst h; exact ⟨rfl, rfl⟩⟩
instance : DecidableEq S29 := fun a b => decidable_of_iff (a.f0 = b.f0 ∧ a.f1 = b.f1 ∧ a.f2 = b.f2 ∧ a.f3 = b.f3 ∧ a.f4 = b.f4) ⟨fun ⟨h, g, i, j, k⟩ => by cases a; cases b; simp_all, fun h => by subst h; exact ⟨rfl, rfl, rfl, rfl, rfl⟩⟩
theorem goes_eq (k : Int) : spec_l3Goes.f k = some (hasT k) := by
  unfold spec_l3Goes.f hasT
  by_cases h5 : k = 5
  · subst h5; rfl
  rw [if_neg h5]
  by_cases h8 : k = 8
  · subst h8; rfl
  rw [if_neg h8]
  by_cases h9 : k = 9
  · subst h9; rfl
  rw [if_neg h9]
  by_cases h10 : k = 10
  · subst h10; rfl
  have : (k == 10) = false := by simpa using h10
  rw [this]; simp [h5, h8, h9, h10]
theorem in_len (n : Nat) : spec_l6In.f (n : Int) 1 16 = some (decide (1 ≤ n ∧ n ≤ 16)) := by
  unfold spec_l6In.f
  split
  · congr 1; exact decide_eq_decide.2 (by omega)
  · congr 1; symm; exact decide_eq_false (by omega)
theorem scode_loop (l : List S29) (hm : l.length ≤ 9223372036854775807) (d : Nat) : ∀ (k i : Nat), l.length - i = d → i ≤ l.length → 2 * d < k →
    spec_CodeOk.l0 k l i = some (decide (1 ≤ l.length ∧ l.length ≤ 16) && !((l.drop i).any (wrongB l.length))) := by
  induction d with
  | zero =>
    intro k i hd hi hk
    obtain ⟨k, rfl⟩ : ∃ m, k = m + 1 := ⟨k - 1, by omega⟩
    simp only [spec_CodeOk.l0]
    rw [if_neg (by omega), List.drop_of_length_le (by omega), in_len]; simp
  | succ d ih =>
    intro k i hd hi hk
    obtain ⟨k, rfl⟩ : ∃ m, k = m + 1 := ⟨k - 1, by omega⟩
    obtain ⟨k, rfl⟩ : ∃ m, k = m + 1 := ⟨k - 1, by omega⟩
    simp only [spec_CodeOk.l0]
    have d0 : l.drop i = l[i]'(by omega) :: l.drop (i + 1) := List.drop_eq_getElem_cons (by omega)
    rw [if_pos (by omega), if_pos (by omega), rd29_at l i (by omega), d0]
    obtain ⟨x, hx⟩ : ∃ x, l[i]'(by omega) = x := ⟨_, rfl⟩
    rw [hx]
    have hw : wrongB l.length x = (!(opS x) || (hasT x.f0 && decide ((l.length : Int) ≤ x.f3))) := rfl
    have step : ∀ b : Bool, spec_CodeOk.j1 (k + 1) l i b = if b = true then some false else some (decide (1 ≤ l.length ∧ l.length ≤ 16) && !((l.drop (i + 1)).any (wrongB l.length))) := fun b => by
      simp only [spec_CodeOk.j1]
      rw [w64 (by omega) (by omega), show ((i : Int) + 1) = ((i + 1 : Nat) : Int) from by omega, ih k (i + 1) (by omega) (by omega) (by omega)]
    have ho : opV.f x.f0 x.f1 x.f2 x.f3 x.f4.f0 x.f4.f1 = some (opS x) := rfl
    rw [ho, goes_eq]
    simp only [Option.bind_some, step, List.any_cons, hw]
    cases opS x <;> cases hasT x.f0 <;> by_cases ht : (l.length : Int) ≤ x.f3 <;> simp [ht]
theorem scode_eq (l : List S29) (hm : l.length ≤ 9223372036854775807) : spec_CodeOk.f (2 * l.length + 1) l = some (codeB l) := by
  unfold spec_CodeOk.f
  exact scode_loop l hm l.length _ 0 (by omega) (by omega) (by omega)
theorem spec_CodeOk_as.calls (A0 : Option Addr) (c0 : Nat) (l0 : List (S29)) (r : Bool) (w : World) (hr0 : Kd.C k29 w A0 l0.length l0) (hc0 : l0.length ≤ c0) (h : codeV.f l0 = some r) :
    Calls Try.prog 33 #[.slice A0 l0.length c0] w fun e w' => e = .returned (.bool r) ∧ Below w.heap.size w w' :=
  spec_CodeOk.calls _ A0 c0 l0 r w hr0 hc0 ((scode_eq l0 (Kd.C_max hr0)).trans h)
def toS (x : S25) : S29 := ⟨x.f0, x.f1, x.f2, x.f3, ⟨x.f4.f0, x.f4.f1⟩⟩
def toOpsV.f (l : List S25) : Option (List S29) := if l.length ≤ 5864062014805 then some (l.map toS) else none
theorem toOps_loop (l : List S25) (hm : l.length ≤ 9223372036854775807) (d : Nat) : ∀ (k i : Nat) (x : List S29), x.length = l.length → l.length - i = d → i ≤ l.length → d < k →
    laws_toOpS.l0 k l x i = some (x.take i ++ (l.drop i).map toS) := by
  induction d with
  | zero =>
    intro k i x hx hd hi hk
    obtain ⟨k, rfl⟩ : ∃ m, k = m + 1 := ⟨k - 1, by omega⟩
    simp only [laws_toOpS.l0]
    rw [if_neg (by omega), List.take_of_length_le (by omega), List.drop_of_length_le (by omega)]; simp
  | succ d ih =>
    intro k i x hx hd hi hk
    obtain ⟨k, rfl⟩ : ∃ m, k = m + 1 := ⟨k - 1, by omega⟩
    simp only [laws_toOpS.l0]
    have d0 : l.drop i = l[i]'(by omega) :: l.drop (i + 1) := List.drop_eq_getElem_cons (by omega)
    rw [if_pos (by omega), if_pos (by omega), rd25_at l i (by omega), d0]
    unfold laws_toOp.f laws_toVal.f
    simp only [Option.bind_some]
    rw [if_pos (by omega), w64 (by omega) (by omega), show ((i : Int) + 1) = ((i + 1 : Nat) : Int) from by omega, Int.toNat_natCast, ih k (i + 1) _ (by simpa using hx) (by omega) (by omega) (by omega)]
    congr 1
    rw [List.take_succ_eq_append_getElem (by simp; omega), List.take_set_of_le (by omega), List.getElem_set_self, List.append_assoc]
    rfl
theorem toOps_eq (l : List S25) (hm : l.length ≤ 9223372036854775807) : laws_toOpS.f (l.length + 1) l = toOpsV.f l := by
  unfold laws_toOpS.f toOpsV.f
  rw [if_pos (by omega)]
  simp only [Int.toNat_natCast]
  by_cases h : l.length ≤ 5864062014805
  · rw [if_pos h, if_pos h]
    have := toOps_loop l hm l.length (l.length + 1) 0 (List.replicate l.length z29) (by simp) (by omega) (by omega) (by omega)
    simpa using this
  · rw [if_neg h, if_neg h]
theorem laws_toOpS_as.calls (A0 : Option Addr) (c0 : Nat) (l0 : List (S25)) (r : List (S29)) (w : World) (hr0 : Kd.C k25 w A0 l0.length l0) (hc0 : l0.length ≤ c0) (h : toOpsV.f l0 = some r) :
    Calls Try.prog 34 #[.slice A0 l0.length c0] w fun e w' => ∃ v0_ : Value, e = .returned (v0_) ∧ Kd.R k29 29 w' w.heap.size (fun _ => True) v0_ r ∧ Below w.heap.size w w' :=
  laws_toOpS.calls (l0.length + 1) A0 c0 l0 r w hr0 hc0 ((toOps_eq l0 (Kd.C_max hr0)).trans h)
def eqOpsV.f (l0 l1 : List S29) : Option Bool := some (decide (l0 = l1))
theorem eqOps_same (l : List S29) : eqOpsV.f l l = some true := by unfold eqOpsV.f; simp
theorem eqOp_eq (a b : S29) : laws_eqOp.f a.f0 a.f1 a.f2 a.f3 a.f4.f0 a.f4.f1 b.f0 b.f1 b.f2 b.f3 b.f4.f0 b.f4.f1 = some (decide (a = b)) := by
  obtain ⟨a0, a1, a2, a3, a4, a5⟩ := a
  obtain ⟨b0, b1, b2, b3, b4, b5⟩ := b
  unfold laws_eqOp.f laws_eqVal.f
  simp only []
  by_cases h0 : a0 = b0 <;> by_cases h1 : a1 = b1 <;> by_cases h2 : a2 = b2 <;> by_cases h3 : a3 = b3 <;> by_cases h4 : a4 = b4 <;> by_cases h5 : a5 = b5 <;> simp [h0, h1, h2, h3, h4, h5]
theorem eqOps_loop (l0 l1 : List S29) (hl : l0.length = l1.length) (hm : l0.length ≤ 9223372036854775807) (d : Nat) : ∀ (k i : Nat), l0.length - i = d → i ≤ l0.length → d < k →
    laws_eqOpS.l0 k l0 l1 i = some (decide (l0.drop i = l1.drop i)) := by
  induction d with
  | zero =>
    intro k i hd hi hk
    obtain ⟨k, rfl⟩ : ∃ m, k = m + 1 := ⟨k - 1, by omega⟩
    simp only [laws_eqOpS.l0]
    rw [if_neg (by omega), List.drop_of_length_le (by omega), List.drop_of_length_le (by omega)]; simp
  | succ d ih =>
    intro k i hd hi hk
    obtain ⟨k, rfl⟩ : ∃ m, k = m + 1 := ⟨k - 1, by omega⟩
    simp only [laws_eqOpS.l0]
    have d0 : l0.drop i = l0[i]'(by omega) :: l0.drop (i + 1) := List.drop_eq_getElem_cons (by omega)
    have d1 : l1.drop i = l1[i]'(by omega) :: l1.drop (i + 1) := List.drop_eq_getElem_cons (by omega)
    rw [if_pos (by omega), if_pos (by omega), if_pos (by omega), rd29_at l0 i (by omega), rd29_at l1 i (by omega), d0, d1, eqOp_eq]
    simp only [Option.bind_some]
    by_cases he : l0[i]'(by omega) = l1[i]'(by omega)
    · rw [if_pos (by simpa using he), w64 (by omega) (by omega), show ((i : Int) + 1) = ((i + 1 : Nat) : Int) from by omega, ih k (i + 1) (by omega) (by omega) (by omega), he]
      exact congrArg some (decide_eq_decide.2 ⟨fun h => by rw [h], fun h => (List.cons.inj h).2⟩)
    · rw [if_neg (by simpa using he)]
      exact congrArg some (decide_eq_false (fun h => he (List.cons.inj h).1)).symm
theorem eqOps_eq (l0 l1 : List S29) (hm : l0.length ≤ 9223372036854775807) : laws_eqOpS.f (l0.length + 1) l0 l1 = some (decide (l0 = l1)) := by
  unfold laws_eqOpS.f
  by_cases hl : l0.length = l1.length
  · rw [if_pos (by omega)]
    have := eqOps_loop l0 l1 hl hm l0.length (l0.length + 1) 0 (by omega) (by omega) (by omega)
    simpa using this
  · rw [if_neg (by omega)]
    have : l0 ≠ l1 := fun e => hl (by rw [e])
    simp [this]
theorem laws_eqOpS_as.calls (A0 : Option Addr) (c0 : Nat) (l0 : List (S29)) (A1 : Option Addr) (c1 : Nat) (l1 : List (S29)) (r : Bool) (w : World) (hr0 : Kd.C k29 w A0 l0.length l0) (hc0 : l0.length ≤ c0) (hr1 : Kd.C k29 w A1 l1.length l1) (hc1 : l1.length ≤ c1) (h : eqOpsV.f l0 l1 = some r) :
    Calls Try.prog 36 #[.slice A0 l0.length c0, .slice A1 l1.length c1] w fun e w' => e = .returned (.bool r) ∧ Below w.heap.size w w' :=
  laws_eqOpS.calls (l0.length + 1) A0 c0 l0 A1 c1 l1 r w hr0 hc0 hr1 hc1 ((eqOps_eq l0 l1 (Kd.C_max hr0)).trans h)
end Go.Proofs.Ytmklpbmlgjkbiaa.PS
