import Derived.Test.YticgjhcknhkicaaPVx3
namespace Go.Proofs.Yticgjhcknhkicaa.PV
open Go.RowKit Go.Proofs.YticgjhcknhkicaaW.PrintWords Go.Proofs.YticgjhcknhkicaaW.PrintLast

theorem w64 {x : Int} (h0 : -9223372036854775808 ≤ x) (h1 : x ≤ 9223372036854775807) : wrap64 x = x := by
  unfold wrap64; omega

theorem xor_nonneg (a b : Int) (ha : 0 ≤ a) (ha' : a < 4611686018427387904) (hb : 0 ≤ b) (hb' : b < 4611686018427387904) : 0 ≤ Go.bits .xor .i64 a b := by
  obtain ⟨m, rfl⟩ := Int.eq_ofNat_of_zero_le ha
  obtain ⟨n, rfl⟩ := Int.eq_ofNat_of_zero_le hb
  have hm : m < 2 ^ 62 := by omega
  have hn : n < 2 ^ 62 := by omega
  have hx : m ^^^ n < 2 ^ 62 := Nat.xor_lt_two_pow hm hn
  have e1 : m % 2 ^ IntKind.i64.bits = m := Nat.mod_eq_of_lt (by show m < 2 ^ 64; omega)
  have e2 : n % 2 ^ IntKind.i64.bits = n := Nat.mod_eq_of_lt (by show n < 2 ^ 64; omega)
  simp only [bits, BitVec.ofInt_natCast, BitVec.toNat_xor, BitVec.toNat_ofNat, e1, e2]
  rw [IntKind.wrap_i64]
  omega

/-- What a reader reads: bytes. -/
def Bytes (b : List Int) : Prop := b.length ≤ 2000 ∧ ∀ x ∈ b, 0 ≤ x ∧ x ≤ 255

theorem rd_byte {b : List Int} (hb : Bytes b) {i : Int} (h : i.toNat < b.length) : 0 ≤ rd b i ∧ rd b i ≤ 255 := by
  unfold rd
  rw [List.getD_eq_getElem?_getD, List.getElem?_eq_getElem h]
  exact hb.2 _ (List.getElem_mem h)

theorem pick_ok {b : List Int} (hb : Bytes b) (k : Nat) (p n : Int) (hp : 0 ≤ p) (hp' : p < 1000000) (hn' : n < 1000000) :
    ∃ x, spec_l6Rd_pick.f (k + 1) b p n = some (x, p + 1) ∧ 0 ≤ x ∧ (1 ≤ n → x < n) ∧ (n < 1 → x = 0) := by
  have e1 : wrap64 (p + 1) = p + 1 := w64 (by omega) (by omega)
  have e2 : wrap64 (p + 1 - 1) = p := by rw [w64] <;> omega
  unfold spec_l6Rd_pick.f
  rw [e1]
  by_cases hn : n < 1
  · rw [if_pos hn]
    exact ⟨0, by simp [spec_l6Rd_pick.j0], by omega, by omega, fun _ => rfl⟩
  rw [if_neg hn]
  by_cases hl : b.length = 0
  · refine ⟨0, ?_, by omega, by omega, fun _ => rfl⟩
    simp [spec_l6Rd_pick.j0, hl]
  have hlb := hb.1
  have c0 : (((b.length : Nat) : Int) == 0) = false := by simp; intro h; simp [h] at hl
  rw [c0]
  simp only [spec_l6Rd_pick.j0]
  rw [if_neg (by simp), e2]
  have tm : ∀ X : Int, 0 ≤ X → 0 ≤ Int.tmod X n ∧ Int.tmod X n < n := fun X hX => by
    rw [Int.tmod_eq_emod_of_nonneg hX]
    exact ⟨Int.emod_nonneg _ (by omega), Int.emod_lt_of_pos _ (by omega)⟩
  by_cases hlt : p < (b.length : Int)
  · rw [if_pos hlt, if_pos hp, if_neg (by omega)]
    have hr := rd_byte hb (i := p) (by omega)
    rw [w64 (x := rd b p) (by omega) (by omega)]
    have := tm _ hr.1
    exact ⟨_, rfl, this.1, fun _ => this.2, fun h => absurd h hn⟩
  rw [if_neg hlt, if_neg (by omega)]
  have hL : (0 : Int) < (b.length : Int) := by omega
  have ti : ∀ X : Int, 0 ≤ X → 0 ≤ Int.tmod X (b.length : Int) ∧ Int.tmod X (b.length : Int) < (b.length : Int) := fun X hX => by
    rw [Int.tmod_eq_emod_of_nonneg hX]
    exact ⟨Int.emod_nonneg _ (by omega), Int.emod_lt_of_pos _ hL⟩
  have e3 : wrap64 (wrap64 (p * 7) + 3) = p * 7 + 3 := by rw [w64 (x := p * 7) (by omega) (by omega)]; exact w64 (by omega) (by omega)
  rw [e3]
  obtain ⟨i, hi⟩ : ∃ i, Int.tmod p (b.length : Int) = i := ⟨_, rfl⟩
  obtain ⟨j, hj⟩ : ∃ j, Int.tmod (p * 7 + 3) (b.length : Int) = j := ⟨_, rfl⟩
  have bi := ti p hp; have bj := ti (p * 7 + 3) (by omega)
  rw [hi] at bi ⊢; rw [hj] at bj ⊢
  rw [if_pos bi.1, if_pos bi.2, if_pos bj.1, if_pos bj.2, if_neg (by omega)]
  have r1 := rd_byte hb (i := i) (by omega)
  have r2 := rd_byte hb (i := j) (by omega)
  obtain ⟨u, hu⟩ : ∃ u, rd b i = u := ⟨_, rfl⟩
  obtain ⟨v, hv⟩ : ∃ v, rd b j = v := ⟨_, rfl⟩
  rw [hu] at r1 ⊢; rw [hv] at r2 ⊢
  obtain ⟨q, hq⟩ : ∃ q, Int.tdiv p (b.length : Int) = q := ⟨_, rfl⟩
  have bq : 0 ≤ q ∧ q ≤ p := by
    rw [← hq, Int.tdiv_eq_ediv_of_nonneg hp]
    exact ⟨Int.ediv_nonneg hp (by omega), Int.ediv_le_self _ hp⟩
  rw [hq, w64 (x := u) (by omega) (by omega), w64 (x := v) (by omega) (by omega), w64 (x := u * 131) (by omega) (by omega), w64 (x := v * 1117) (by omega) (by omega), w64 (x := u * 131 + v * 1117) (by omega) (by omega), w64 (x := p * 29) (by omega) (by omega), w64 (x := q) (by omega) (by omega), w64 (x := q * 53) (by omega) (by omega), w64 (x := u * 131 + v * 1117 + p * 29) (by omega) (by omega), w64 (x := u * 131 + v * 1117 + p * 29 + q * 53) (by omega) (by omega)]
  obtain ⟨X, hX⟩ : ∃ X, u * 131 + v * 1117 + p * 29 + q * 53 = X := ⟨_, rfl⟩
  have bX : 0 ≤ X ∧ X < 100000000 := by omega
  rw [hX]
  have bY : 0 ≤ Int.tdiv X 64 ∧ Int.tdiv X 64 < 100000000 := by
    rw [Int.tdiv_eq_ediv_of_nonneg bX.1]; omega
  rw [w64 (x := Int.tdiv X 64) (by omega) (by omega)]
  have := tm _ (xor_nonneg X (Int.tdiv X 64) bX.1 (by omega) bY.1 (by omega))
  exact ⟨_, rfl, this.1, fun _ => this.2, fun h => absurd h hn⟩
end Go.Proofs.Yticgjhcknhkicaa.PV
