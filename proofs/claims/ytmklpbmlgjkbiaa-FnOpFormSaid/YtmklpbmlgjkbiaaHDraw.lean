/- What a reader draws; no condition. -/
import Derived.Test.YtmklpbmlgjkbiaaPSx6
import Derived.Test.YtmklpbmlgjkbiaaHSpecOp
namespace Go.Proofs.Ytmklpbmlgjkbiaa.PS
open Go.RowKit Go.Proofs.YtmklpbmlgjkbiaaW.PrintWords Go.Proofs.YtmklpbmlgjkbiaaW.PrintLast

theorem wr64 {x : Int} (h0 : -9223372036854775808 ≤ x) (h1 : x ≤ 9223372036854775807) : wrap64 x = x := by
  unfold wrap64; omega

theorem xor_nonneg (a b : Int) (ha : 0 ≤ a) (ha' : a < 4611686018427387904) (hb : 0 ≤ b) (hb' : b < 4611686018427387904) : 0 ≤ Go.bits .xor .i64 a b := by
  obtain ⟨m, rfl⟩ := Int.eq_ofNat_of_zero_le ha
  obtain ⟨n, rfl⟩ := Int.eq_ofNat_of_zero_le hb
  have hm : m < 2 ^ 62 := by omega
  have hn : n < 2 ^ 62 := by omega
  have hx : m ^^^ n < 2 ^ 62 := Nat.xor_lt_two_pow hm hn
  have e1 : m % 2 ^ IntKind.i64.bits = m := Nat.mod_eq_of_lt (by show m < 2 ^ 64; omega)
  have e2 : n % 2 ^ IntKind.i64.bits = n := Nat.mod_eq_of_lt (by show n < 2 ^ 64; omega)
  simp only [bits, BitVec.ofInt_natCast, BitVec.toNat_xor, BitVec.toNat_ofNat, e1, e2]
  rw [IntKind.wrap_i64]
  omega

/-- What a reader reads: bytes. -/
def Bytes (b : List Int) : Prop := b.length ≤ 2000 ∧ ∀ x ∈ b, 0 ≤ x ∧ x ≤ 255

theorem rd_byte {b : List Int} (hb : Bytes b) {i : Int} (h : i.toNat < b.length) : 0 ≤ rd b i ∧ rd b i ≤ 255 := by
  unfold rd
  rw [List.getD_eq_getElem?_getD, List.getElem?_eq_getElem h]
  exact hb.2 _ (List.getElem_mem h)

theorem pick_ok {b : List Int} (hb : Bytes b) (k : Nat) (p n : Int) (hp : 0 ≤ p) (hp' : p < 1000000) (hn' : n < 1000000) :
    ∃ x, spec_l6Rd_pick.f (k + 1) b p n = some (x, p + 1) ∧ 0 ≤ x ∧ (1 ≤ n → x < n) ∧ (n < 1 → x = 0) := by
  have e1 : wrap64 (p + 1) = p + 1 := wr64 (by omega) (by omega)
  have e2 : wrap64 (p + 1 - 1) = p := by rw [wr64] <;> omega
  unfold spec_l6Rd_pick.f
  rw [e1]
  by_cases hn : n < 1
  · rw [if_pos hn]
    exact ⟨0, by simp [spec_l6Rd_pick.j0], by omega, by omega, fun _ => rfl⟩
  rw [if_neg hn]
  by_cases hl : b.length = 0
  · refine ⟨0, ?_, by omega, by omega, fun _ => rfl⟩
    simp [spec_l6Rd_pick.j0, hl]
  have hlb := hb.1
  have c0 : (((b.length : Nat) : Int) == 0) = false := by simp; intro h; simp [h] at hl
  rw [c0]
  simp only [spec_l6Rd_pick.j0]
  rw [if_neg (by simp), e2]
  have tm : ∀ X : Int, 0 ≤ X → 0 ≤ Int.tmod X n ∧ Int.tmod X n < n := fun X hX => by
    rw [Int.tmod_eq_emod_of_nonneg hX]
    exact ⟨Int.emod_nonneg _ (by omega), Int.emod_lt_of_pos _ (by omega)⟩
  by_cases hlt : p < (b.length : Int)
  · rw [if_pos hlt, if_pos hp, if_neg (by omega)]
    have hr := rd_byte hb (i := p) (by omega)
    rw [wr64 (x := rd b p) (by omega) (by omega)]
    have := tm _ hr.1
    exact ⟨_, rfl, this.1, fun _ => this.2, fun h => absurd h hn⟩
  rw [if_neg hlt, if_neg (by omega)]
  have hL : (0 : Int) < (b.length : Int) := by omega
  have ti : ∀ X : Int, 0 ≤ X → 0 ≤ Int.tmod X (b.length : Int) ∧ Int.tmod X (b.length : Int) < (b.length : Int) := fun X hX => by
    rw [Int.tmod_eq_emod_of_nonneg hX]
    exact ⟨Int.emod_nonneg _ (by omega), Int.emod_lt_of_pos _ hL⟩
  have e3 : wrap64 (wrap64 (p * 7) + 3) = p * 7 + 3 := by rw [wr64 (x := p * 7) (by omega) (by omega)]; exact wr64 (by omega) (by omega)
  rw [e3]
  obtain ⟨i, hi⟩ : ∃ i, Int.tmod p (b.length : Int) = i := ⟨_, rfl⟩
  obtain ⟨j, hj⟩ : ∃ j, Int.tmod (p * 7 + 3) (b.length : Int) = j := ⟨_, rfl⟩
  have bi := ti p hp; have bj := ti (p * 7 + 3) (by omega)
  rw [hi] at bi ⊢; rw [hj] at bj ⊢
  rw [if_pos bi.1, if_pos bi.2, if_pos bj.1, if_pos bj.2, if_neg (by omega)]
  have r1 := rd_byte hb (i := i) (by omega)
  have r2 := rd_byte hb (i := j) (by omega)
  obtain ⟨u, hu⟩ : ∃ u, rd b i = u := ⟨_, rfl⟩
  obtain ⟨v, hv⟩ : ∃ v, rd b j = v := ⟨_, rfl⟩
  rw [hu] at r1 ⊢; rw [hv] at r2 ⊢
  obtain ⟨q, hq⟩ : ∃ q, Int.tdiv p (b.length : Int) = q := ⟨_, rfl⟩
  have bq : 0 ≤ q ∧ q ≤ p := by
    rw [← hq, Int.tdiv_eq_ediv_of_nonneg hp]
    exact ⟨Int.ediv_nonneg hp (by omega), Int.ediv_le_self _ hp⟩
  rw [hq, wr64 (x := u) (by omega) (by omega), wr64 (x := v) (by omega) (by omega), wr64 (x := u * 131) (by omega) (by omega), wr64 (x := v * 1117) (by omega) (by omega), wr64 (x := u * 131 + v * 1117) (by omega) (by omega), wr64 (x := p * 29) (by omega) (by omega), wr64 (x := q) (by omega) (by omega), wr64 (x := q * 53) (by omega) (by omega), wr64 (x := u * 131 + v * 1117 + p * 29) (by omega) (by omega), wr64 (x := u * 131 + v * 1117 + p * 29 + q * 53) (by omega) (by omega)]
  obtain ⟨X, hX⟩ : ∃ X, u * 131 + v * 1117 + p * 29 + q * 53 = X := ⟨_, rfl⟩
  have bX : 0 ≤ X ∧ X < 100000000 := by omega
  rw [hX]
  have bY : 0 ≤ Int.tdiv X 64 ∧ Int.tdiv X 64 < 100000000 := by
    rw [Int.tdiv_eq_ediv_of_nonneg bX.1]; omega
  rw [wr64 (x := Int.tdiv X 64) (by omega) (by omega)]
  have := tm _ (xor_nonneg X (Int.tdiv X 64) bX.1 (by omega) bY.1 (by omega))
  exact ⟨_, rfl, this.1, fun _ => this.2, fun h => absurd h hn⟩
theorem rd_all {P : Int → Prop} {l : List Int} (h : ∀ x ∈ l, P x) {i : Int} (hi : i.toNat < l.length) : P (rd l i) := by
  unfold rd
  rw [List.getD_eq_getElem?_getD, List.getElem?_eq_getElem hi]
  exact h _ (List.getElem_mem hi)

theorem open_ok {l : List Int} (hw : ∀ x ∈ l, (Lit.int .u8 x).wf = true) : ∃ b, spec_l6Open.f l = some (b, 0) ∧ Bytes b := by
  have hb : ∀ x ∈ l, 0 ≤ x ∧ x ≤ 255 := fun x hx => by
    have := hw x hx
    simp [Lit.wf, IntKind.min, IntKind.max, IntKind.signed, IntKind.bits] at this
    omega
  unfold spec_l6Open.f
  by_cases h : (l.length : Int) > 2000
  · rw [if_pos h, if_pos (by omega)]
    exact ⟨_, rfl, by simp; omega, fun x hx => hb x (List.mem_of_mem_take hx)⟩
  · rw [if_neg h]
    exact ⟨_, rfl, by omega, hb⟩

/-- A value that is drawn. -/
def Drawn (kd n : Int) : Prop := 0 ≤ kd ∧ kd ≤ 5 ∧ -100 ≤ n ∧ n ≤ 100

theorem val_tail {b : List Int} (hb : Bytes b) (k : Nat) (p kd n : Int) (hp : 0 ≤ p) (hp' : p < 900000) (h : Drawn kd n) :
    ∃ kd' n' p', spec_l71Val.j0 (k + 2) b p kd n = some (kd', n', p') ∧ Drawn kd' n' ∧ p ≤ p' ∧ p' ≤ p + 2 := by
  obtain ⟨h1, h2, h3, h4⟩ := h
  simp only [spec_l71Val.j0]
  obtain ⟨x, hx, x0, x1, -⟩ := pick_ok hb k p 30 hp (by omega) (by omega)
  rw [hx]; simp only [Option.bind_some]
  by_cases c0 : x = 0
  · rw [if_pos c0]
    obtain ⟨y, hy, y0, y1, -⟩ := pick_ok hb k (p + 1) 3 (by omega) (by omega) (by omega)
    have y1 := y1 (by omega)
    rw [hy]; simp only [Option.bind_some]
    rw [if_pos y0, if_pos (by simp; omega)]
    have := rd_all (P := fun x => -100 ≤ x ∧ x ≤ 100) (l := [-100, 100, 10]) (by simp) (i := y) (by simp; omega)
    exact ⟨_, _, _, rfl, ⟨h1, h2, this.1, this.2⟩, by omega, by omega⟩
  rw [if_neg c0]
  by_cases c1 : x = 1
  · rw [if_pos c1]
    obtain ⟨y, hy, y0, y1, -⟩ := pick_ok hb k (p + 1) 6 (by omega) (by omega) (by omega)
    have y1 := y1 (by omega)
    rw [hy]; simp only [Option.bind_some]
    exact ⟨_, _, _, rfl, ⟨y0, by omega, h3, h4⟩, by omega, by omega⟩
  rw [if_neg c1]
  exact ⟨_, _, _, rfl, ⟨h1, h2, h3, h4⟩, by omega, by omega⟩

theorem val_ok {b : List Int} (hb : Bytes b) (k : Nat) (p : Int) (hp : 0 ≤ p) (hp' : p < 800000) :
    ∃ kd n p', spec_l71Val.f (k + 2) b p = some (kd, n, p') ∧ Drawn kd n ∧ p ≤ p' ∧ p' ≤ p + 4 := by
  unfold spec_l71Val.f
  obtain ⟨x, hx, x0, x1, -⟩ := pick_ok hb (k + 1) p 4 hp (by omega) (by omega)
  have x1 := x1 (by omega)
  rw [hx]; simp only [Option.bind_some]
  by_cases c1 : x = 1
  · rw [if_pos c1]
    obtain ⟨y, hy, y0, y1, -⟩ := pick_ok hb (k + 1) (p + 1) 9 (by omega) (by omega) (by omega)
    have y1 := y1 (by omega)
    rw [hy]; simp only [Option.bind_some]
    rw [if_pos y0, if_pos (by simp; omega)]
    have := rd_all (P := fun x => -100 ≤ x ∧ x ≤ 100) (l := [0, 1, 2, 3, -1, 7, 50, 99, -99]) (by simp) (i := y) (by simp; omega)
    obtain ⟨kd, n, p', h, hd, l1, l2⟩ := val_tail hb k (p + 1 + 1) x _ (by omega) (by omega) ⟨x0, by omega, this.1, this.2⟩
    exact ⟨kd, n, p', h, hd, by omega, by omega⟩
  rw [if_neg c1]
  by_cases c2 : x = 2
  · rw [if_pos c2]
    obtain ⟨y, hy, y0, y1, -⟩ := pick_ok hb (k + 1) (p + 1) 5 (by omega) (by omega) (by omega)
    have y1 := y1 (by omega)
    rw [hy]; simp only [Option.bind_some]
    obtain ⟨kd, n, p', h, hd, l1, l2⟩ := val_tail hb k (p + 1 + 1) x y (by omega) (by omega) ⟨x0, by omega, by omega, by omega⟩
    exact ⟨kd, n, p', h, hd, by omega, by omega⟩
  rw [if_neg c2]
  by_cases c3 : x = 3
  · rw [if_pos c3]
    obtain ⟨y, hy, y0, y1, -⟩ := pick_ok hb (k + 1) (p + 1) 4 (by omega) (by omega) (by omega)
    have y1 := y1 (by omega)
    rw [hy]; simp only [Option.bind_some]
    rw [wr64 (x := 1 + y) (by omega) (by omega)]
    obtain ⟨kd, n, p', h, hd, l1, l2⟩ := val_tail hb k (p + 1 + 1) x (1 + y) (by omega) (by omega) ⟨x0, by omega, by omega, by omega⟩
    exact ⟨kd, n, p', h, hd, by omega, by omega⟩
  rw [if_neg c3]
  obtain ⟨kd, n, p', h, hd, l1, l2⟩ := val_tail hb k (p + 1) x 0 (by omega) (by omega) ⟨x0, by omega, by omega, by omega⟩
  exact ⟨kd, n, p', h, hd, by omega, by omega⟩


theorem good_ok {b : List Int} (hb : Bytes b) (k : Nat) (p : Int) (hp : 0 ≤ p) (hp' : p < 800000) :
    ∃ kd n p', spec_l71Good.f (k + 2) b p = some (kd, n, p') ∧ Drawn kd n ∧ okP kd n ∧ p ≤ p' ∧ p' ≤ p + 4 := by
  unfold spec_l71Good.f
  obtain ⟨kd, n, p', h, hd, p0, p1⟩ := val_ok hb k p hp hp'
  rw [h]; simp only [Option.bind_some]
  rw [sok_eq]; simp only [Option.bind_some]
  by_cases c : okB kd n = true
  · rw [if_pos c]; exact ⟨_, _, _, rfl, hd, okB_true.1 c, p0, p1⟩
  · rw [if_neg c]; exact ⟨1, 1, _, rfl, ⟨by omega, by omega, by omega, by omega⟩, by unfold okP; omega, p0, p1⟩
theorem leO_add {α : Type} {f : Nat → Option α} (h : ∀ k, LeO (f k) (f (k + 1))) {a : α} {m : Nat} (e : f m = some a) : ∀ k, f (k + m) = some a
  | 0 => by rw [Nat.zero_add]; exact e
  | k + 1 => by rw [Nat.add_right_comm]; exact h _ _ (leO_add h e k)
theorem form_ge (k : Nat) (x : Int) : spec_l2Form.f (k + 3) x = some (formL x) := leO_add (f := fun k => spec_l2Form.f k x) (fun k => spec_l2Form.mono x k) (form_eq x) k
/-- A step that is drawn. -/
def DrawnOp (k r s t vk vn : Int) : Prop := 0 ≤ k ∧ k ≤ 17 ∧ -1 ≤ r ∧ r ≤ 6 ∧ -1 ≤ s ∧ s ≤ 6 ∧ 0 ≤ t ∧ t ≤ 16 ∧ Drawn vk vn
/-- A step that is drawn unspoilt. -/
def GoodOp (places k r s t vk vn : Int) : Prop := (1 ≤ k ∧ k ≤ 14) ∧ valP k vk vn ∧ (r = 0 ∨ (hasR k = true ∧ 0 ≤ r ∧ r ≤ 3)) ∧ (s = 0 ∨ (hasS k = true ∧ 0 ≤ s ∧ s ≤ 3)) ∧
    (t = 0 ∨ (hasT k = true ∧ 0 ≤ t ∧ t < places)) ∧ (hasV k = true ∨ (vk = 0 ∧ vn = 0)) ∧ Drawn vk vn
theorem op_ok {b : List Int} (hb : Bytes b) (k : Nat) (p n : Int) (hp : 0 ≤ p) (hp' : p < 700000) (hn : 1 ≤ n) (hn' : n ≤ 16) :
    ∃ x r s t vk vn p', spec_l71Op.f (k + 7) b p n = some (x, r, s, t, vk, vn, p') ∧ GoodOp n x r s t vk vn ∧ p ≤ p' ∧ p' ≤ p + 12 := by
  unfold spec_l71Op.f
  obtain ⟨x0, hx, x00, x01, -⟩ := pick_ok hb (k + 6) p 14 hp (by omega) (by omega)
  have x01 := x01 (by omega)
  rw [hx]; simp only [Option.bind_some]
  rw [wr64 (x := 1 + x0) (by omega) (by omega), show k + 7 = (k + 4) + 3 from rfl, form_ge]; simp only [Option.bind_some]
  obtain ⟨x, hxx⟩ : ∃ x, 1 + x0 = x := ⟨_, rfl⟩
  rw [hxx]
  have hk : 1 ≤ x ∧ x ≤ 14 := by omega
  have hF : formL x = [hasR x, hasS x, hasT x, hasV x] := if_pos hk
  rw [hF, if_pos (by simp)]
  -- R
  have hR : ∃ r p1, (if rdOf false [hasR x, hasS x, hasT x, hasV x] 0 = true then (spec_l6Rd_pick.f (k + 7) b (p + 1) 4).bind fun bt209 => spec_l71Op.j0 (k + 7) n [hasR x, hasS x, hasT x, hasV x] b bt209.2 x bt209.1 0 0 0 0 else spec_l71Op.j0 (k + 7) n [hasR x, hasS x, hasT x, hasV x] b (p + 1) x 0 0 0 0 0) = spec_l71Op.j0 (k + 7) n [hasR x, hasS x, hasT x, hasV x] b p1 x r 0 0 0 0 ∧ (r = 0 ∨ (hasR x = true ∧ 0 ≤ r ∧ r ≤ 3)) ∧ p + 1 ≤ p1 ∧ p1 ≤ p + 2 := by
    have e : rdOf false [hasR x, hasS x, hasT x, hasV x] 0 = hasR x := rfl
    rw [e]
    by_cases c : hasR x = true
    · rw [if_pos c]
      obtain ⟨y, hy, y0, y1, -⟩ := pick_ok hb (k + 6) (p + 1) 4 (by omega) (by omega) (by omega)
      have y1 := y1 (by omega)
      rw [hy]; simp only [Option.bind_some]
      exact ⟨y, p + 1 + 1, rfl, .inr ⟨c, y0, by omega⟩, by omega, by omega⟩
    · rw [if_neg c]; exact ⟨0, p + 1, rfl, .inl rfl, by omega, by omega⟩
  obtain ⟨r, p1, e1, hr, b10, b11⟩ := hR
  rw [show k + 4 + 3 = k + 7 from rfl, e1]
  rw [show k + 7 = (k + 6) + 1 from rfl, spec_l71Op.j0]
  rw [if_pos (by simp)]
  have hS : ∃ s p2, (if rdOf false [hasR x, hasS x, hasT x, hasV x] 1 = true then (spec_l6Rd_pick.f (k + 6) b p1 4).bind fun bt209 => spec_l71Op.j1 (k + 6) n [hasR x, hasS x, hasT x, hasV x] b bt209.2 x r bt209.1 0 0 0 else spec_l71Op.j1 (k + 6) n [hasR x, hasS x, hasT x, hasV x] b p1 x r 0 0 0 0) = spec_l71Op.j1 (k + 6) n [hasR x, hasS x, hasT x, hasV x] b p2 x r s 0 0 0 ∧ (s = 0 ∨ (hasS x = true ∧ 0 ≤ s ∧ s ≤ 3)) ∧ p1 ≤ p2 ∧ p2 ≤ p1 + 1 := by
    have e : rdOf false [hasR x, hasS x, hasT x, hasV x] 1 = hasS x := rfl
    rw [e]
    by_cases c : hasS x = true
    · rw [if_pos c]
      obtain ⟨y, hy, y0, y1, -⟩ := pick_ok hb (k + 5) p1 4 (by omega) (by omega) (by omega)
      have y1 := y1 (by omega)
      rw [hy]; simp only [Option.bind_some]
      exact ⟨y, p1 + 1, rfl, .inr ⟨c, y0, by omega⟩, by omega, by omega⟩
    · rw [if_neg c]; exact ⟨0, p1, rfl, .inl rfl, by omega, by omega⟩
  obtain ⟨s, p2, e2, hs, b20, b21⟩ := hS
  rw [e2, show k + 6 = (k + 5) + 1 from rfl, spec_l71Op.j1, if_pos (by simp)]
  have hT : ∃ t p3, (if rdOf false [hasR x, hasS x, hasT x, hasV x] 2 = true then (spec_l6Rd_pick.f (k + 5) b p2 n).bind fun bt209 => spec_l71Op.j2 (k + 5) [hasR x, hasS x, hasT x, hasV x] b bt209.2 x r s bt209.1 0 0 else spec_l71Op.j2 (k + 5) [hasR x, hasS x, hasT x, hasV x] b p2 x r s 0 0 0) = spec_l71Op.j2 (k + 5) [hasR x, hasS x, hasT x, hasV x] b p3 x r s t 0 0 ∧ (t = 0 ∨ (hasT x = true ∧ 0 ≤ t ∧ t < n)) ∧ p2 ≤ p3 ∧ p3 ≤ p2 + 1 := by
    have e : rdOf false [hasR x, hasS x, hasT x, hasV x] 2 = hasT x := rfl
    rw [e]
    by_cases c : hasT x = true
    · rw [if_pos c]
      obtain ⟨y, hy, y0, y1, -⟩ := pick_ok hb (k + 4) p2 n (by omega) (by omega) (by omega)
      have y1 := y1 (by omega)
      rw [hy]; simp only [Option.bind_some]
      exact ⟨y, p2 + 1, rfl, .inr ⟨c, y0, by omega⟩, by omega, by omega⟩
    · rw [if_neg c]; exact ⟨0, p2, rfl, .inl rfl, by omega, by omega⟩
  obtain ⟨t, p3, e3, ht, b30, b31⟩ := hT
  rw [e3, show k + 5 = (k + 4) + 1 from rfl, spec_l71Op.j2, if_pos (by simp)]
  have hV : ∃ vk vn p4, (if rdOf false [hasR x, hasS x, hasT x, hasV x] 3 = true then (spec_l71Good.f (k + 4) b p3).bind fun bt218 => spec_l71Op.j3 (k + 4) b bt218.2.2 x r s t bt218.1 bt218.2.1 else spec_l71Op.j3 (k + 4) b p3 x r s t 0 0) = spec_l71Op.j3 (k + 4) b p4 x r s t vk vn ∧ okP vk vn ∧ Drawn vk vn ∧ (hasV x = true ∨ (vk = 0 ∧ vn = 0)) ∧ p3 ≤ p4 ∧ p4 ≤ p3 + 4 := by
    have e : rdOf false [hasR x, hasS x, hasT x, hasV x] 3 = hasV x := rfl
    rw [e]
    by_cases c : hasV x = true
    · rw [if_pos c]
      obtain ⟨kd, v, p', h, hd, ho, q0, q1⟩ := good_ok hb (k + 2) p3 (by omega) (by omega)
      rw [h]; simp only [Option.bind_some]
      exact ⟨kd, v, p', rfl, ho, hd, .inl c, q0, q1⟩
    · rw [if_neg c]; exact ⟨0, 0, p3, rfl, by unfold okP; omega, ⟨by omega, by omega, by omega, by omega⟩, .inr ⟨rfl, rfl⟩, by omega, by omega⟩
  obtain ⟨vk, vn, p4, e4, ho, hd, hv, b40, b41⟩ := hV
  rw [e4, show k + 4 = (k + 3) + 1 from rfl, spec_l71Op.j3]
  by_cases c8 : x = 8
  · rw [if_pos c8]
    obtain ⟨y, hy, y0, y1, -⟩ := pick_ok hb (k + 2) p4 3 (by omega) (by omega) (by omega)
    have y1 := y1 (by omega)
    rw [hy]; simp only [Option.bind_some]
    rw [wr64 (x := 1 + y) (by omega) (by omega)]
    exact ⟨x, r, s, t, 1, 1 + y, p4 + 1, rfl, ⟨hk, ⟨by unfold okP; omega, by omega, by omega⟩, hr, hs, ht, .inl (by subst c8; rfl), by omega, by omega, by omega, by omega⟩, by omega, by omega⟩
  rw [if_neg c8]
  by_cases c13 : x = 13
  · rw [if_pos c13]
    obtain ⟨y, hy, y0, y1, -⟩ := pick_ok hb (k + 2) p4 2 (by omega) (by omega) (by omega)
    have y1 := y1 (by omega)
    rw [hy]; simp only [Option.bind_some]
    exact ⟨x, r, s, t, 1, y, p4 + 1, rfl, ⟨hk, ⟨by unfold okP; omega, by omega, by omega⟩, hr, hs, ht, .inl (by subst c13; rfl), by omega, by omega, by omega, by omega⟩, by omega, by omega⟩
  rw [if_neg c13]
  exact ⟨x, r, s, t, vk, vn, p4, rfl, ⟨hk, ⟨ho, by omega, by omega⟩, hr, hs, ht, hv, hd⟩, by omega, by omega⟩
theorem GoodOp.drawn {n k r s t vk vn : Int} (hn : n ≤ 16) (h : GoodOp n k r s t vk vn) : DrawnOp k r s t vk vn := by
  obtain ⟨a, b, c, d, e, f, g⟩ := h
  exact ⟨by omega, by omega, by omega, by omega, by omega, by omega, by omega, by omega, g⟩
theorem GoodOp.op {n k r s t vk vn : Int} (hn : n ≤ 16) (h : GoodOp n k r s t vk vn) : opP k r s t vk vn := by
  obtain ⟨a, b, c, d, e, f, g⟩ := h
  refine ⟨a, b, c, d, e.imp id (fun h => ⟨h.1, h.2.1, by omega⟩), f⟩
theorem any_ok {b : List Int} (hb : Bytes b) (k : Nat) (p : Int) (hp : 0 ≤ p) (hp' : p < 600000) :
    ∃ x r s t vk vn p', spec_l71AnyOp.f (k + 7) b p = some (x, r, s, t, vk, vn, p') ∧ DrawnOp x r s t vk vn ∧ p ≤ p' ∧ p' ≤ p + 20 := by
  unfold spec_l71AnyOp.f
  obtain ⟨x, r, s, t, vk, vn, p1, h, hg, q0, q1⟩ := op_ok hb k p 16 hp (by omega) (by omega) (by omega)
  obtain ⟨d1, d2, d3, d4, d5, d6, d7, d8, hd⟩ := hg.drawn (by omega)
  rw [h]; simp only [Option.bind_some]
  obtain ⟨y, hy, y0, y1, -⟩ := pick_ok hb (k + 6) p1 20 (by omega) (by omega) (by omega)
  rw [hy]; simp only [Option.bind_some]
  by_cases c0 : y = 0
  · rw [if_pos c0]
    obtain ⟨z, hz, z0, z1, -⟩ := pick_ok hb (k + 6) (p1 + 1) 17 (by omega) (by omega) (by omega)
    have z1 := z1 (by omega)
    rw [hz]; simp only [Option.bind_some]
    exact ⟨_, _, _, _, _, _, _, rfl, ⟨z0, by omega, d3, d4, d5, d6, d7, d8, hd⟩, by omega, by omega⟩
  rw [if_neg c0]
  by_cases c1 : y = 1
  · rw [if_pos c1]
    obtain ⟨z, hz, z0, z1, -⟩ := pick_ok hb (k + 6) (p1 + 1) 6 (by omega) (by omega) (by omega)
    have z1 := z1 (by omega)
    rw [hz]; simp only [Option.bind_some]
    rw [wr64 (x := z - 1) (by omega) (by omega)]
    exact ⟨_, _, _, _, _, _, _, rfl, ⟨d1, d2, by omega, by omega, d5, d6, d7, d8, hd⟩, by omega, by omega⟩
  rw [if_neg c1]
  by_cases c2 : y = 2
  · rw [if_pos c2]
    obtain ⟨kd, v, p', h, hd, q0, q1⟩ := val_ok hb (k + 5) (p1 + 1) (by omega) (by omega)
    rw [h]; simp only [Option.bind_some]
    exact ⟨_, _, _, _, _, _, _, rfl, ⟨d1, d2, d3, d4, d5, d6, d7, d8, hd⟩, by omega, by omega⟩
  rw [if_neg c2]
  exact ⟨_, _, _, _, _, _, _, rfl, ⟨d1, d2, d3, d4, d5, d6, d7, d8, hd⟩, by omega, by omega⟩
theorem drawOpOk_ok (k : Nat) {l : List Int} (hw : ∀ x ∈ l, (Lit.int .u8 x).wf = true) : ∃ x r s t vk vn, spec_DrawOpOk.f (k + 7) l = some (x, r, s, t, vk, vn) ∧ DrawnOp x r s t vk vn := by
  unfold spec_DrawOpOk.f
  obtain ⟨b, hb, hB⟩ := open_ok hw
  rw [hb]; simp only [Option.bind_some]
  obtain ⟨x, r, s, t, vk, vn, p1, h, ⟨d1, d2, d3, d4, d5, d6, d7, d8, hd⟩, q0, q1⟩ := any_ok hB k 0 (by omega) (by omega)
  rw [h]; simp only [Option.bind_some]
  obtain ⟨y, hy, y0, y1, -⟩ := pick_ok hB (k + 6) p1 5 (by omega) (by omega) (by omega)
  rw [hy]; simp only [Option.bind_some]
  by_cases c0 : y = 0
  · rw [if_pos c0]
    obtain ⟨z, hz, z0, z1, -⟩ := pick_ok hB (k + 6) (p1 + 1) 6 (by omega) (by omega) (by omega)
    have z1 := z1 (by omega)
    rw [hz]; simp only [Option.bind_some]
    rw [wr64 (x := z - 1) (by omega) (by omega)]
    exact ⟨_, _, _, _, _, _, rfl, ⟨d1, d2, d3, d4, by omega, by omega, d7, d8, hd⟩⟩
  rw [if_neg c0]
  exact ⟨_, _, _, _, _, _, rfl, ⟨d1, d2, d3, d4, d5, d6, d7, d8, hd⟩⟩
end Go.Proofs.Ytmklpbmlgjkbiaa.PS
