import Derived.Test.YticgjhcknhkicaaVPick
import Derived.Test.YticgjhcknhkicaaPVx4
import Derived.Test.YticgjhcknhkicaaPVx6
namespace Go.Proofs.Yticgjhcknhkicaa.PV
open Go.RowKit Go.Proofs.YticgjhcknhkicaaW.PrintWords Go.Proofs.YticgjhcknhkicaaW.PrintLast

theorem rd_all {P : Int → Prop} {l : List Int} (h : ∀ x ∈ l, P x) {i : Int} (hi : i.toNat < l.length) : P (rd l i) := by
  unfold rd
  rw [List.getD_eq_getElem?_getD, List.getElem?_eq_getElem hi]
  exact h _ (List.getElem_mem hi)

theorem open_ok {l : List Int} (hw : ∀ x ∈ l, (Lit.int .u8 x).wf = true) : ∃ b, spec_l6Open.f l = some (b, 0) ∧ Bytes b := by
  have hb : ∀ x ∈ l, 0 ≤ x ∧ x ≤ 255 := fun x hx => by
    have := hw x hx
    simp [Lit.wf, IntKind.min, IntKind.max, IntKind.signed, IntKind.bits] at this
    omega
  unfold spec_l6Open.f
  by_cases h : (l.length : Int) > 2000
  · rw [if_pos h, if_pos (by omega)]
    exact ⟨_, rfl, by simp; omega, fun x hx => hb x (List.mem_of_mem_take hx)⟩
  · rw [if_neg h]
    exact ⟨_, rfl, by omega, hb⟩

/-- A value that is drawn. -/
def Drawn (kd n : Int) : Prop := 0 ≤ kd ∧ kd ≤ 5 ∧ -100 ≤ n ∧ n ≤ 100

theorem val_tail {b : List Int} (hb : Bytes b) (k : Nat) (p kd n : Int) (hp : 0 ≤ p) (hp' : p < 900000) (h : Drawn kd n) :
    ∃ kd' n' p', spec_l71Val.j0 (k + 2) b p kd n = some (kd', n', p') ∧ Drawn kd' n' ∧ p ≤ p' ∧ p' ≤ p + 2 := by
  obtain ⟨h1, h2, h3, h4⟩ := h
  simp only [spec_l71Val.j0]
  obtain ⟨x, hx, x0, x1, -⟩ := pick_ok hb k p 30 hp (by omega) (by omega)
  rw [hx]; simp only [Option.bind_some]
  by_cases c0 : x = 0
  · rw [if_pos c0]
    obtain ⟨y, hy, y0, y1, -⟩ := pick_ok hb k (p + 1) 3 (by omega) (by omega) (by omega)
    have y1 := y1 (by omega)
    rw [hy]; simp only [Option.bind_some]
    rw [if_pos y0, if_pos (by simp; omega)]
    have := rd_all (P := fun x => -100 ≤ x ∧ x ≤ 100) (l := [-100, 100, 10]) (by simp) (i := y) (by simp; omega)
    exact ⟨_, _, _, rfl, ⟨h1, h2, this.1, this.2⟩, by omega, by omega⟩
  rw [if_neg c0]
  by_cases c1 : x = 1
  · rw [if_pos c1]
    obtain ⟨y, hy, y0, y1, -⟩ := pick_ok hb k (p + 1) 6 (by omega) (by omega) (by omega)
    have y1 := y1 (by omega)
    rw [hy]; simp only [Option.bind_some]
    exact ⟨_, _, _, rfl, ⟨y0, by omega, h3, h4⟩, by omega, by omega⟩
  rw [if_neg c1]
  exact ⟨_, _, _, rfl, ⟨h1, h2, h3, h4⟩, by omega, by omega⟩

theorem val_ok {b : List Int} (hb : Bytes b) (k : Nat) (p : Int) (hp : 0 ≤ p) (hp' : p < 800000) :
    ∃ kd n p', spec_l71Val.f (k + 2) b p = some (kd, n, p') ∧ Drawn kd n ∧ p ≤ p' ∧ p' ≤ p + 4 := by
  unfold spec_l71Val.f
  obtain ⟨x, hx, x0, x1, -⟩ := pick_ok hb (k + 1) p 4 hp (by omega) (by omega)
  have x1 := x1 (by omega)
  rw [hx]; simp only [Option.bind_some]
  by_cases c1 : x = 1
  · rw [if_pos c1]
    obtain ⟨y, hy, y0, y1, -⟩ := pick_ok hb (k + 1) (p + 1) 9 (by omega) (by omega) (by omega)
    have y1 := y1 (by omega)
    rw [hy]; simp only [Option.bind_some]
    rw [if_pos y0, if_pos (by simp; omega)]
    have := rd_all (P := fun x => -100 ≤ x ∧ x ≤ 100) (l := [0, 1, 2, 3, -1, 7, 50, 99, -99]) (by simp) (i := y) (by simp; omega)
    obtain ⟨kd, n, p', h, hd, l1, l2⟩ := val_tail hb k (p + 1 + 1) x _ (by omega) (by omega) ⟨x0, by omega, this.1, this.2⟩
    exact ⟨kd, n, p', h, hd, by omega, by omega⟩
  rw [if_neg c1]
  by_cases c2 : x = 2
  · rw [if_pos c2]
    obtain ⟨y, hy, y0, y1, -⟩ := pick_ok hb (k + 1) (p + 1) 5 (by omega) (by omega) (by omega)
    have y1 := y1 (by omega)
    rw [hy]; simp only [Option.bind_some]
    obtain ⟨kd, n, p', h, hd, l1, l2⟩ := val_tail hb k (p + 1 + 1) x y (by omega) (by omega) ⟨x0, by omega, by omega, by omega⟩
    exact ⟨kd, n, p', h, hd, by omega, by omega⟩
  rw [if_neg c2]
  by_cases c3 : x = 3
  · rw [if_pos c3]
    obtain ⟨y, hy, y0, y1, -⟩ := pick_ok hb (k + 1) (p + 1) 4 (by omega) (by omega) (by omega)
    have y1 := y1 (by omega)
    rw [hy]; simp only [Option.bind_some]
    rw [w64 (x := 1 + y) (by omega) (by omega)]
    obtain ⟨kd, n, p', h, hd, l1, l2⟩ := val_tail hb k (p + 1 + 1) x (1 + y) (by omega) (by omega) ⟨x0, by omega, by omega, by omega⟩
    exact ⟨kd, n, p', h, hd, by omega, by omega⟩
  rw [if_neg c3]
  obtain ⟨kd, n, p', h, hd, l1, l2⟩ := val_tail hb k (p + 1) x 0 (by omega) (by omega) ⟨x0, by omega, by omega, by omega⟩
  exact ⟨kd, n, p', h, hd, by omega, by omega⟩

theorem drawOk_ok (k : Nat) {l : List Int} (hw : ∀ x ∈ l, (Lit.int .u8 x).wf = true) : ∃ kd n, spec_DrawValOk.f (k + 2) l = some (kd, n) ∧ Drawn kd n := by
  unfold spec_DrawValOk.f
  obtain ⟨b, hb, hB⟩ := open_ok hw
  rw [hb]; simp only [Option.bind_some]
  obtain ⟨kd, n, p, h, hd, p0, p1⟩ := val_ok hB k 0 (by omega) (by omega)
  rw [h]; simp only [Option.bind_some]
  obtain ⟨x, hx, x0, x1, -⟩ := pick_ok hB (k + 1) p 5 (by omega) (by omega) (by omega)
  rw [hx]; simp only [Option.bind_some]
  by_cases c : x = 0
  · rw [if_pos c]
    obtain ⟨y, hy, y0, y1, -⟩ := pick_ok hB (k + 1) (p + 1) 14 (by omega) (by omega) (by omega)
    have y1 := y1 (by omega)
    rw [hy]; simp only [Option.bind_some]
    rw [w64 (x := y - 2) (by omega) (by omega)]
    exact ⟨_, _, rfl, hd.1, hd.2.1, by omega, by omega⟩
  · rw [if_neg c]
    exact ⟨_, _, rfl, hd⟩

theorem drawFits_ok (k : Nat) {l : List Int} (hw : ∀ x ∈ l, (Lit.int .u8 x).wf = true) : ∃ kd n q, spec_DrawValFits.f (k + 2) l = some (kd, n, q) ∧ Drawn kd n ∧ 0 ≤ q ∧ q < 5 := by
  unfold spec_DrawValFits.f
  obtain ⟨b, hb, hB⟩ := open_ok hw
  rw [hb]; simp only [Option.bind_some]
  obtain ⟨kd, n, p, h, hd, p0, p1⟩ := val_ok hB k 0 (by omega) (by omega)
  rw [h]; simp only [Option.bind_some]
  obtain ⟨x, hx, x0, x1, -⟩ := pick_ok hB (k + 1) p 5 (by omega) (by omega) (by omega)
  rw [hx]; simp only [Option.bind_some]
  exact ⟨_, _, _, rfl, hd, x0, x1 (by omega)⟩

theorem drawAdd_ok (k : Nat) {l : List Int} (hw : ∀ x ∈ l, (Lit.int .u8 x).wf = true) : ∃ a m b n, spec_DrawValAdd.f (k + 2) l = some (a, m, b, n) ∧ Drawn a m ∧ Drawn b n := by
  unfold spec_DrawValAdd.f
  obtain ⟨b, hb, hB⟩ := open_ok hw
  rw [hb]; simp only [Option.bind_some]
  obtain ⟨kd, n, p, h, hd, p0, p1⟩ := val_ok hB k 0 (by omega) (by omega)
  rw [h]; simp only [Option.bind_some]
  obtain ⟨kd', n', p', h', hd', p0', p1'⟩ := val_ok hB k p (by omega) (by omega)
  rw [h']; simp only [Option.bind_some]
  obtain ⟨x, hx, x0, x1, -⟩ := pick_ok hB (k + 1) p' 3 (by omega) (by omega) (by omega)
  rw [hx]; simp only [Option.bind_some]
  by_cases c : x > 0
  · rw [if_pos c]
    obtain ⟨y, hy, y0, y1, -⟩ := pick_ok hB (k + 1) (p' + 1) 120 (by omega) (by omega) (by omega)
    have y1 := y1 (by omega)
    rw [hy]; simp only [Option.bind_some]
    obtain ⟨z, hz, z0, z1, -⟩ := pick_ok hB (k + 1) (p' + 1 + 1) 120 (by omega) (by omega) (by omega)
    have z1 := z1 (by omega)
    rw [hz]; simp only [Option.bind_some]
    rw [w64 (x := y - 60) (by omega) (by omega), w64 (x := z - 60) (by omega) (by omega)]
    exact ⟨_, _, _, _, rfl, ⟨by omega, by omega, by omega, by omega⟩, ⟨by omega, by omega, by omega, by omega⟩⟩
  · rw [if_neg c]
    exact ⟨_, _, _, _, rfl, hd, hd'⟩
end Go.Proofs.Yticgjhcknhkicaa.PV
