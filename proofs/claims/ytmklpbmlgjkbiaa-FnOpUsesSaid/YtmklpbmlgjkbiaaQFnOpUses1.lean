/- What the row of FnOpUses rests on, part 2. -/
import Derived.Test.YtmklpbmlgjkbiaaProg
import Derived.Below
import Derived.Deep.Draws
import Derived.Deep.AppendLies
import Derived.Maps.AppendAt
import Derived.OwnWalk
import Derived.Laws.BytesArg
import Derived.Laws.MakeOwn
import Derived.Laws.OwnMore
import Derived.Deep.OwnRows
import Derived.Tactics
import Derived.Lib.ConvBytes
import Derived.Laws.Slices
import Derived.WalkKit
import Derived.KernelRfl
import Derived.RowKit3
import Derived.Deep.LoopGhost
import Derived.Deep.QuietTactic
import Derived.BigQuiet
import Derived.WideLaws
import Derived.Deep.DeepCutAuto
import Derived.Deep.CutBlock
import Derived.Deep.RegionHeld3
import Derived.Laws.Rows
import Derived.Lib.AppendStr
import Derived.ArgAppend
import Derived.Laws.IdiomCopy
import Derived.OrdersHeld
import Derived.Laws.BitsLemmas
import Derived.RowKit
import Derived.Laws.StructEq
import Derived.Deep.RegionWith
import Derived.Lib.Bytealg
import Derived.Shelf.Strings.Search3
import Derived.WalkSpells
import Derived.Lib.OthersKept
import Derived.Lib.Hide
import Derived.WalkSmall
import Derived.Test.YtmklpbmlgjkbiaaQFnOpUses0
section
namespace Go.Proofs.Ytmklpbmlgjkbiaa.PS
open Go.RowKit Go.Proofs.YtmklpbmlgjkbiaaW.PrintWords Go.Proofs.YtmklpbmlgjkbiaaW.PrintLast Go.Proofs.YtmklpbmlgjkbiaaW.PrintMore
attribute [local go_sem] max2_int min2_int max_two min_two max_three min_three max_four min_four   -- for this text's walks alone
set_option linter.unusedVariables false
set_option linter.unusedSimpArgs false
def errW : Option Int → Value
  | none => .nilIface
  | some c => .iface 0 (.int .i64 c)
theorem errW_none : errW none = .nilIface := rfl
theorem errW_some (c : Int) : errW (some c) = .iface 0 (.int .i64 c) := rfl
theorem info3 : (Try.prog.info? 3).map (fun i => (i.zero, i.size, i.bytes)) = some (some (.int .i64 0), 1, 8) := by kernel_rfl
theorem info5 : (Try.prog.info? 5).map (fun i => (i.zero, i.size, i.bytes)) = some (some (.int .u8 0), 1, 1) := by kernel_rfl
structure S7 where
  f0 : Int
  f1 : Int
  f2 : Bool
  f3 : Int
def z7 : S7 := ⟨(0 : Int), (0 : Int), false, (0 : Int)⟩
structure S8 where
  f0 : Int
  f1 : Int
  f2 : Bool
  f3 : Int
def z8 : S8 := ⟨(0 : Int), (0 : Int), false, (0 : Int)⟩
structure S66 where
  f0 : ByteArray
  f1 : ByteArray
  f2 : ByteArray
  f3 : Bool
def z66 : S66 := ⟨(⟨#[]⟩ : ByteArray), (⟨#[]⟩ : ByteArray), (⟨#[]⟩ : ByteArray), false⟩
end Go.Proofs.Ytmklpbmlgjkbiaa.PS
end
section
namespace Go.Proofs.Ytmklpbmlgjkbiaa.PB
open Go.RowKit Go.Proofs.YtmklpbmlgjkbiaaW.PrintWords Go.Proofs.YtmklpbmlgjkbiaaW.PrintLast Go.Proofs.YtmklpbmlgjkbiaaW.PrintMore Go.Proofs.Ytmklpbmlgjkbiaa.PS
attribute [local go_sem] max2_int min2_int max_two min_two max_three min_three max_four min_four   -- for this text's walks alone
set_option linter.unusedVariables false
set_option linter.unusedSimpArgs false
def errW : Option Int → Value
  | none => .nilIface
  | some c => .iface 0 (.int .i64 c)
theorem errW_none : errW none = .nilIface := rfl
theorem errW_some (c : Int) : errW (some c) = .iface 0 (.int .i64 c) := rfl
end Go.Proofs.Ytmklpbmlgjkbiaa.PB
end
section
namespace Go.Proofs.Ytmklpbmlgjkbiaa.PS
open Go.RowKit Go.Proofs.YtmklpbmlgjkbiaaW.PrintWords Go.Proofs.YtmklpbmlgjkbiaaW.PrintLast
def okP (k n : Int) : Prop := (k = 0 ∧ n = 0) ∨ (k = 1 ∧ -99 ≤ n ∧ n ≤ 99) ∨ (k = 2 ∧ 0 ≤ n ∧ n ≤ 9) ∨ (k = 3 ∧ 1 ≤ n ∧ n ≤ 6)
instance (k n : Int) : Decidable (okP k n) := by unfold okP; infer_instance
def okB (k n : Int) : Bool := decide (okP k n)
theorem okB_true {k n : Int} : okB k n = true ↔ okP k n := by simp [okB]
theorem okB_false {k n : Int} : okB k n = false ↔ ¬ okP k n := by simp [okB]
def hasR (k : Int) : Bool := decide (1 ≤ k ∧ k ≤ 14 ∧ k ≠ 9 ∧ k ≠ 13)
def hasS (k : Int) : Bool := decide (k = 2 ∨ k = 3 ∨ k = 6 ∨ k = 7 ∨ k = 8)
def hasT (k : Int) : Bool := decide (k = 5 ∨ k = 8 ∨ k = 9 ∨ k = 10)
def hasV (k : Int) : Bool := decide (k = 1 ∨ k = 8 ∨ k = 10 ∨ k = 13)
def formL (k : Int) : List Bool := if 1 ≤ k ∧ k ≤ 14 then [hasR k, hasS k, hasT k, hasV k] else []
def valP (k vk vn : Int) : Prop := okP vk vn ∧ (k = 8 → vk = 1 ∧ 1 ≤ vn) ∧ (k = 13 → vk = 1 ∧ 0 ≤ vn ∧ vn ≤ 1)
instance (k vk vn : Int) : Decidable (valP k vk vn) := by unfold valP; infer_instance
def opP (k r s t vk vn : Int) : Prop :=
  (1 ≤ k ∧ k ≤ 14) ∧ valP k vk vn ∧ (r = 0 ∨ (hasR k = true ∧ 0 ≤ r ∧ r ≤ 3)) ∧ (s = 0 ∨ (hasS k = true ∧ 0 ≤ s ∧ s ≤ 3)) ∧
    (t = 0 ∨ (hasT k = true ∧ 0 ≤ t ∧ t ≤ 15)) ∧ (hasV k = true ∨ (vk = 0 ∧ vn = 0))
instance (k r s t vk vn : Int) : Decidable (opP k r s t vk vn) := by unfold opP; infer_instance
def opB (k r s t vk vn : Int) : Bool := decide (opP k r s t vk vn)
theorem opB_true {k r s t vk vn : Int} : opB k r s t vk vn = true ↔ opP k r s t vk vn := by simp [opB]
theorem opB_false {k r s t vk vn : Int} : opB k r s t vk vn = false ↔ ¬ opP k r s t vk vn := by simp [opB]
def opV.f (k r s t vk vn : Int) : Option Bool := some (opB k r s t vk vn)
def usesL (k r s : Int) : List Int :=
  if k = 2 then [s] else if k = 3 ∨ k = 6 then [r, s] else if k = 10 ∨ k = 11 ∨ k = 12 ∨ k = 14 then [r] else []
def usesV.f (k r s t vk vn : Int) : Option (List Int) := some (if opB k r s t vk vn = true then usesL k r s else [])
def mannersL : List S66 :=
  [⟨⟨#[]⟩, ⟨#[]⟩, ⟨#[]⟩, false⟩,
   ⟨⟨#[115, 101, 116]⟩, ⟨#[82, 86]⟩, ⟨#[]⟩, true⟩,
   ⟨⟨#[109, 111, 118, 101]⟩, ⟨#[82, 83]⟩, ⟨#[83]⟩, true⟩,
   ⟨⟨#[97, 100, 100]⟩, ⟨#[82, 83]⟩, ⟨#[82, 83]⟩, false⟩,
   ⟨⟨#[115, 101, 108, 102]⟩, ⟨#[82]⟩, ⟨#[]⟩, true⟩,
   ⟨⟨#[98, 101, 103, 105, 110]⟩, ⟨#[82, 84]⟩, ⟨#[]⟩, true⟩,
   ⟨⟨#[115, 101, 110, 100]⟩, ⟨#[82, 83]⟩, ⟨#[82, 83]⟩, false⟩,
   ⟨⟨#[116, 97, 107, 101]⟩, ⟨#[82, 83]⟩, ⟨#[]⟩, true⟩,
   ⟨⟨#[97, 102, 116, 101, 114]⟩, ⟨#[82, 83, 84, 86]⟩, ⟨#[]⟩, true⟩,
   ⟨⟨#[103, 111]⟩, ⟨#[84]⟩, ⟨#[]⟩, false⟩,
   ⟨⟨#[105, 102]⟩, ⟨#[82, 84, 86]⟩, ⟨#[82]⟩, false⟩,
   ⟨⟨#[108, 105, 110, 107]⟩, ⟨#[82]⟩, ⟨#[82]⟩, false⟩,
   ⟨⟨#[119, 97, 116, 99, 104]⟩, ⟨#[82]⟩, ⟨#[82]⟩, false⟩,
   ⟨⟨#[116, 114, 97, 112]⟩, ⟨#[86]⟩, ⟨#[]⟩, false⟩,
   ⟨⟨#[101, 110, 100]⟩, ⟨#[82]⟩, ⟨#[82]⟩, false⟩]
def howR (k : Int) : S66 := if 1 ≤ k ∧ k ≤ 14 then mannersL.getD k.toNat z66 else z66
def howV.f (k _r _s _t _vk _vn : Int) : Option (ByteArray × ByteArray × ByteArray × Bool) := some ((howR k).f0, (howR k).f1, (howR k).f2, (howR k).f3)
theorem kinds {P : Int → Prop} (h : ∀ k : Int, ¬ (1 ≤ k ∧ k ≤ 14) → P k) (h1 : P 1) (h2 : P 2) (h3 : P 3) (h4 : P 4) (h5 : P 5) (h6 : P 6) (h7 : P 7) (h8 : P 8) (h9 : P 9)
    (h10 : P 10) (h11 : P 11) (h12 : P 12) (h13 : P 13) (h14 : P 14) (k : Int) : P k := by
  by_cases hk : 1 ≤ k ∧ k ≤ 14
  · have : k = 1 ∨ k = 2 ∨ k = 3 ∨ k = 4 ∨ k = 5 ∨ k = 6 ∨ k = 7 ∨ k = 8 ∨ k = 9 ∨ k = 10 ∨ k = 11 ∨ k = 12 ∨ k = 13 ∨ k = 14 := by omega
    rcases this with rfl | rfl | rfl | rfl | rfl | rfl | rfl | rfl | rfl | rfl | rfl | rfl | rfl | rfl <;> assumption
  · exact h k hk
end Go.Proofs.Ytmklpbmlgjkbiaa.PS
end
section
namespace Go.Proofs.Ytmklpbmlgjkbiaa.PS
open Go.RowKit Go.Proofs.YtmklpbmlgjkbiaaW.PrintWords Go.Proofs.YtmklpbmlgjkbiaaW.PrintLast Go.Proofs.YtmklpbmlgjkbiaaW.PrintMore
attribute [local go_sem] max2_int min2_int max_two min_two max_three min_three max_four min_four   -- for this text's walks alone
set_option linter.unusedVariables false
set_option linter.unusedSimpArgs false
def IsS84 (w0 W : World) (g : Nat) (f0 : List Int) (f1 : Int) : Prop := ∃ A0 c0, W.heap[g]? = some (.cells #[.slice A0 f0.length c0, .int .i64 f1] 84 (0, 0)) ∧ w0.heap.size ≤ g ∧ Kd.C (Kd.int .u8) w0 A0 f0.length f0
theorem IsS84.grown {w0 W : World} {g : Nat} {f0 : List Int} {f1 : Int} {W1 : World} {row : Option Nat} (h : IsS84 w0 W g f0 f1) (hw : W.grownBy W1 row) (hne : some g ≠ row) : IsS84 w0 W1 g f0 f1 := by
  obtain ⟨A0, c0, hb, hg, hr0⟩ := h
  exact ⟨A0, c0, blk_grown hb hw hne, hg, hr0⟩
theorem IsS84.kept {w0 W : World} {g : Nat} {f0 : List Int} {f1 : Int} {W1 : World} {S : Nat → Prop} (h : IsS84 w0 W g f0 f1) (hk : Kept W W1 S) (hne : ¬ S g) : IsS84 w0 W1 g f0 f1 := by
  obtain ⟨A0, c0, hb, hg, hr0⟩ := h
  exact ⟨A0, c0, blk_kept hb hk hne, hg, hr0⟩
theorem IsS84.below {w0 W : World} {g : Nat} {f0 : List Int} {f1 : Int} {W1 : World} (h : IsS84 w0 W g f0 f1) (hw : Below W.heap.size W W1) : IsS84 w0 W1 g f0 f1 := h.grown (grown_of_below hw none) (by simp)
theorem IsS84.alloc {w0 W : World} {g : Nat} {f0 : List Int} {f1 : Int} (h : IsS84 w0 W g f0 f1) (o : Obj) : IsS84 w0 (W.alloc o) g f0 f1 := h.below (below_alloc (Below.refl _ _) o)
theorem IsS84.drewN {w0 W : World} {g : Nat} {f0 : List Int} {f1 : Int} (h : IsS84 w0 W g f0 f1) (m : Nat) : IsS84 w0 (W.drewN m) g f0 f1 := h
theorem IsS84.drew {w0 W : World} {g : Nat} {f0 : List Int} {f1 : Int} (h : IsS84 w0 W g f0 f1) : IsS84 w0 W.drew g f0 f1 := h
theorem IsS84.apart {w0 W : World} {g : Nat} {f0 : List Int} {f1 : Int} {α : Type} {d : Kd α} {e : Nat} {base : Nat} {ok : Nat → Prop} {v : Value} {xs : List α} (h : IsS84 w0 W g f0 f1) (ho : d.R e W base ok v xs) (ht : ∀ q, q ∈ e :: d.E → q ≠ 84) : d.R e W base (fun k => ok k ∧ k ≠ g) v xs := by
  obtain ⟨A0, c0, hb, hg, hr0⟩ := h
  exact Kd.R_types ho hb ht
theorem IsS84.lt {w0 W : World} {g : Nat} {f0 : List Int} {f1 : Int} (h : IsS84 w0 W g f0 f1) : g < W.heap.size := by
  obtain ⟨A0, c0, hb, hg, hr0⟩ := h
  exact blk_lt hb
theorem IsS84.ge {w0 W : World} {g : Nat} {f0 : List Int} {f1 : Int} (h : IsS84 w0 W g f0 f1) : w0.heap.size ≤ g := by
  obtain ⟨A0, c0, hb, hg, hr0⟩ := h
  exact hg
theorem IsS84.ne_blk {w0 W : World} {g : Nat} {f0 : List Int} {f1 : Int} {a : Nat} {cs : Array Value} {t : TypeId} {fr : Nat × Nat} (h : IsS84 w0 W g f0 f1) (hb2 : W.heap[a]? = some (.cells cs t fr)) (ht : t ≠ 84) : g ≠ a := by
  obtain ⟨A0, c0, hb, hg, hr0⟩ := h
  rintro rfl
  rw [hb] at hb2
  injection hb2 with hb2
  injection hb2 with _ ht2
  exact ht ht2.symm
theorem IsS84.far {w0 W : World} {g : Nat} {f0 : List Int} {f1 : Int} {p : Addr} (h : IsS84 w0 W g f0 f1) (hne : g ≠ p.block) (u : Value) : IsS84 w0 (W.setCell p u) g f0 f1 := by
  obtain ⟨A0, c0, hb, hg, hr0⟩ := h
  exact ⟨A0, c0, blk_far hb hne u, hg, hr0⟩
theorem cellS84_0 {W : World} {g : Nat} {A0 : Option Addr} {c0 : Nat} {f0 : List Int} {f1 : Int} (h : W.heap[g]? = some (.cells #[.slice A0 f0.length c0, .int .i64 f1] 84 (0, 0))) : W.cell? ⟨g, 0, none⟩ = some (.slice A0 f0.length c0) := (blk_cell h 0).trans rfl
theorem cellS84_1 {W : World} {g : Nat} {A0 : Option Addr} {c0 : Nat} {f0 : List Int} {f1 : Int} (h : W.heap[g]? = some (.cells #[.slice A0 f0.length c0, .int .i64 f1] 84 (0, 0))) : W.cell? ⟨g, 1, none⟩ = some (.int .i64 f1) := (blk_cell h 1).trans rfl
theorem IsS84.set_1 {w0 W : World} {g : Nat} {f0 : List Int} {f1 : Int} (h : IsS84 w0 W g f0 f1) (x : Int) : IsS84 w0 (W.setCell ⟨g, 1, none⟩ (.int .i64 x)) g f0 x := by
  obtain ⟨A0, c0, hb, hg, hr0⟩ := h
  exact ⟨A0, c0, by simpa using blk_set hb 1 (.int .i64 x), hg, hr0⟩
def spec_l6Open.f (l0 : List Int) : Option (List Int × Int) := if (l0.length : Int) > 2000 then (if 2000 ≤ (l0.length : Int) then (some (l0.take 2000, 0)) else (none)) else (some (l0, 0))
set_option maxHeartbeats 8000000 in
set_option maxRecDepth 100000 in
theorem spec_l6Open.calls (A0 : Option Addr) (c0 : Nat) (l0 : List Int) (r1 : List Int) (r2 : Int) (w0 w : World) (hB : Below w0.heap.size w0 w) (hr0 : Kd.C (Kd.int .u8) w0 A0 l0.length l0) (hc0 : l0.length ≤ c0) (h : spec_l6Open.f l0 = some (r1, r2)) :
    Calls Try.prog 69 #[.slice A0 l0.length c0] w fun e w' => ∃ g_ : Nat, e = .returned (.pointer (some ⟨g_, 0, none⟩)) ∧ IsS84 w0 w' g_ r1 r2 ∧ Below w0.heap.size w0 w' ∧ Below w.heap.size w w' := by
  have hu84 := Try.underlying84
  have HR0 := Aside0.mk hr0
  have HC0 := Aside0.mk hc0
  clear hr0 hc0
  have HBW := Aside0.mk (Below.refl w.heap.size w)
  have HW0 := Aside0.mk hB.size
  have HB := Aside0.mk hB
  clear hB
  have H : (if (l0.length : Int) > 2000 then (if 2000 ≤ (l0.length : Int) then (some (l0.take 2000, 0)) else (none)) else (some (l0, 0))) = some (r1, r2) := h
  clear h
  by_cases c2 : (l0.length : Int) > 2000
  · rw [if_pos c2] at H
    have c2b0 : decide (2000 < (l0.length : Int)) = true := decide_eq_true c2
    have c2b1 : decide (2000 < l0.length) = true := decide_eq_true (by omega)
    clear c2
    by_cases c3 : 2000 ≤ (l0.length : Int)
    · rw [if_pos c3] at H
      have c3b0 := eq_true c3
      have c3b1 : decide (2000 ≤ (l0.length : Int)) = true := decide_eq_true c3
      clear c3
      simp only [Option.some.injEq, Prod.mk.injEq] at H
      obtain ⟨rfl, rfl⟩ := H
      obtain ⟨i04, hi04, _, hsz4, _⟩ := info_parts info5
      obtain ⟨hcut4, hA4, hC4⟩ := print_take_of (P := Try.prog) (Value.int .u8) 0 36 5 .i64 Try.underlying36 hi04 hsz4 A0 c0 l0 2000 (by omega) (of_decide_eq_true (by first | (with_reducible assumption) | assumption)) HC0.out
      have HR134 := Aside0.mk (Kd.C_of_reads (h1 := fun _ => rfl) (hA4 _ (Kd.reads_of_C HR0.out)))
      have HC134 := Aside0.mk hC4
      clear hA4 hC4 hi04 hsz4
      go_enter Try.func69, Try.ntmps69
      go_wp2_with (first | ((with_reducible refine gate_dst (N := 10) rfl ?_); refine box_event ?hg (N := 10) ?hd (cs := #[.slice A0 (l0.take 2000).length c0, .int .i64 0]) (t := 84) ?hr ?_; (case hd => rfl); (case hg => rfl); (case hr => first | (go_simp; done) | (go_simp; rfl)); intro gb135 hg w5 hbox hb; have n0_ := Aside0.mk (below_step HBW.out hb); have n1_ := Aside0.mk (below_step (by repeat (first | (with_reducible first | exact HB.out | apply below_alloc | apply pw_below_drewN | apply below_drew1) | exact HB.out)) hb); have n2_ := Aside0.mk (hbox); have n3_ := Aside0.mk ((by rw [hg]; exact (below_size (by repeat (first | (with_reducible first | exact HBW.out | apply below_alloc | apply pw_below_drewN | apply below_drew1) | exact HBW.out))) : w.heap.size ≤ gb135)); have n4_ := Aside0.mk ((Nat.le_trans HW0.out (by rw [hg]; exact (below_size (by repeat (first | (with_reducible first | exact HBW.out | apply below_alloc | apply pw_below_drewN | apply below_drew1) | exact HBW.out))) : w.heap.size ≤ gb135) : w0.heap.size ≤ gb135)); clear HBW; clear HB; have HBW := n0_; have HB := n1_; have BK135 := n2_; have GW135 := n3_; have GE135 := n4_; clear n0_ n1_ n2_ n3_ n4_; clear hb hbox hg))
      go_ret
      exact ⟨_, rfl, (show IsS84 w0 _ gb135 (l0.take 2000) 0 from ⟨_, _, by (with_reducible repeat (first | refine blk_drewN ?_ _ | refine blk_drew ?_ | refine blk_alloc ?_ _)); exact BK135.out, GE135.out, HR134.out⟩), by repeat (first | (with_reducible first | exact HB.out | apply below_alloc | apply pw_below_drewN | apply below_drew1 | refine below_set ?_ GE135.out) | exact HB.out), by repeat (first | (with_reducible first | exact HBW.out | apply below_alloc | apply pw_below_drewN | apply below_drew1 | refine below_set ?_ GW135.out) | exact HBW.out)⟩
    · rw [if_neg c3] at H
      exact absurd H (by simp)
  · rw [if_neg c2] at H
    have c2b0 : decide (2000 < (l0.length : Int)) = false := decide_eq_false c2
    have c2b1 : decide (2000 < l0.length) = false := decide_eq_false (by omega)
    clear c2
    simp only [Option.some.injEq, Prod.mk.injEq] at H
    obtain ⟨rfl, rfl⟩ := H
    go_enter Try.func69, Try.ntmps69
    go_wp2_with (first | ((with_reducible refine gate_dst (N := 10) rfl ?_); refine box_event ?hg (N := 10) ?hd (cs := #[.slice A0 l0.length c0, .int .i64 0]) (t := 84) ?hr ?_; (case hd => rfl); (case hg => rfl); (case hr => first | (go_simp; done) | (go_simp; rfl)); intro gb136 hg w6 hbox hb; have n0_ := Aside0.mk (below_step HBW.out hb); have n1_ := Aside0.mk (below_step (by repeat (first | (with_reducible first | exact HB.out | apply below_alloc | apply pw_below_drewN | apply below_drew1) | exact HB.out)) hb); have n2_ := Aside0.mk (hbox); have n3_ := Aside0.mk ((by rw [hg]; exact (below_size (by repeat (first | (with_reducible first | exact HBW.out | apply below_alloc | apply pw_below_drewN | apply below_drew1) | exact HBW.out))) : w.heap.size ≤ gb136)); have n4_ := Aside0.mk ((Nat.le_trans HW0.out (by rw [hg]; exact (below_size (by repeat (first | (with_reducible first | exact HBW.out | apply below_alloc | apply pw_below_drewN | apply below_drew1) | exact HBW.out))) : w.heap.size ≤ gb136) : w0.heap.size ≤ gb136)); clear HBW; clear HB; have HBW := n0_; have HB := n1_; have BK136 := n2_; have GW136 := n3_; have GE136 := n4_; clear n0_ n1_ n2_ n3_ n4_; clear hb hbox hg))
    go_ret
    exact ⟨_, rfl, (show IsS84 w0 _ gb136 l0 0 from ⟨_, _, by (with_reducible repeat (first | refine blk_drewN ?_ _ | refine blk_drew ?_ | refine blk_alloc ?_ _)); exact BK136.out, GE136.out, HR0.out⟩), by repeat (first | (with_reducible first | exact HB.out | apply below_alloc | apply pw_below_drewN | apply below_drew1 | refine below_set ?_ GE136.out) | exact HB.out), by repeat (first | (with_reducible first | exact HBW.out | apply below_alloc | apply pw_below_drewN | apply below_drew1 | refine below_set ?_ GW136.out) | exact HBW.out)⟩
def spec_l6Rd_pick.j0 : Nat → Int → Bool → List Int → Int → Option (Int × Int)
  | 0, _, _, _, _ => none
  | k + 1, x1, x24, x1000, x1001 => if x24 = true then (some (0, x1001)) else (if (wrap64 (x1001 - 1)) < (x1000.length : Int) then (if 0 ≤ (wrap64 (x1001 - 1)) then (if x1 = 0 then (none) else (some (Int.tmod (wrap64 (rd x1000 (wrap64 (x1001 - 1)))) x1, x1001))) else (none)) else (if (x1000.length : Int) = 0 then (none) else (if 0 ≤ (Int.tmod (wrap64 (x1001 - 1)) (x1000.length : Int)) then (if (Int.tmod (wrap64 (x1001 - 1)) (x1000.length : Int)) < (x1000.length : Int) then (if 0 ≤ (Int.tmod (wrap64 ((wrap64 ((wrap64 (x1001 - 1)) * 7)) + 3)) (x1000.length : Int)) then (if (Int.tmod (wrap64 ((wrap64 ((wrap64 (x1001 - 1)) * 7)) + 3)) (x1000.length : Int)) < (x1000.length : Int) then (if x1 = 0 then (none) else (some (Int.tmod (Go.bits .xor .i64 (wrap64 ((wrap64 ((wrap64 ((wrap64 ((wrap64 (rd x1000 (Int.tmod (wrap64 (x1001 - 1)) (x1000.length : Int)))) * 131)) + (wrap64 ((wrap64 (rd x1000 (Int.tmod (wrap64 ((wrap64 ((wrap64 (x1001 - 1)) * 7)) + 3)) (x1000.length : Int)))) * 1117)))) + (wrap64 ((wrap64 (x1001 - 1)) * 29)))) + (wrap64 ((wrap64 (Int.tdiv (wrap64 (x1001 - 1)) (x1000.length : Int))) * 53)))) (wrap64 (Int.tdiv (wrap64 ((wrap64 ((wrap64 ((wrap64 ((wrap64 (rd x1000 (Int.tmod (wrap64 (x1001 - 1)) (x1000.length : Int)))) * 131)) + (wrap64 ((wrap64 (rd x1000 (Int.tmod (wrap64 ((wrap64 ((wrap64 (x1001 - 1)) * 7)) + 3)) (x1000.length : Int)))) * 1117)))) + (wrap64 ((wrap64 (x1001 - 1)) * 29)))) + (wrap64 ((wrap64 (Int.tdiv (wrap64 (x1001 - 1)) (x1000.length : Int))) * 53)))) 64))) x1, x1001))) else (none)) else (none)) else (none)) else (none))))
def spec_l6Rd_pick.f (k : Nat) (s0_0 : List Int) (s0_1 : Int) (a1 : Int) : Option (Int × Int) := if a1 < 1 then (spec_l6Rd_pick.j0 k a1 true s0_0 (wrap64 (s0_1 + 1))) else (spec_l6Rd_pick.j0 k a1 ((s0_0.length : Int) == 0) s0_0 (wrap64 (s0_1 + 1)))
set_option maxHeartbeats 8000000 in
set_option maxRecDepth 100000 in
theorem spec_l6Rd_pick.calls (k : Nat) (g : Nat) (s0_0 : List Int) (s0_1 : Int) (a1 : Int) (r1 : Int) (r2 : Int) (w0 w : World) (hI : IsS84 w0 w g s0_0 s0_1) (hB : Below w0.heap.size w0 w) (h : spec_l6Rd_pick.f k s0_0 s0_1 a1 = some (r1, r2)) :
    Calls Try.prog 71 #[.pointer (some ⟨g, 0, none⟩), .int .i64 a1] w fun e w' => e = .returned (.int .i64 r1) ∧ IsS84 w0 w' g s0_0 r2 ∧ Below w0.heap.size w0 w' ∧ KeepBut w w' g none := by
  have HI0 := Aside0.mk hI
  have HK := Aside0.mk (KeepBut.refl w g none)
  have HL := Aside0.mk hB.size
  clear hI
  have HW0 := Aside0.mk hB.size
  have HB := Aside0.mk hB
  clear hB
  have H : (if a1 < 1 then (spec_l6Rd_pick.j0 k a1 true s0_0 (wrap64 (s0_1 + 1))) else (spec_l6Rd_pick.j0 k a1 ((s0_0.length : Int) == 0) s0_0 (wrap64 (s0_1 + 1)))) = some (r1, r2) := h
  clear h
  have HC3 := Aside0.mk H
  clear H
  obtain ⟨ASz4_0, cSz4_0, HGz4, hgz4, HSz4_0⟩ := HI0.out
  have hcz4_0 := cellS84_0 HGz4
  have hcz4_1 := cellS84_1 HGz4
  have hfz4_1 := blk_frozen HGz4 1
  clear HGz4 hgz4
  go_enter Try.func71, Try.ntmps71
  go_upto_region 2 with (fail)
  repeat (go_quiet (fail); go_upto_region 2 with (fail))
  go_cut [24] (fun v24 wc => ∃ (kq : Nat) (x24_2 : Bool), v24 = .bool x24_2 ∧ Aside0 (spec_l6Rd_pick.j0 kq a1 x24_2 s0_0 (wrap64 (s0_1 + 1)) = some (r1, r2)) ∧ Aside0 (kq ≤ k) ∧ Aside0 (IsS84 w0 wc g s0_0 (wrap64 (s0_1 + 1))) ∧ Aside0 (KeepBut w wc g none) ∧ Aside0 (Below w0.heap.size w0 wc))
  case first =>
    have H := HC3.out
    clear HC3
    by_cases c5 : a1 < 1
    · rw [if_pos c5] at H
      have c5b0 : decide (a1 < 1) = true := decide_eq_true c5
      clear c5
      (first | rw [c5b0] | (simp only [i64_w, i32_w]; rw [c5b0]) | skip)
      have H' := Aside0.mk H
      clear H
      go_wp2
      repeat (go_quiet (fail); try go_wp2)
      go_meet
      case rel => exact ⟨_, (true), (by first | rfl | (simp; done) | (simp [*]; done)), H', ⟨by first | omega | exact Nat.le_refl _⟩, ⟨by repeat (first | (with_reducible first | exact HI0.out | apply IsS84.alloc | apply IsS84.drewN | apply IsS84.drew | apply IsS84.set_1) | exact HI0.out)⟩, ⟨by repeat (first | (with_reducible first | exact HK.out | apply KeepBut.set_ | apply keep_drewN | apply keep_drew | apply keep_alloc) | exact HK.out)⟩, ⟨by repeat (first | (with_reducible first | exact HB.out | apply below_alloc | apply pw_below_drewN | apply below_drew1 | refine below_set ?_ (IsS84.ge HI0.out)) | exact HB.out)⟩⟩
    · rw [if_neg c5] at H
      have c5b0 : decide (a1 < 1) = false := decide_eq_false c5
      clear c5
      (first | rw [c5b0] | (simp only [i64_w, i32_w]; rw [c5b0]) | skip)
      have H' := Aside0.mk H
      clear H
      obtain ⟨ASz6_0, cSz6_0, HGz6, hgz6, HSz6_0⟩ := HI0.out
      have hcz6_0 := cellS84_0 HGz6
      have hcz6_1 := cellS84_1 HGz6
      have hfz6_1 := blk_frozen HGz6 1
      clear HGz6 hgz6
      go_wp2
      repeat (go_quiet (fail); try go_wp2)
      go_meet
      case rel => exact ⟨_, (((s0_0.length : Int) == 0)), (by first | rfl | (simp; done) | (simp [*]; done)), H', ⟨by first | omega | exact Nat.le_refl _⟩, ⟨by repeat (first | (with_reducible first | exact HI0.out | apply IsS84.alloc | apply IsS84.drewN | apply IsS84.drew | apply IsS84.set_1) | exact HI0.out)⟩, ⟨by repeat (first | (with_reducible first | exact HK.out | apply KeepBut.set_ | apply keep_drewN | apply keep_drew | apply keep_alloc) | exact HK.out)⟩, ⟨by repeat (first | (with_reducible first | exact HB.out | apply below_alloc | apply pw_below_drewN | apply below_drew1 | refine below_set ?_ (IsS84.ge HI0.out)) | exact HB.out)⟩⟩
  case rest =>
    clear HC3
    try clear p2
    try clear c5
    try clear c5b0
    try clear p6
    try clear hcz4_0
    try clear hcz4_1
    try clear hcz6_0
    try clear hcz6_1
    try clear hfz4_1
    try clear hfz6_1
    obtain ⟨kq, x24_2, rfl, HA, HJ2, HI0, HK, HB⟩ := hcut
    cases kq with
    | zero => exact absurd HA.out (by simp [spec_l6Rd_pick.j0])
    | succ kj2 =>
      have H := HA.out
      clear HA
      simp only [spec_l6Rd_pick.j0] at H
      by_cases c7 : x24_2 = true
      · subst c7
        have H1 : (some (0, (wrap64 (s0_1 + 1)))) = some (r1, r2) := by rw [if_pos rfl] at H; exact H
        clear H
        have H := H1
        clear H1
        simp only [Option.some.injEq, Prod.mk.injEq] at H
        obtain ⟨rfl, rfl⟩ := H
        go_wp2
        repeat (go_quiet (fail); try go_wp2)
        go_ret
        exact ⟨by first | rfl | (simp [errW_none, errW_some] <;> rfl) | (simp [*, errW_none, errW_some] <;> rfl), by repeat (first | (with_reducible first | exact HI0.out | apply IsS84.alloc | apply IsS84.drewN | apply IsS84.drew | apply IsS84.set_1) | exact HI0.out), by repeat (first | (with_reducible first | exact HB.out | apply below_alloc | apply pw_below_drewN | apply below_drew1 | refine below_set ?_ (IsS84.ge HI0.out)) | exact HB.out), by repeat (first | (with_reducible first | exact HK.out | apply KeepBut.set_ | apply keep_drewN | apply keep_drew | apply keep_alloc) | exact HK.out)⟩
      · replace c7 := Bool.eq_false_iff.mpr c7
        subst c7
        have H1 : (if (wrap64 ((wrap64 (s0_1 + 1)) - 1)) < (s0_0.length : Int) then (if 0 ≤ (wrap64 ((wrap64 (s0_1 + 1)) - 1)) then (if a1 = 0 then (none) else (some (Int.tmod (wrap64 (rd s0_0 (wrap64 ((wrap64 (s0_1 + 1)) - 1)))) a1, (wrap64 (s0_1 + 1))))) else (none)) else (if (s0_0.length : Int) = 0 then (none) else (if 0 ≤ (Int.tmod (wrap64 ((wrap64 (s0_1 + 1)) - 1)) (s0_0.length : Int)) then (if (Int.tmod (wrap64 ((wrap64 (s0_1 + 1)) - 1)) (s0_0.length : Int)) < (s0_0.length : Int) then (if 0 ≤ (Int.tmod (wrap64 ((wrap64 ((wrap64 ((wrap64 (s0_1 + 1)) - 1)) * 7)) + 3)) (s0_0.length : Int)) then (if (Int.tmod (wrap64 ((wrap64 ((wrap64 ((wrap64 (s0_1 + 1)) - 1)) * 7)) + 3)) (s0_0.length : Int)) < (s0_0.length : Int) then (if a1 = 0 then (none) else (some (Int.tmod (Go.bits .xor .i64 (wrap64 ((wrap64 ((wrap64 ((wrap64 ((wrap64 (rd s0_0 (Int.tmod (wrap64 ((wrap64 (s0_1 + 1)) - 1)) (s0_0.length : Int)))) * 131)) + (wrap64 ((wrap64 (rd s0_0 (Int.tmod (wrap64 ((wrap64 ((wrap64 ((wrap64 (s0_1 + 1)) - 1)) * 7)) + 3)) (s0_0.length : Int)))) * 1117)))) + (wrap64 ((wrap64 ((wrap64 (s0_1 + 1)) - 1)) * 29)))) + (wrap64 ((wrap64 (Int.tdiv (wrap64 ((wrap64 (s0_1 + 1)) - 1)) (s0_0.length : Int))) * 53)))) (wrap64 (Int.tdiv (wrap64 ((wrap64 ((wrap64 ((wrap64 ((wrap64 (rd s0_0 (Int.tmod (wrap64 ((wrap64 (s0_1 + 1)) - 1)) (s0_0.length : Int)))) * 131)) + (wrap64 ((wrap64 (rd s0_0 (Int.tmod (wrap64 ((wrap64 ((wrap64 ((wrap64 (s0_1 + 1)) - 1)) * 7)) + 3)) (s0_0.length : Int)))) * 1117)))) + (wrap64 ((wrap64 ((wrap64 (s0_1 + 1)) - 1)) * 29)))) + (wrap64 ((wrap64 (Int.tdiv (wrap64 ((wrap64 (s0_1 + 1)) - 1)) (s0_0.length : Int))) * 53)))) 64))) a1, (wrap64 (s0_1 + 1))))) else (none)) else (none)) else (none)) else (none)))) = some (r1, r2) := by rw [if_neg (show ¬ (false = true) by decide)] at H; exact H
        clear H
        have H := H1
        clear H1
        by_cases c8 : (wrap64 ((wrap64 (s0_1 + 1)) - 1)) < (s0_0.length : Int)
        · rw [if_pos c8] at H
          have c8b0 : decide ((wrap64 ((wrap64 (s0_1 + 1)) - 1)) < (s0_0.length : Int)) = true := decide_eq_true c8
          clear c8
          obtain ⟨ji9, hji9⟩ : ∃ j_ : Int, (wrap64 ((wrap64 (s0_1 + 1)) - 1)) = j_ := ⟨_, rfl⟩
          replace H : (if 0 ≤ (ji9) then (if a1 = 0 then (none) else (some (Int.tmod (wrap64 (rd s0_0 (ji9))) a1, (wrap64 (s0_1 + 1))))) else (none)) = some (r1, r2) := by first | (rw [hji9] at H; exact H) | (simp only [hji9] at H ⊢; exact H)
          (try rw [hji9] at c8b0)
          have hji9w : (IntKind.i64.wrap ((wrap64 (s0_1 + 1)) - 1)) = ji9 := (i64_w _).trans hji9
          by_cases c10 : 0 ≤ (ji9)
          · rw [if_pos c10] at H
            have c10b0 : decide (0 ≤ (ji9)) = true := decide_eq_true c10
            clear c10
            by_cases c11 : a1 = 0
            · rw [if_pos c11] at H
              exact absurd H (by simp)
            · rw [if_neg c11] at H
              have c11b0 : (a1 == 0) = false := beq_eq_false_iff_ne.mpr c11
              have c11b1 : (a1 != 0) = true := bne_iff_ne.mpr c11
              simp only [Option.some.injEq, Prod.mk.injEq] at H
              obtain ⟨rfl, rfl⟩ := H
              obtain ⟨ASz12_0, cSz12_0, HGz12, hgz12, HSz12_0⟩ := HI0.out
              have hcz12_0 := cellS84_0 HGz12
              have hcz12_1 := cellS84_1 HGz12
              have hfz12_1 := blk_frozen HGz12 1
              clear HGz12 hgz12
              have p137 : 0 ≤ ((ji9) : Int) := of_decide_eq_true (by first | (with_reducible assumption) | assumption)
              have q137 : (ji9) < (s0_0.length : Int) := of_decide_eq_true (by first | (with_reducible assumption) | assumption)
              obtain ⟨ad137, e137, hx137_0⟩ := Kd.at_int HSz12_0 (ji9) p137 q137
              cases e137
              replace hx137_0 := pw_cell_below HB.out hx137_0
              replace p137 := eq_true p137
              replace q137 := eq_true q137
              go_wp2
              repeat (go_quiet (fail); try go_wp2)
              go_ret
              exact ⟨by first | rfl | (simp [errW_none, errW_some] <;> rfl) | (simp only [← hji9]; first | rfl | (simp [errW_none, errW_some] <;> rfl)) | (simp [*, errW_none, errW_some] <;> rfl), by repeat (first | (with_reducible first | exact HI0.out | apply IsS84.alloc | apply IsS84.drewN | apply IsS84.drew | apply IsS84.set_1) | exact HI0.out), by repeat (first | (with_reducible first | exact HB.out | apply below_alloc | apply pw_below_drewN | apply below_drew1 | refine below_set ?_ (IsS84.ge HI0.out)) | exact HB.out), by repeat (first | (with_reducible first | exact HK.out | apply KeepBut.set_ | apply keep_drewN | apply keep_drew | apply keep_alloc) | exact HK.out)⟩
          · rw [if_neg c10] at H
            exact absurd H (by simp)
        · rw [if_neg c8] at H
          have c8b0 : decide ((wrap64 ((wrap64 (s0_1 + 1)) - 1)) < (s0_0.length : Int)) = false := decide_eq_false c8
          clear c8
          by_cases c13 : (s0_0.length : Int) = 0
          · rw [if_pos c13] at H
            exact absurd H (by simp)
          · rw [if_neg c13] at H
            have c13b0 : ((s0_0.length : Int) == 0) = false := beq_eq_false_iff_ne.mpr c13
            have c13b1 : ((s0_0.length : Int) != 0) = true := bne_iff_ne.mpr c13
            have c13b2 : ¬ (s0_0 = []) := fun h_ => c13 (by rw [h_]; rfl)
            obtain ⟨ji14, hji14⟩ : ∃ j_ : Int, (Int.tmod (wrap64 ((wrap64 (s0_1 + 1)) - 1)) (s0_0.length : Int)) = j_ := ⟨_, rfl⟩
            replace H : (if 0 ≤ (ji14) then (if (ji14) < (s0_0.length : Int) then (if 0 ≤ (Int.tmod (wrap64 ((wrap64 ((wrap64 ((wrap64 (s0_1 + 1)) - 1)) * 7)) + 3)) (s0_0.length : Int)) then (if (Int.tmod (wrap64 ((wrap64 ((wrap64 ((wrap64 (s0_1 + 1)) - 1)) * 7)) + 3)) (s0_0.length : Int)) < (s0_0.length : Int) then (if a1 = 0 then (none) else (some (Int.tmod (Go.bits .xor .i64 (wrap64 ((wrap64 ((wrap64 ((wrap64 ((wrap64 (rd s0_0 (ji14))) * 131)) + (wrap64 ((wrap64 (rd s0_0 (Int.tmod (wrap64 ((wrap64 ((wrap64 ((wrap64 (s0_1 + 1)) - 1)) * 7)) + 3)) (s0_0.length : Int)))) * 1117)))) + (wrap64 ((wrap64 ((wrap64 (s0_1 + 1)) - 1)) * 29)))) + (wrap64 ((wrap64 (Int.tdiv (wrap64 ((wrap64 (s0_1 + 1)) - 1)) (s0_0.length : Int))) * 53)))) (wrap64 (Int.tdiv (wrap64 ((wrap64 ((wrap64 ((wrap64 ((wrap64 (rd s0_0 (ji14))) * 131)) + (wrap64 ((wrap64 (rd s0_0 (Int.tmod (wrap64 ((wrap64 ((wrap64 ((wrap64 (s0_1 + 1)) - 1)) * 7)) + 3)) (s0_0.length : Int)))) * 1117)))) + (wrap64 ((wrap64 ((wrap64 (s0_1 + 1)) - 1)) * 29)))) + (wrap64 ((wrap64 (Int.tdiv (wrap64 ((wrap64 (s0_1 + 1)) - 1)) (s0_0.length : Int))) * 53)))) 64))) a1, (wrap64 (s0_1 + 1))))) else (none)) else (none)) else (none)) else (none)) = some (r1, r2) := by first | (rw [hji14] at H; exact H) | (simp only [hji14] at H ⊢; exact H)
            by_cases c15 : 0 ≤ (ji14)
            · rw [if_pos c15] at H
              have c15b0 : decide (0 ≤ (ji14)) = true := decide_eq_true c15
              clear c15
              by_cases c16 : (ji14) < (s0_0.length : Int)
              · rw [if_pos c16] at H
                have c16b0 : decide ((ji14) < (s0_0.length : Int)) = true := decide_eq_true c16
                clear c16
                obtain ⟨ji17, hji17⟩ : ∃ j_ : Int, (Int.tmod (wrap64 ((wrap64 ((wrap64 ((wrap64 (s0_1 + 1)) - 1)) * 7)) + 3)) (s0_0.length : Int)) = j_ := ⟨_, rfl⟩
                replace H : (if 0 ≤ (ji17) then (if (ji17) < (s0_0.length : Int) then (if a1 = 0 then (none) else (some (Int.tmod (Go.bits .xor .i64 (wrap64 ((wrap64 ((wrap64 ((wrap64 ((wrap64 (rd s0_0 (ji14))) * 131)) + (wrap64 ((wrap64 (rd s0_0 (ji17))) * 1117)))) + (wrap64 ((wrap64 ((wrap64 (s0_1 + 1)) - 1)) * 29)))) + (wrap64 ((wrap64 (Int.tdiv (wrap64 ((wrap64 (s0_1 + 1)) - 1)) (s0_0.length : Int))) * 53)))) (wrap64 (Int.tdiv (wrap64 ((wrap64 ((wrap64 ((wrap64 ((wrap64 (rd s0_0 (ji14))) * 131)) + (wrap64 ((wrap64 (rd s0_0 (ji17))) * 1117)))) + (wrap64 ((wrap64 ((wrap64 (s0_1 + 1)) - 1)) * 29)))) + (wrap64 ((wrap64 (Int.tdiv (wrap64 ((wrap64 (s0_1 + 1)) - 1)) (s0_0.length : Int))) * 53)))) 64))) a1, (wrap64 (s0_1 + 1))))) else (none)) else (none)) = some (r1, r2) := by first | (rw [hji17] at H; exact H) | (simp only [hji17] at H ⊢; exact H)
                by_cases c18 : 0 ≤ (ji17)
                · rw [if_pos c18] at H
                  have c18b0 : decide (0 ≤ (ji17)) = true := decide_eq_true c18
                  clear c18
                  by_cases c19 : (ji17) < (s0_0.length : Int)
                  · rw [if_pos c19] at H
                    have c19b0 : decide ((ji17) < (s0_0.length : Int)) = true := decide_eq_true c19
                    clear c19
                    by_cases c20 : a1 = 0
                    · rw [if_pos c20] at H
                      exact absurd H (by simp)
                    · rw [if_neg c20] at H
                      have c20b0 : (a1 == 0) = false := beq_eq_false_iff_ne.mpr c20
                      have c20b1 : (a1 != 0) = true := bne_iff_ne.mpr c20
                      simp only [Option.some.injEq, Prod.mk.injEq] at H
                      obtain ⟨rfl, rfl⟩ := H
                      obtain ⟨ASz21_0, cSz21_0, HGz21, hgz21, HSz21_0⟩ := HI0.out
                      have hcz21_0 := cellS84_0 HGz21
                      have hcz21_1 := cellS84_1 HGz21
                      have hfz21_1 := blk_frozen HGz21 1
                      clear HGz21 hgz21
                      have p138 : 0 ≤ ((ji14) : Int) := of_decide_eq_true (by first | (with_reducible assumption) | assumption)
                      have q138 : (ji14) < (s0_0.length : Int) := of_decide_eq_true (by first | (with_reducible assumption) | assumption)
                      obtain ⟨ad138, e138, hx138_0⟩ := Kd.at_int HSz21_0 (ji14) p138 q138
                      cases e138
                      replace hx138_0 := pw_cell_below HB.out hx138_0
                      replace p138 := eq_true p138
                      replace q138 := eq_true q138
                      have p139 : 0 ≤ ((ji17) : Int) := of_decide_eq_true (by first | (with_reducible assumption) | assumption)
                      have q139 : (ji17) < (s0_0.length : Int) := of_decide_eq_true (by first | (with_reducible assumption) | assumption)
                      obtain ⟨ad139, e139, hx139_0⟩ := Kd.at_int HSz21_0 (ji17) p139 q139
                      obtain rfl : ad138 = ad139 := (by injection e139)
                      replace hx139_0 := pw_cell_below HB.out hx139_0
                      replace p139 := eq_true p139
                      replace q139 := eq_true q139
                      go_wp2
                      repeat (go_quiet (fail); try go_wp2)
                      go_ret
                      exact ⟨by first | rfl | (simp [errW_none, errW_some] <;> rfl) | (simp only [← hji14, ← hji17]; first | rfl | (simp [errW_none, errW_some] <;> rfl)) | (simp [*, errW_none, errW_some] <;> rfl), by repeat (first | (with_reducible first | exact HI0.out | apply IsS84.alloc | apply IsS84.drewN | apply IsS84.drew | apply IsS84.set_1) | exact HI0.out), by repeat (first | (with_reducible first | exact HB.out | apply below_alloc | apply pw_below_drewN | apply below_drew1 | refine below_set ?_ (IsS84.ge HI0.out)) | exact HB.out), by repeat (first | (with_reducible first | exact HK.out | apply KeepBut.set_ | apply keep_drewN | apply keep_drew | apply keep_alloc) | exact HK.out)⟩
                  · rw [if_neg c19] at H
                    exact absurd H (by simp)
                · rw [if_neg c18] at H
                  exact absurd H (by simp)
              · rw [if_neg c16] at H
                exact absurd H (by simp)
            · rw [if_neg c15] at H
              exact absurd H (by simp)
mutual
def spec_l2Form.j0 : Nat → Int → Bool → Option (List Bool)
  | 0, _, _ => none
  | k + 1, x3, x7 => if x7 = true then (some (([true, true, false, false] : List Bool))) else (if x3 = 4 then (spec_l2Form.j1 k x3 (x3 == 4)) else (if x3 = 11 then (spec_l2Form.j1 k x3 (x3 == 11)) else (if x3 = 12 then (spec_l2Form.j1 k x3 (x3 == 12)) else (spec_l2Form.j1 k x3 (x3 == 14)))))
def spec_l2Form.j1 : Nat → Int → Bool → Option (List Bool)
  | 0, _, _ => none
  | k + 1, x3, x13 => if x13 = true then (some (([true, false, false, false] : List Bool))) else (if x3 = 5 then (some (([true, false, true, false] : List Bool))) else (if x3 = 8 then (some (([true, true, true, true] : List Bool))) else (if x3 = 9 then (some (([false, false, true, false] : List Bool))) else (if x3 = 10 then (some (([true, false, true, true] : List Bool))) else (if x3 = 13 then (some (([false, false, false, true] : List Bool))) else (some (([] : List Bool))))))))
end
def spec_l2Form.f (k : Nat) (a0 : Int) : Option (List Bool) := if a0 = 1 then (some (([true, false, false, true] : List Bool))) else (if a0 = 2 then (spec_l2Form.j0 k a0 (a0 == 2)) else (if a0 = 3 then (spec_l2Form.j0 k a0 (a0 == 3)) else (if a0 = 6 then (spec_l2Form.j0 k a0 (a0 == 6)) else (spec_l2Form.j0 k a0 (a0 == 7)))))
theorem spec_l2Form.mono_l : ∀ k, (∀ y0 y1, LeO (spec_l2Form.j0 k y0 y1) (spec_l2Form.j0 (k + 1) y0 y1)) ∧ (∀ y0 y1, LeO (spec_l2Form.j1 k y0 y1) (spec_l2Form.j1 (k + 1) y0 y1))
  | 0 => ⟨fun _ _ r h => by simp [spec_l2Form.j0] at h, fun _ _ r h => by simp [spec_l2Form.j1] at h⟩
  | k + 1 => by
    obtain ⟨ih0, ih1⟩ := spec_l2Form.mono_l k
    refine ⟨?_, ?_⟩
    · intro y0 y1
      unfold spec_l2Form.j0
      repeat' first
      | (with_reducible exact ih0 _ _)
      | (with_reducible exact ih1 _ _)
      | (with_reducible exact LeO.refl _)
      | (with_reducible exact LeO.none _)
      | (with_reducible refine LeO.ite ?_ ?_)
      | (with_reducible refine LeO.bind ?_ (fun _ => ?_))
      | exact ih0 _ _
      | exact ih1 _ _
      | exact LeO.none _
      | refine LeO.ite ?_ ?_
      | refine LeO.bind ?_ (fun _ => ?_)
    · intro y0 y1
      unfold spec_l2Form.j1
      repeat' first
      | (with_reducible exact ih0 _ _)
      | (with_reducible exact ih1 _ _)
      | (with_reducible exact LeO.refl _)
      | (with_reducible exact LeO.none _)
      | (with_reducible refine LeO.ite ?_ ?_)
      | (with_reducible refine LeO.bind ?_ (fun _ => ?_))
      | exact ih0 _ _
      | exact ih1 _ _
      | exact LeO.none _
      | refine LeO.ite ?_ ?_
      | refine LeO.bind ?_ (fun _ => ?_)
theorem spec_l2Form.mono : ∀ a0 k, LeO (spec_l2Form.f k a0) (spec_l2Form.f (k + 1) a0) := by
  intro a0 k
  obtain ⟨ih0, ih1⟩ := spec_l2Form.mono_l k
  unfold spec_l2Form.f
  repeat' first
      | (with_reducible exact ih0 _ _)
      | (with_reducible exact ih1 _ _)
      | (with_reducible exact LeO.refl _)
      | (with_reducible exact LeO.none _)
      | (with_reducible refine LeO.ite ?_ ?_)
      | (with_reducible refine LeO.bind ?_ (fun _ => ?_))
      | exact ih0 _ _
      | exact ih1 _ _
      | exact LeO.none _
      | refine LeO.ite ?_ ?_
      | refine LeO.bind ?_ (fun _ => ?_)
set_option maxHeartbeats 8000000 in
set_option maxRecDepth 100000 in
theorem spec_l2Form.calls (k : Nat) (a0 : Int) (r : List Bool) (w : World) (h : spec_l2Form.f k a0 = some r) :
    Calls Try.prog 57 #[.int .i64 a0] w fun e w' => ∃ v0_ : Value, e = .returned (v0_) ∧ Kd.R Kd.bool 4 w' w.heap.size (fun _ => True) v0_ r ∧ Below w.heap.size w w' := by
  have HB := Aside0.mk (Below.refl w.heap.size w)
  have H : (if a0 = 1 then (some (([true, false, false, true] : List Bool))) else (if a0 = 2 then (spec_l2Form.j0 k a0 (a0 == 2)) else (if a0 = 3 then (spec_l2Form.j0 k a0 (a0 == 3)) else (if a0 = 6 then (spec_l2Form.j0 k a0 (a0 == 6)) else (spec_l2Form.j0 k a0 (a0 == 7)))))) = some r := h
  clear h
  by_cases c2 : a0 = 1
  · rw [if_pos c2] at H
    have c2b0 : (a0 == 1) = true := beq_iff_eq.mpr c2
    have c2b1 : (a0 != 1) = false := bne_eq_false_iff_eq.mpr c2
    clear c2
    obtain ⟨y140, hy140⟩ : ∃ y_ : List Bool, y_ = (([true, false, false, true] : List Bool)) := ⟨_, rfl⟩
    replace H : (some y140) = some r := by first | (rw [hy140]; with_reducible exact H) | (have H2_ := (Option.bind_some _ _).symm.trans H; rw [hy140]; with_reducible exact H2_) | (have H2_ := (Option.bind_some _ _).symm.trans H; with_reducible exact H2_) | with_reducible exact H | (rw [hy140]; exact H) | exact H
    have Ny140 := Aside0.mk hy140
    clear hy140
    obtain rfl := Option.some.inj H
    go_enter Try.func57, Try.ntmps57
    go_wp2_with (first | ((with_reducible refine gate_dst (N := 6) rfl ?_); refine Kd.R_lit Kd.bool _ 4 ?hg (N := 6) ?hd (xs := ([true, false, false, true] : List Bool)) (inner := [.bool true, .bool false, .bool false, .bool true]) (ok := fun _ => True) (okp := fun _ => True) ?hr ?hp (fun _ hk => hk) trivial (Below.refl _ _) (Nat.le_refl _) (by simp) ?_; (case hd => rfl); (case hg => rfl); (case hr => first | (go_simp; done) | (go_simp; rfl)); (case hp => exact (Reps.one (show Kd.M Kd.bool _ _ _ true [.bool true] from rfl) (Reps.one (show Kd.M Kd.bool _ _ _ false [.bool false] from rfl) (Reps.one (show Kd.M Kd.bool _ _ _ false [.bool false] from rfl) (Reps.one (show Kd.M Kd.bool _ _ _ true [.bool true] from rfl) (Reps.none _ _)))))); intro v141 w3 ho4 hb hg_ hnew_; clear hg_ hnew_; (first | rw [← Ny140.out] at ho4 | (simp only [Int.reduceToNat] at ho4; rw [← Ny140.out] at ho4)); have n0_ := Aside0.mk (Kd.R_lower ho4 (below_size (by repeat (first | (with_reducible first | exact HB.out | apply below_alloc | apply pw_below_drewN | apply below_drew1) | exact HB.out)))); have n1_ := Aside0.mk (below_step (by repeat (first | (with_reducible first | exact HB.out | apply below_alloc | apply pw_below_drewN | apply below_drew1) | exact HB.out)) hb); clear HB; have HO142 := n0_; have HB := n1_; clear n0_ n1_; clear hb ho4))
    go_ret
    exact ⟨_, by first | rfl | (simp [errW_none, errW_some] <;> rfl) | (simp [*, errW_none, errW_some] <;> rfl), by (with_reducible repeat (first | apply Kd.R_alloc | apply Kd.R_drewN | apply Kd.R_drew)); exact HO142.out, by repeat (first | (with_reducible first | exact HB.out | apply below_alloc | apply pw_below_drewN | apply below_drew1) | exact HB.out)⟩
  · rw [if_neg c2] at H
    have c2b0 : (a0 == 1) = false := beq_eq_false_iff_ne.mpr c2
    have c2b1 : (a0 != 1) = true := bne_iff_ne.mpr c2
    have HC5 := Aside0.mk H
    clear H
    go_enter Try.func57, Try.ntmps57
    go_upto_if 7 with (fail)
    go_cut [7] (fun v7 wc => ∃ (kq : Nat) (x7_4 : Bool), v7 = .bool x7_4 ∧ Aside0 (spec_l2Form.j0 kq a0 x7_4 = some r) ∧ Aside0 (kq ≤ k) ∧ Aside0 (Below w.heap.size w wc))
    case first =>
      have H := HC5.out
      clear HC5
      by_cases c6 : a0 = 2
      · rw [if_pos c6] at H
        have c6b0 : (a0 == 2) = true := beq_iff_eq.mpr c6
        have c6b1 : (a0 != 2) = false := bne_eq_false_iff_eq.mpr c6
        clear c6
        (first | rw [c6b0] | (simp only [i64_w, i32_w]; rw [c6b0]) | skip)
        have H' := Aside0.mk H
        clear H
        go_wp2
        go_meet
        case rel => exact ⟨_, ((a0 == 2)), (by first | rfl | (simp; done) | (simp [*]; done)), H', ⟨by first | omega | exact Nat.le_refl _⟩, ⟨by repeat (first | (with_reducible first | exact HB.out | apply below_alloc | apply pw_below_drewN | apply below_drew1) | exact HB.out)⟩⟩
      · rw [if_neg c6] at H
        have c6b0 : (a0 == 2) = false := beq_eq_false_iff_ne.mpr c6
        have c6b1 : (a0 != 2) = true := bne_iff_ne.mpr c6
        (first | rw [c6b0] | (simp only [i64_w, i32_w]; rw [c6b0]) | skip)
        by_cases c7 : a0 = 3
        · rw [if_pos c7] at H
          have c7b0 : (a0 == 3) = true := beq_iff_eq.mpr c7
          have c7b1 : (a0 != 3) = false := bne_eq_false_iff_eq.mpr c7
          clear c7
          have H' := Aside0.mk H
          clear H
          go_wp2
          go_meet
          case rel => exact ⟨_, ((a0 == 3)), (by first | rfl | (simp; done) | (simp [*]; done)), H', ⟨by first | omega | exact Nat.le_refl _⟩, ⟨by repeat (first | (with_reducible first | exact HB.out | apply below_alloc | apply pw_below_drewN | apply below_drew1) | exact HB.out)⟩⟩
        · rw [if_neg c7] at H
          have c7b0 : (a0 == 3) = false := beq_eq_false_iff_ne.mpr c7
          have c7b1 : (a0 != 3) = true := bne_iff_ne.mpr c7
          by_cases c8 : a0 = 6
          · rw [if_pos c8] at H
            have c8b0 : (a0 == 6) = true := beq_iff_eq.mpr c8
            have c8b1 : (a0 != 6) = false := bne_eq_false_iff_eq.mpr c8
            clear c8
            have H' := Aside0.mk H
            clear H
            go_wp2
            go_meet
            case rel => exact ⟨_, ((a0 == 6)), (by first | rfl | (simp; done) | (simp [*]; done)), H', ⟨by first | omega | exact Nat.le_refl _⟩, ⟨by repeat (first | (with_reducible first | exact HB.out | apply below_alloc | apply pw_below_drewN | apply below_drew1) | exact HB.out)⟩⟩
          · rw [if_neg c8] at H
            have c8b0 : (a0 == 6) = false := beq_eq_false_iff_ne.mpr c8
            have c8b1 : (a0 != 6) = true := bne_iff_ne.mpr c8
            have H' := Aside0.mk H
            clear H
            go_wp2
            go_meet
            case rel => exact ⟨_, ((a0 == 7)), (by first | rfl | (simp; done) | (simp [*]; done)), H', ⟨by first | omega | exact Nat.le_refl _⟩, ⟨by repeat (first | (with_reducible first | exact HB.out | apply below_alloc | apply pw_below_drewN | apply below_drew1) | exact HB.out)⟩⟩
    case rest =>
      clear HC5
      try clear c2
      try clear c2b0
      try clear c2b1
      try clear p2
      try clear c5
      try clear c6
      try clear c6b0
      try clear c6b1
      try clear c7
      try clear c7b0
      try clear c7b1
      try clear c8
      try clear c8b0
      try clear c8b1
      obtain ⟨kq, x7_4, rfl, HA, HJ4, HB⟩ := hcut
      cases kq with
      | zero => exact absurd HA.out (by simp [spec_l2Form.j0])
      | succ kj4 =>
        have H := HA.out
        clear HA
        simp only [spec_l2Form.j0] at H
        by_cases c9 : x7_4 = true
        · subst c9
          have H1 : (some (([true, true, false, false] : List Bool))) = some r := by rw [if_pos rfl] at H; exact H
          clear H
          have H := H1
          clear H1
          obtain ⟨y143, hy143⟩ : ∃ y_ : List Bool, y_ = (([true, true, false, false] : List Bool)) := ⟨_, rfl⟩
          replace H : (some y143) = some r := by first | (rw [hy143]; with_reducible exact H) | (have H2_ := (Option.bind_some _ _).symm.trans H; rw [hy143]; with_reducible exact H2_) | (have H2_ := (Option.bind_some _ _).symm.trans H; with_reducible exact H2_) | with_reducible exact H | (rw [hy143]; exact H) | exact H
          have Ny143 := Aside0.mk hy143
          clear hy143
          obtain rfl := Option.some.inj H
          go_wp2_with (first | ((with_reducible refine gate_dst (N := 12) rfl ?_); refine Kd.R_lit Kd.bool _ 4 ?hg (N := 12) ?hd (xs := ([true, true, false, false] : List Bool)) (inner := [.bool true, .bool true, .bool false, .bool false]) (ok := fun _ => True) (okp := fun _ => True) ?hr ?hp (fun _ hk => hk) trivial (Below.refl _ _) (Nat.le_refl _) (by simp) ?_; (case hd => rfl); (case hg => rfl); (case hr => first | (go_simp; done) | (go_simp; rfl)); (case hp => exact (Reps.one (show Kd.M Kd.bool _ _ _ true [.bool true] from rfl) (Reps.one (show Kd.M Kd.bool _ _ _ true [.bool true] from rfl) (Reps.one (show Kd.M Kd.bool _ _ _ false [.bool false] from rfl) (Reps.one (show Kd.M Kd.bool _ _ _ false [.bool false] from rfl) (Reps.none _ _)))))); intro v144 w10 ho11 hb hg_ hnew_; clear hg_ hnew_; (first | rw [← Ny143.out] at ho11 | (simp only [Int.reduceToNat] at ho11; rw [← Ny143.out] at ho11)); have n0_ := Aside0.mk (Kd.R_lower ho11 (below_size (by repeat (first | (with_reducible first | exact HB.out | apply below_alloc | apply pw_below_drewN | apply below_drew1) | exact HB.out)))); have n1_ := Aside0.mk (below_step (by repeat (first | (with_reducible first | exact HB.out | apply below_alloc | apply pw_below_drewN | apply below_drew1) | exact HB.out)) hb); clear HB; have HO145 := n0_; have HB := n1_; clear n0_ n1_; clear hb ho11))
          go_ret
          exact ⟨_, by first | rfl | (simp [errW_none, errW_some] <;> rfl) | (simp [*, errW_none, errW_some] <;> rfl), by (with_reducible repeat (first | apply Kd.R_alloc | apply Kd.R_drewN | apply Kd.R_drew)); exact HO145.out, by repeat (first | (with_reducible first | exact HB.out | apply below_alloc | apply pw_below_drewN | apply below_drew1) | exact HB.out)⟩
        · replace c9 := Bool.eq_false_iff.mpr c9
          subst c9
          have H1 : (if a0 = 4 then (spec_l2Form.j1 kj4 a0 (a0 == 4)) else (if a0 = 11 then (spec_l2Form.j1 kj4 a0 (a0 == 11)) else (if a0 = 12 then (spec_l2Form.j1 kj4 a0 (a0 == 12)) else (spec_l2Form.j1 kj4 a0 (a0 == 14))))) = some r := by rw [if_neg (show ¬ (false = true) by decide)] at H; exact H
          clear H
          have H := H1
          clear H1
          have HC12 := Aside0.mk H
          clear H
          go_upto_if 13 with (fail)
          go_cut [13] (fun v13 wc => ∃ (kq : Nat) (x13_11 : Bool), v13 = .bool x13_11 ∧ Aside0 (spec_l2Form.j1 kq a0 x13_11 = some r) ∧ Aside0 (kq ≤ kj4) ∧ Aside0 (Below w.heap.size w wc))
          case first =>
            have H := HC12.out
            clear HC12
            by_cases c13 : a0 = 4
            · rw [if_pos c13] at H
              have c13b0 : (a0 == 4) = true := beq_iff_eq.mpr c13
              have c13b1 : (a0 != 4) = false := bne_eq_false_iff_eq.mpr c13
              clear c13
              (first | rw [c13b0] | (simp only [i64_w, i32_w]; rw [c13b0]) | skip)
              have H' := Aside0.mk H
              clear H
              go_wp2
              go_meet
              case rel => exact ⟨_, ((a0 == 4)), (by first | rfl | (simp; done) | (simp [*]; done)), H', ⟨by have := HJ4.out; first | omega | exact Nat.le_refl _⟩, ⟨by repeat (first | (with_reducible first | exact HB.out | apply below_alloc | apply pw_below_drewN | apply below_drew1) | exact HB.out)⟩⟩
            · rw [if_neg c13] at H
              have c13b0 : (a0 == 4) = false := beq_eq_false_iff_ne.mpr c13
              have c13b1 : (a0 != 4) = true := bne_iff_ne.mpr c13
              (first | rw [c13b0] | (simp only [i64_w, i32_w]; rw [c13b0]) | skip)
              by_cases c14 : a0 = 11
              · rw [if_pos c14] at H
                have c14b0 : (a0 == 11) = true := beq_iff_eq.mpr c14
                have c14b1 : (a0 != 11) = false := bne_eq_false_iff_eq.mpr c14
                clear c14
                have H' := Aside0.mk H
                clear H
                go_wp2
                go_meet
                case rel => exact ⟨_, ((a0 == 11)), (by first | rfl | (simp; done) | (simp [*]; done)), H', ⟨by have := HJ4.out; first | omega | exact Nat.le_refl _⟩, ⟨by repeat (first | (with_reducible first | exact HB.out | apply below_alloc | apply pw_below_drewN | apply below_drew1) | exact HB.out)⟩⟩
              · rw [if_neg c14] at H
                have c14b0 : (a0 == 11) = false := beq_eq_false_iff_ne.mpr c14
                have c14b1 : (a0 != 11) = true := bne_iff_ne.mpr c14
                by_cases c15 : a0 = 12
                · rw [if_pos c15] at H
                  have c15b0 : (a0 == 12) = true := beq_iff_eq.mpr c15
                  have c15b1 : (a0 != 12) = false := bne_eq_false_iff_eq.mpr c15
                  clear c15
                  have H' := Aside0.mk H
                  clear H
                  go_wp2
                  go_meet
                  case rel => exact ⟨_, ((a0 == 12)), (by first | rfl | (simp; done) | (simp [*]; done)), H', ⟨by have := HJ4.out; first | omega | exact Nat.le_refl _⟩, ⟨by repeat (first | (with_reducible first | exact HB.out | apply below_alloc | apply pw_below_drewN | apply below_drew1) | exact HB.out)⟩⟩
                · rw [if_neg c15] at H
                  have c15b0 : (a0 == 12) = false := beq_eq_false_iff_ne.mpr c15
                  have c15b1 : (a0 != 12) = true := bne_iff_ne.mpr c15
                  have H' := Aside0.mk H
                  clear H
                  go_wp2
                  go_meet
                  case rel => exact ⟨_, ((a0 == 14)), (by first | rfl | (simp; done) | (simp [*]; done)), H', ⟨by have := HJ4.out; first | omega | exact Nat.le_refl _⟩, ⟨by repeat (first | (with_reducible first | exact HB.out | apply below_alloc | apply pw_below_drewN | apply below_drew1) | exact HB.out)⟩⟩
          case rest =>
            clear HC12
            try clear c1
            try clear c2
            try clear c2b0
            try clear c2b1
            try clear p2
            try clear c5
            try clear c6
            try clear c6b0
            try clear c6b1
            try clear c7
            try clear c7b0
            try clear c7b1
            try clear c8
            try clear c8b0
            try clear c8b1
            try clear c9
            try clear c13
            try clear c13b0
            try clear c13b1
            try clear c14
            try clear c14b0
            try clear c14b1
            try clear c15
            try clear c15b0
            try clear c15b1
            try clear p2
            obtain ⟨kq, x13_11, rfl, HA, HJ11, HB⟩ := hcut
            cases kq with
            | zero => exact absurd HA.out (by simp [spec_l2Form.j1])
            | succ kj11 =>
              have H := HA.out
              clear HA
              simp only [spec_l2Form.j1] at H
              by_cases c16 : x13_11 = true
              · subst c16
                have H1 : (some (([true, false, false, false] : List Bool))) = some r := by rw [if_pos rfl] at H; exact H
                clear H
                have H := H1
                clear H1
                obtain ⟨y146, hy146⟩ : ∃ y_ : List Bool, y_ = (([true, false, false, false] : List Bool)) := ⟨_, rfl⟩
                replace H : (some y146) = some r := by first | (rw [hy146]; with_reducible exact H) | (have H2_ := (Option.bind_some _ _).symm.trans H; rw [hy146]; with_reducible exact H2_) | (have H2_ := (Option.bind_some _ _).symm.trans H; with_reducible exact H2_) | with_reducible exact H | (rw [hy146]; exact H) | exact H
                have Ny146 := Aside0.mk hy146
                clear hy146
                obtain rfl := Option.some.inj H
                go_wp2_with (first | ((with_reducible refine gate_dst (N := 18) rfl ?_); refine Kd.R_lit Kd.bool _ 4 ?hg (N := 18) ?hd (xs := ([true, false, false, false] : List Bool)) (inner := [.bool true, .bool false, .bool false, .bool false]) (ok := fun _ => True) (okp := fun _ => True) ?hr ?hp (fun _ hk => hk) trivial (Below.refl _ _) (Nat.le_refl _) (by simp) ?_; (case hd => rfl); (case hg => rfl); (case hr => first | (go_simp; done) | (go_simp; rfl)); (case hp => exact (Reps.one (show Kd.M Kd.bool _ _ _ true [.bool true] from rfl) (Reps.one (show Kd.M Kd.bool _ _ _ false [.bool false] from rfl) (Reps.one (show Kd.M Kd.bool _ _ _ false [.bool false] from rfl) (Reps.one (show Kd.M Kd.bool _ _ _ false [.bool false] from rfl) (Reps.none _ _)))))); intro v147 w17 ho18 hb hg_ hnew_; clear hg_ hnew_; (first | rw [← Ny146.out] at ho18 | (simp only [Int.reduceToNat] at ho18; rw [← Ny146.out] at ho18)); have n0_ := Aside0.mk (Kd.R_lower ho18 (below_size (by repeat (first | (with_reducible first | exact HB.out | apply below_alloc | apply pw_below_drewN | apply below_drew1) | exact HB.out)))); have n1_ := Aside0.mk (below_step (by repeat (first | (with_reducible first | exact HB.out | apply below_alloc | apply pw_below_drewN | apply below_drew1) | exact HB.out)) hb); clear HB; have HO148 := n0_; have HB := n1_; clear n0_ n1_; clear hb ho18))
                go_ret
                exact ⟨_, by first | rfl | (simp [errW_none, errW_some] <;> rfl) | (simp [*, errW_none, errW_some] <;> rfl), by (with_reducible repeat (first | apply Kd.R_alloc | apply Kd.R_drewN | apply Kd.R_drew)); exact HO148.out, by repeat (first | (with_reducible first | exact HB.out | apply below_alloc | apply pw_below_drewN | apply below_drew1) | exact HB.out)⟩
              · replace c16 := Bool.eq_false_iff.mpr c16
                subst c16
                have H1 : (if a0 = 5 then (some (([true, false, true, false] : List Bool))) else (if a0 = 8 then (some (([true, true, true, true] : List Bool))) else (if a0 = 9 then (some (([false, false, true, false] : List Bool))) else (if a0 = 10 then (some (([true, false, true, true] : List Bool))) else (if a0 = 13 then (some (([false, false, false, true] : List Bool))) else (some (([] : List Bool)))))))) = some r := by rw [if_neg (show ¬ (false = true) by decide)] at H; exact H
                clear H
                have H := H1
                clear H1
                by_cases c19 : a0 = 5
                · rw [if_pos c19] at H
                  have c19b0 : (a0 == 5) = true := beq_iff_eq.mpr c19
                  have c19b1 : (a0 != 5) = false := bne_eq_false_iff_eq.mpr c19
                  clear c19
                  obtain ⟨y149, hy149⟩ : ∃ y_ : List Bool, y_ = (([true, false, true, false] : List Bool)) := ⟨_, rfl⟩
                  replace H : (some y149) = some r := by first | (rw [hy149]; with_reducible exact H) | (have H2_ := (Option.bind_some _ _).symm.trans H; rw [hy149]; with_reducible exact H2_) | (have H2_ := (Option.bind_some _ _).symm.trans H; with_reducible exact H2_) | with_reducible exact H | (rw [hy149]; exact H) | exact H
                  have Ny149 := Aside0.mk hy149
                  clear hy149
                  obtain rfl := Option.some.inj H
                  go_wp2_with (first | ((with_reducible refine gate_dst (N := 21) rfl ?_); refine Kd.R_lit Kd.bool _ 4 ?hg (N := 21) ?hd (xs := ([true, false, true, false] : List Bool)) (inner := [.bool true, .bool false, .bool true, .bool false]) (ok := fun _ => True) (okp := fun _ => True) ?hr ?hp (fun _ hk => hk) trivial (Below.refl _ _) (Nat.le_refl _) (by simp) ?_; (case hd => rfl); (case hg => rfl); (case hr => first | (go_simp; done) | (go_simp; rfl)); (case hp => exact (Reps.one (show Kd.M Kd.bool _ _ _ true [.bool true] from rfl) (Reps.one (show Kd.M Kd.bool _ _ _ false [.bool false] from rfl) (Reps.one (show Kd.M Kd.bool _ _ _ true [.bool true] from rfl) (Reps.one (show Kd.M Kd.bool _ _ _ false [.bool false] from rfl) (Reps.none _ _)))))); intro v150 w20 ho21 hb hg_ hnew_; clear hg_ hnew_; (first | rw [← Ny149.out] at ho21 | (simp only [Int.reduceToNat] at ho21; rw [← Ny149.out] at ho21)); have n0_ := Aside0.mk (Kd.R_lower ho21 (below_size (by repeat (first | (with_reducible first | exact HB.out | apply below_alloc | apply pw_below_drewN | apply below_drew1) | exact HB.out)))); have n1_ := Aside0.mk (below_step (by repeat (first | (with_reducible first | exact HB.out | apply below_alloc | apply pw_below_drewN | apply below_drew1) | exact HB.out)) hb); clear HB; have HO151 := n0_; have HB := n1_; clear n0_ n1_; clear hb ho21))
                  go_ret
                  exact ⟨_, by first | rfl | (simp [errW_none, errW_some] <;> rfl) | (simp [*, errW_none, errW_some] <;> rfl), by (with_reducible repeat (first | apply Kd.R_alloc | apply Kd.R_drewN | apply Kd.R_drew)); exact HO151.out, by repeat (first | (with_reducible first | exact HB.out | apply below_alloc | apply pw_below_drewN | apply below_drew1) | exact HB.out)⟩
                · rw [if_neg c19] at H
                  have c19b0 : (a0 == 5) = false := beq_eq_false_iff_ne.mpr c19
                  have c19b1 : (a0 != 5) = true := bne_iff_ne.mpr c19
                  by_cases c22 : a0 = 8
                  · rw [if_pos c22] at H
                    have c22b0 : (a0 == 8) = true := beq_iff_eq.mpr c22
                    have c22b1 : (a0 != 8) = false := bne_eq_false_iff_eq.mpr c22
                    clear c22
                    obtain ⟨y152, hy152⟩ : ∃ y_ : List Bool, y_ = (([true, true, true, true] : List Bool)) := ⟨_, rfl⟩
                    replace H : (some y152) = some r := by first | (rw [hy152]; with_reducible exact H) | (have H2_ := (Option.bind_some _ _).symm.trans H; rw [hy152]; with_reducible exact H2_) | (have H2_ := (Option.bind_some _ _).symm.trans H; with_reducible exact H2_) | with_reducible exact H | (rw [hy152]; exact H) | exact H
                    have Ny152 := Aside0.mk hy152
                    clear hy152
                    obtain rfl := Option.some.inj H
                    go_wp2_with (first | ((with_reducible refine gate_dst (N := 24) rfl ?_); refine Kd.R_lit Kd.bool _ 4 ?hg (N := 24) ?hd (xs := ([true, true, true, true] : List Bool)) (inner := [.bool true, .bool true, .bool true, .bool true]) (ok := fun _ => True) (okp := fun _ => True) ?hr ?hp (fun _ hk => hk) trivial (Below.refl _ _) (Nat.le_refl _) (by simp) ?_; (case hd => rfl); (case hg => rfl); (case hr => first | (go_simp; done) | (go_simp; rfl)); (case hp => exact (Reps.one (show Kd.M Kd.bool _ _ _ true [.bool true] from rfl) (Reps.one (show Kd.M Kd.bool _ _ _ true [.bool true] from rfl) (Reps.one (show Kd.M Kd.bool _ _ _ true [.bool true] from rfl) (Reps.one (show Kd.M Kd.bool _ _ _ true [.bool true] from rfl) (Reps.none _ _)))))); intro v153 w23 ho24 hb hg_ hnew_; clear hg_ hnew_; (first | rw [← Ny152.out] at ho24 | (simp only [Int.reduceToNat] at ho24; rw [← Ny152.out] at ho24)); have n0_ := Aside0.mk (Kd.R_lower ho24 (below_size (by repeat (first | (with_reducible first | exact HB.out | apply below_alloc | apply pw_below_drewN | apply below_drew1) | exact HB.out)))); have n1_ := Aside0.mk (below_step (by repeat (first | (with_reducible first | exact HB.out | apply below_alloc | apply pw_below_drewN | apply below_drew1) | exact HB.out)) hb); clear HB; have HO154 := n0_; have HB := n1_; clear n0_ n1_; clear hb ho24))
                    go_ret
                    exact ⟨_, by first | rfl | (simp [errW_none, errW_some] <;> rfl) | (simp [*, errW_none, errW_some] <;> rfl), by (with_reducible repeat (first | apply Kd.R_alloc | apply Kd.R_drewN | apply Kd.R_drew)); exact HO154.out, by repeat (first | (with_reducible first | exact HB.out | apply below_alloc | apply pw_below_drewN | apply below_drew1) | exact HB.out)⟩
                  · rw [if_neg c22] at H
                    have c22b0 : (a0 == 8) = false := beq_eq_false_iff_ne.mpr c22
                    have c22b1 : (a0 != 8) = true := bne_iff_ne.mpr c22
                    by_cases c25 : a0 = 9
                    · rw [if_pos c25] at H
                      have c25b0 : (a0 == 9) = true := beq_iff_eq.mpr c25
                      have c25b1 : (a0 != 9) = false := bne_eq_false_iff_eq.mpr c25
                      clear c25
                      obtain ⟨y155, hy155⟩ : ∃ y_ : List Bool, y_ = (([false, false, true, false] : List Bool)) := ⟨_, rfl⟩
                      replace H : (some y155) = some r := by first | (rw [hy155]; with_reducible exact H) | (have H2_ := (Option.bind_some _ _).symm.trans H; rw [hy155]; with_reducible exact H2_) | (have H2_ := (Option.bind_some _ _).symm.trans H; with_reducible exact H2_) | with_reducible exact H | (rw [hy155]; exact H) | exact H
                      have Ny155 := Aside0.mk hy155
                      clear hy155
                      obtain rfl := Option.some.inj H
                      go_wp2_with (first | ((with_reducible refine gate_dst (N := 27) rfl ?_); refine Kd.R_lit Kd.bool _ 4 ?hg (N := 27) ?hd (xs := ([false, false, true, false] : List Bool)) (inner := [.bool false, .bool false, .bool true, .bool false]) (ok := fun _ => True) (okp := fun _ => True) ?hr ?hp (fun _ hk => hk) trivial (Below.refl _ _) (Nat.le_refl _) (by simp) ?_; (case hd => rfl); (case hg => rfl); (case hr => first | (go_simp; done) | (go_simp; rfl)); (case hp => exact (Reps.one (show Kd.M Kd.bool _ _ _ false [.bool false] from rfl) (Reps.one (show Kd.M Kd.bool _ _ _ false [.bool false] from rfl) (Reps.one (show Kd.M Kd.bool _ _ _ true [.bool true] from rfl) (Reps.one (show Kd.M Kd.bool _ _ _ false [.bool false] from rfl) (Reps.none _ _)))))); intro v156 w26 ho27 hb hg_ hnew_; clear hg_ hnew_; (first | rw [← Ny155.out] at ho27 | (simp only [Int.reduceToNat] at ho27; rw [← Ny155.out] at ho27)); have n0_ := Aside0.mk (Kd.R_lower ho27 (below_size (by repeat (first | (with_reducible first | exact HB.out | apply below_alloc | apply pw_below_drewN | apply below_drew1) | exact HB.out)))); have n1_ := Aside0.mk (below_step (by repeat (first | (with_reducible first | exact HB.out | apply below_alloc | apply pw_below_drewN | apply below_drew1) | exact HB.out)) hb); clear HB; have HO157 := n0_; have HB := n1_; clear n0_ n1_; clear hb ho27))
                      go_ret
                      exact ⟨_, by first | rfl | (simp [errW_none, errW_some] <;> rfl) | (simp [*, errW_none, errW_some] <;> rfl), by (with_reducible repeat (first | apply Kd.R_alloc | apply Kd.R_drewN | apply Kd.R_drew)); exact HO157.out, by repeat (first | (with_reducible first | exact HB.out | apply below_alloc | apply pw_below_drewN | apply below_drew1) | exact HB.out)⟩
                    · rw [if_neg c25] at H
                      have c25b0 : (a0 == 9) = false := beq_eq_false_iff_ne.mpr c25
                      have c25b1 : (a0 != 9) = true := bne_iff_ne.mpr c25
                      by_cases c28 : a0 = 10
                      · rw [if_pos c28] at H
                        have c28b0 : (a0 == 10) = true := beq_iff_eq.mpr c28
                        have c28b1 : (a0 != 10) = false := bne_eq_false_iff_eq.mpr c28
                        clear c28
                        obtain ⟨y158, hy158⟩ : ∃ y_ : List Bool, y_ = (([true, false, true, true] : List Bool)) := ⟨_, rfl⟩
                        replace H : (some y158) = some r := by first | (rw [hy158]; with_reducible exact H) | (have H2_ := (Option.bind_some _ _).symm.trans H; rw [hy158]; with_reducible exact H2_) | (have H2_ := (Option.bind_some _ _).symm.trans H; with_reducible exact H2_) | with_reducible exact H | (rw [hy158]; exact H) | exact H
                        have Ny158 := Aside0.mk hy158
                        clear hy158
                        obtain rfl := Option.some.inj H
                        go_wp2_with (first | ((with_reducible refine gate_dst (N := 30) rfl ?_); refine Kd.R_lit Kd.bool _ 4 ?hg (N := 30) ?hd (xs := ([true, false, true, true] : List Bool)) (inner := [.bool true, .bool false, .bool true, .bool true]) (ok := fun _ => True) (okp := fun _ => True) ?hr ?hp (fun _ hk => hk) trivial (Below.refl _ _) (Nat.le_refl _) (by simp) ?_; (case hd => rfl); (case hg => rfl); (case hr => first | (go_simp; done) | (go_simp; rfl)); (case hp => exact (Reps.one (show Kd.M Kd.bool _ _ _ true [.bool true] from rfl) (Reps.one (show Kd.M Kd.bool _ _ _ false [.bool false] from rfl) (Reps.one (show Kd.M Kd.bool _ _ _ true [.bool true] from rfl) (Reps.one (show Kd.M Kd.bool _ _ _ true [.bool true] from rfl) (Reps.none _ _)))))); intro v159 w29 ho30 hb hg_ hnew_; clear hg_ hnew_; (first | rw [← Ny158.out] at ho30 | (simp only [Int.reduceToNat] at ho30; rw [← Ny158.out] at ho30)); have n0_ := Aside0.mk (Kd.R_lower ho30 (below_size (by repeat (first | (with_reducible first | exact HB.out | apply below_alloc | apply pw_below_drewN | apply below_drew1) | exact HB.out)))); have n1_ := Aside0.mk (below_step (by repeat (first | (with_reducible first | exact HB.out | apply below_alloc | apply pw_below_drewN | apply below_drew1) | exact HB.out)) hb); clear HB; have HO160 := n0_; have HB := n1_; clear n0_ n1_; clear hb ho30))
                        go_ret
                        exact ⟨_, by first | rfl | (simp [errW_none, errW_some] <;> rfl) | (simp [*, errW_none, errW_some] <;> rfl), by (with_reducible repeat (first | apply Kd.R_alloc | apply Kd.R_drewN | apply Kd.R_drew)); exact HO160.out, by repeat (first | (with_reducible first | exact HB.out | apply below_alloc | apply pw_below_drewN | apply below_drew1) | exact HB.out)⟩
                      · rw [if_neg c28] at H
                        have c28b0 : (a0 == 10) = false := beq_eq_false_iff_ne.mpr c28
                        have c28b1 : (a0 != 10) = true := bne_iff_ne.mpr c28
                        by_cases c31 : a0 = 13
                        · rw [if_pos c31] at H
                          have c31b0 : (a0 == 13) = true := beq_iff_eq.mpr c31
                          have c31b1 : (a0 != 13) = false := bne_eq_false_iff_eq.mpr c31
                          clear c31
                          obtain ⟨y161, hy161⟩ : ∃ y_ : List Bool, y_ = (([false, false, false, true] : List Bool)) := ⟨_, rfl⟩
                          replace H : (some y161) = some r := by first | (rw [hy161]; with_reducible exact H) | (have H2_ := (Option.bind_some _ _).symm.trans H; rw [hy161]; with_reducible exact H2_) | (have H2_ := (Option.bind_some _ _).symm.trans H; with_reducible exact H2_) | with_reducible exact H | (rw [hy161]; exact H) | exact H
                          have Ny161 := Aside0.mk hy161
                          clear hy161
                          obtain rfl := Option.some.inj H
                          go_wp2_with (first | ((with_reducible refine gate_dst (N := 33) rfl ?_); refine Kd.R_lit Kd.bool _ 4 ?hg (N := 33) ?hd (xs := ([false, false, false, true] : List Bool)) (inner := [.bool false, .bool false, .bool false, .bool true]) (ok := fun _ => True) (okp := fun _ => True) ?hr ?hp (fun _ hk => hk) trivial (Below.refl _ _) (Nat.le_refl _) (by simp) ?_; (case hd => rfl); (case hg => rfl); (case hr => first | (go_simp; done) | (go_simp; rfl)); (case hp => exact (Reps.one (show Kd.M Kd.bool _ _ _ false [.bool false] from rfl) (Reps.one (show Kd.M Kd.bool _ _ _ false [.bool false] from rfl) (Reps.one (show Kd.M Kd.bool _ _ _ false [.bool false] from rfl) (Reps.one (show Kd.M Kd.bool _ _ _ true [.bool true] from rfl) (Reps.none _ _)))))); intro v162 w32 ho33 hb hg_ hnew_; clear hg_ hnew_; (first | rw [← Ny161.out] at ho33 | (simp only [Int.reduceToNat] at ho33; rw [← Ny161.out] at ho33)); have n0_ := Aside0.mk (Kd.R_lower ho33 (below_size (by repeat (first | (with_reducible first | exact HB.out | apply below_alloc | apply pw_below_drewN | apply below_drew1) | exact HB.out)))); have n1_ := Aside0.mk (below_step (by repeat (first | (with_reducible first | exact HB.out | apply below_alloc | apply pw_below_drewN | apply below_drew1) | exact HB.out)) hb); clear HB; have HO163 := n0_; have HB := n1_; clear n0_ n1_; clear hb ho33))
                          go_ret
                          exact ⟨_, by first | rfl | (simp [errW_none, errW_some] <;> rfl) | (simp [*, errW_none, errW_some] <;> rfl), by (with_reducible repeat (first | apply Kd.R_alloc | apply Kd.R_drewN | apply Kd.R_drew)); exact HO163.out, by repeat (first | (with_reducible first | exact HB.out | apply below_alloc | apply pw_below_drewN | apply below_drew1) | exact HB.out)⟩
                        · rw [if_neg c31] at H
                          have c31b0 : (a0 == 13) = false := beq_eq_false_iff_ne.mpr c31
                          have c31b1 : (a0 != 13) = true := bne_iff_ne.mpr c31
                          obtain ⟨y164, hy164⟩ : ∃ y_ : List Bool, y_ = (([] : List Bool)) := ⟨_, rfl⟩
                          replace H : (some y164) = some r := by first | (rw [hy164]; with_reducible exact H) | (have H2_ := (Option.bind_some _ _).symm.trans H; rw [hy164]; with_reducible exact H2_) | (have H2_ := (Option.bind_some _ _).symm.trans H; with_reducible exact H2_) | with_reducible exact H | (rw [hy164]; exact H) | exact H
                          have Ny164 := Aside0.mk hy164
                          clear hy164
                          obtain rfl := Option.some.inj H
                          go_wp2_with (first | ((with_reducible refine gate_dst (N := 34) rfl ?_); refine Kd.R_lit Kd.bool _ 4 ?hg (N := 34) ?hd (xs := ([] : List Bool)) (inner := []) (ok := fun _ => True) (okp := fun _ => True) ?hr ?hp (fun _ hk => hk) trivial (Below.refl _ _) (Nat.le_refl _) (by simp) ?_; (case hd => rfl); (case hg => rfl); (case hr => first | (go_simp; done) | (go_simp; rfl)); (case hp => exact (Reps.none _ _)); intro v165 w34 ho35 hb hg_ hnew_; clear hg_ hnew_; (first | rw [← Ny164.out] at ho35 | (simp only [Int.reduceToNat] at ho35; rw [← Ny164.out] at ho35)); have n0_ := Aside0.mk (Kd.R_lower ho35 (below_size (by repeat (first | (with_reducible first | exact HB.out | apply below_alloc | apply pw_below_drewN | apply below_drew1) | exact HB.out)))); have n1_ := Aside0.mk (below_step (by repeat (first | (with_reducible first | exact HB.out | apply below_alloc | apply pw_below_drewN | apply below_drew1) | exact HB.out)) hb); clear HB; have HO166 := n0_; have HB := n1_; clear n0_ n1_; clear hb ho35))
                          go_ret
                          exact ⟨_, by first | rfl | (simp [errW_none, errW_some] <;> rfl) | (simp [*, errW_none, errW_some] <;> rfl), by (with_reducible repeat (first | apply Kd.R_alloc | apply Kd.R_drewN | apply Kd.R_drew)); exact HO166.out, by repeat (first | (with_reducible first | exact HB.out | apply below_alloc | apply pw_below_drewN | apply below_drew1) | exact HB.out)⟩
def spec_l6In.f (a0 : Int) (a1 : Int) (a2 : Int) : Option (Bool) := if a0 ≥ a1 then (some (decide (a0 ≤ a2))) else (some false)
set_option maxHeartbeats 8000000 in
set_option maxRecDepth 100000 in
theorem spec_l6In.calls (a0 : Int) (a1 : Int) (a2 : Int) (r : Bool) (w : World) (h : spec_l6In.f a0 a1 a2 = some r) :
    Calls Try.prog 59 #[.int .i64 a0, .int .i64 a1, .int .i64 a2] w fun e w' => e = .returned (.bool r) ∧ Drawn0 w w' := by
  have H : (if a0 ≥ a1 then (some (decide (a0 ≤ a2))) else (some false)) = some r := h
  clear h
  by_cases c4 : a0 ≥ a1
  · rw [if_pos c4] at H
    have c4b0 : decide (a1 ≤ a0) = true := decide_eq_true c4
    clear c4
    obtain rfl := Option.some.inj H
    go_enter Try.func59, Try.ntmps59
    go_wp2
    go_ret
    exact ⟨by first | rfl | (simp; done) | (simp [*]; done), by repeat (first | exact Drawn0.refl _ | apply Drawn0.step)⟩
  · rw [if_neg c4] at H
    have c4b0 : decide (a1 ≤ a0) = false := decide_eq_false c4
    clear c4
    obtain rfl := Option.some.inj H
    go_enter Try.func59, Try.ntmps59
    go_wp2
    go_ret
    exact ⟨by first | rfl | (simp; done) | (simp [*]; done), by repeat (first | exact Drawn0.refl _ | apply Drawn0.step)⟩
def spec_ValOk.f (a0_0 : Int) (a0_1 : Int) : Option (Bool) := if a0_0 = 0 then (some (a0_1 == 0)) else (if a0_0 = 1 then ((spec_l6In.f a0_1 (-99) 99).bind fun t168 => (some t168)) else (if a0_0 = 2 then ((spec_l6In.f a0_1 0 9).bind fun t169 => (some t169)) else (if a0_0 = 3 then ((spec_l6In.f a0_1 1 6).bind fun t170 => (some t170)) else (some false))))
set_option maxHeartbeats 8000000 in
set_option maxRecDepth 100000 in
theorem spec_ValOk.calls (a0_0 : Int) (a0_1 : Int) (r : Bool) (w : World) (h : spec_ValOk.f a0_0 a0_1 = some r) :
    Calls Try.prog 58 #[.agg #[.int .i64 a0_0, .int .i64 a0_1]] w fun e w' => e = .returned (.bool r) ∧ Below w.heap.size w w' := by
  have hu27 := Try.underlying27
  have HB := Aside0.mk (Below.refl w.heap.size w)
  have H : (if a0_0 = 0 then (some (a0_1 == 0)) else (if a0_0 = 1 then ((spec_l6In.f a0_1 (-99) 99).bind fun t168 => (some t168)) else (if a0_0 = 2 then ((spec_l6In.f a0_1 0 9).bind fun t169 => (some t169)) else (if a0_0 = 3 then ((spec_l6In.f a0_1 1 6).bind fun t170 => (some t170)) else (some false))))) = some r := h
  clear h
  by_cases c2 : a0_0 = 0
  · rw [if_pos c2] at H
    have c2b0 : (a0_0 == 0) = true := beq_iff_eq.mpr c2
    have c2b1 : (a0_0 != 0) = false := bne_eq_false_iff_eq.mpr c2
    clear c2
    obtain rfl := Option.some.inj H
    go_enter Try.func58, Try.ntmps58
    go_wp2_with (first | ((with_reducible refine gate_dst (N := 1) rfl ?_); refine box_event ?hg (N := 1) ?hd (cs := #[.int .i64 a0_0, .int .i64 a0_1]) (t := 27) ?hr ?_; (case hd => rfl); (case hg => rfl); (case hr => first | (go_simp; done) | (go_simp; rfl)); intro gb167 hg w3 hbox hb; have n0_ := Aside0.mk (below_step (by repeat (first | (with_reducible first | exact HB.out | apply below_alloc | apply pw_below_drewN | apply below_drew1) | exact HB.out)) hb); have n1_ := Aside0.mk (hbox); have n2_ := Aside0.mk ((by rw [hg]; exact (below_size (by repeat (first | (with_reducible first | exact HB.out | apply below_alloc | apply pw_below_drewN | apply below_drew1) | exact HB.out))) : w.heap.size ≤ gb167)); have n3_ := Aside0.mk ((by rw [hg]; exact (below_size (by repeat (first | (with_reducible first | exact HB.out | apply below_alloc | apply pw_below_drewN | apply below_drew1) | exact HB.out))) : w.heap.size ≤ gb167)); clear HB; have HB := n0_; have BK167 := n1_; have GW167 := n2_; have GE167 := n3_; clear n0_ n1_ n2_ n3_; clear hb hbox hg; have hcz4_0 : w3.cell? ⟨gb167, 0, none⟩ = some (.int .i64 a0_0) := (blk_cell BK167.out 0).trans rfl; have hcz4_1 : w3.cell? ⟨gb167, 1, none⟩ = some (.int .i64 a0_1) := (blk_cell BK167.out 1).trans rfl; have hfz4_0 := blk_frozen BK167.out 0; have hfz4_1 := blk_frozen BK167.out 1))
    go_ret
    exact ⟨by first | rfl | (simp [errW_none, errW_some] <;> rfl) | (simp [*, errW_none, errW_some] <;> rfl), by repeat (first | (with_reducible first | exact HB.out | apply below_alloc | apply pw_below_drewN | apply below_drew1 | refine below_set ?_ GE167.out) | exact HB.out)⟩
  · rw [if_neg c2] at H
    have c2b0 : (a0_0 == 0) = false := beq_eq_false_iff_ne.mpr c2
    have c2b1 : (a0_0 != 0) = true := bne_iff_ne.mpr c2
    by_cases c5 : a0_0 = 1
    · rw [if_pos c5] at H
      have c5b0 : (a0_0 == 1) = true := beq_iff_eq.mpr c5
      have c5b1 : (a0_0 != 1) = false := bne_eq_false_iff_eq.mpr c5
      clear c5
      replace H := Option.bind_eq_some_iff.mp H
      obtain ⟨t168, A60, H⟩ := H
      replace H : (some t168) = some r := H
      have A6 := Aside0.mk A60
      clear A60
      obtain rfl := Option.some.inj H
      go_enter Try.func58, Try.ntmps58
      go_wp2_with (first | ((with_reducible refine gate_dst (N := 1) rfl ?_); refine box_event ?hg (N := 1) ?hd (cs := #[.int .i64 a0_0, .int .i64 a0_1]) (t := 27) ?hr ?_; (case hd => rfl); (case hg => rfl); (case hr => first | (go_simp; done) | (go_simp; rfl)); intro gb167 hg w7 hbox hb; have n0_ := Aside0.mk (below_step (by repeat (first | (with_reducible first | exact HB.out | apply below_alloc | apply pw_below_drewN | apply below_drew1) | exact HB.out)) hb); have n1_ := Aside0.mk (hbox); have n2_ := Aside0.mk ((by rw [hg]; exact (below_size (by repeat (first | (with_reducible first | exact HB.out | apply below_alloc | apply pw_below_drewN | apply below_drew1) | exact HB.out))) : w.heap.size ≤ gb167)); have n3_ := Aside0.mk ((by rw [hg]; exact (below_size (by repeat (first | (with_reducible first | exact HB.out | apply below_alloc | apply pw_below_drewN | apply below_drew1) | exact HB.out))) : w.heap.size ≤ gb167)); clear HB; have HB := n0_; have BK167 := n1_; have GW167 := n2_; have GE167 := n3_; clear n0_ n1_ n2_ n3_; clear hb hbox hg; have hcz8_0 : w7.cell? ⟨gb167, 0, none⟩ = some (.int .i64 a0_0) := (blk_cell BK167.out 0).trans rfl; have hcz8_1 : w7.cell? ⟨gb167, 1, none⟩ = some (.int .i64 a0_1) := (blk_cell BK167.out 1).trans rfl; have hfz8_0 := blk_frozen BK167.out 0; have hfz8_1 := blk_frozen BK167.out 1) | ((with_reducible refine gate_callee (f := 59) rfl ?_); refine goesL_ (some 14) rfl rfl Try.func59 (by kernel_rfl) rfl #[.int .i64 a0_1, .int .i64 (-99), .int .i64 99] rfl (by (try simp only [List.map_toArray, List.map_cons, List.map_nil]); first | done | rfl | (simp only [List.length_drop, List.length_take]; rfl)) ?_; (with_reducible refine (spec_l6In.calls a0_1 (-99) 99 t168 _ A6.out).mono ?_); rintro e w' ⟨rfl, ⟨nd, rfl⟩⟩; refine ⟨_, rfl, ?_⟩))
      go_ret
      exact ⟨by first | rfl | (simp [errW_none, errW_some] <;> rfl) | (simp [*, errW_none, errW_some] <;> rfl), by repeat (first | (with_reducible first | exact HB.out | apply below_alloc | apply pw_below_drewN | apply below_drew1 | refine below_set ?_ GE167.out) | exact HB.out)⟩
    · rw [if_neg c5] at H
      have c5b0 : (a0_0 == 1) = false := beq_eq_false_iff_ne.mpr c5
      have c5b1 : (a0_0 != 1) = true := bne_iff_ne.mpr c5
      by_cases c9 : a0_0 = 2
      · rw [if_pos c9] at H
        have c9b0 : (a0_0 == 2) = true := beq_iff_eq.mpr c9
        have c9b1 : (a0_0 != 2) = false := bne_eq_false_iff_eq.mpr c9
        clear c9
        replace H := Option.bind_eq_some_iff.mp H
        obtain ⟨t169, A100, H⟩ := H
        replace H : (some t169) = some r := H
        have A10 := Aside0.mk A100
        clear A100
        obtain rfl := Option.some.inj H
        go_enter Try.func58, Try.ntmps58
        go_wp2_with (first | ((with_reducible refine gate_dst (N := 1) rfl ?_); refine box_event ?hg (N := 1) ?hd (cs := #[.int .i64 a0_0, .int .i64 a0_1]) (t := 27) ?hr ?_; (case hd => rfl); (case hg => rfl); (case hr => first | (go_simp; done) | (go_simp; rfl)); intro gb167 hg w11 hbox hb; have n0_ := Aside0.mk (below_step (by repeat (first | (with_reducible first | exact HB.out | apply below_alloc | apply pw_below_drewN | apply below_drew1) | exact HB.out)) hb); have n1_ := Aside0.mk (hbox); have n2_ := Aside0.mk ((by rw [hg]; exact (below_size (by repeat (first | (with_reducible first | exact HB.out | apply below_alloc | apply pw_below_drewN | apply below_drew1) | exact HB.out))) : w.heap.size ≤ gb167)); have n3_ := Aside0.mk ((by rw [hg]; exact (below_size (by repeat (first | (with_reducible first | exact HB.out | apply below_alloc | apply pw_below_drewN | apply below_drew1) | exact HB.out))) : w.heap.size ≤ gb167)); clear HB; have HB := n0_; have BK167 := n1_; have GW167 := n2_; have GE167 := n3_; clear n0_ n1_ n2_ n3_; clear hb hbox hg; have hcz12_0 : w11.cell? ⟨gb167, 0, none⟩ = some (.int .i64 a0_0) := (blk_cell BK167.out 0).trans rfl; have hcz12_1 : w11.cell? ⟨gb167, 1, none⟩ = some (.int .i64 a0_1) := (blk_cell BK167.out 1).trans rfl; have hfz12_0 := blk_frozen BK167.out 0; have hfz12_1 := blk_frozen BK167.out 1) | ((with_reducible refine gate_callee (f := 59) rfl ?_); refine goesL_ (some 19) rfl rfl Try.func59 (by kernel_rfl) rfl #[.int .i64 a0_1, .int .i64 0, .int .i64 9] rfl (by (try simp only [List.map_toArray, List.map_cons, List.map_nil]); first | done | rfl | (simp only [List.length_drop, List.length_take]; rfl)) ?_; (with_reducible refine (spec_l6In.calls a0_1 0 9 t169 _ A10.out).mono ?_); rintro e w' ⟨rfl, ⟨nd, rfl⟩⟩; refine ⟨_, rfl, ?_⟩))
        go_ret
        exact ⟨by first | rfl | (simp [errW_none, errW_some] <;> rfl) | (simp [*, errW_none, errW_some] <;> rfl), by repeat (first | (with_reducible first | exact HB.out | apply below_alloc | apply pw_below_drewN | apply below_drew1 | refine below_set ?_ GE167.out) | exact HB.out)⟩
      · rw [if_neg c9] at H
        have c9b0 : (a0_0 == 2) = false := beq_eq_false_iff_ne.mpr c9
        have c9b1 : (a0_0 != 2) = true := bne_iff_ne.mpr c9
        by_cases c13 : a0_0 = 3
        · rw [if_pos c13] at H
          have c13b0 : (a0_0 == 3) = true := beq_iff_eq.mpr c13
          have c13b1 : (a0_0 != 3) = false := bne_eq_false_iff_eq.mpr c13
          clear c13
          replace H := Option.bind_eq_some_iff.mp H
          obtain ⟨t170, A140, H⟩ := H
          replace H : (some t170) = some r := H
          have A14 := Aside0.mk A140
          clear A140
          obtain rfl := Option.some.inj H
          go_enter Try.func58, Try.ntmps58
          go_wp2_with (first | ((with_reducible refine gate_dst (N := 1) rfl ?_); refine box_event ?hg (N := 1) ?hd (cs := #[.int .i64 a0_0, .int .i64 a0_1]) (t := 27) ?hr ?_; (case hd => rfl); (case hg => rfl); (case hr => first | (go_simp; done) | (go_simp; rfl)); intro gb167 hg w15 hbox hb; have n0_ := Aside0.mk (below_step (by repeat (first | (with_reducible first | exact HB.out | apply below_alloc | apply pw_below_drewN | apply below_drew1) | exact HB.out)) hb); have n1_ := Aside0.mk (hbox); have n2_ := Aside0.mk ((by rw [hg]; exact (below_size (by repeat (first | (with_reducible first | exact HB.out | apply below_alloc | apply pw_below_drewN | apply below_drew1) | exact HB.out))) : w.heap.size ≤ gb167)); have n3_ := Aside0.mk ((by rw [hg]; exact (below_size (by repeat (first | (with_reducible first | exact HB.out | apply below_alloc | apply pw_below_drewN | apply below_drew1) | exact HB.out))) : w.heap.size ≤ gb167)); clear HB; have HB := n0_; have BK167 := n1_; have GW167 := n2_; have GE167 := n3_; clear n0_ n1_ n2_ n3_; clear hb hbox hg; have hcz16_0 : w15.cell? ⟨gb167, 0, none⟩ = some (.int .i64 a0_0) := (blk_cell BK167.out 0).trans rfl; have hcz16_1 : w15.cell? ⟨gb167, 1, none⟩ = some (.int .i64 a0_1) := (blk_cell BK167.out 1).trans rfl; have hfz16_0 := blk_frozen BK167.out 0; have hfz16_1 := blk_frozen BK167.out 1) | ((with_reducible refine gate_callee (f := 59) rfl ?_); refine goesL_ (some 24) rfl rfl Try.func59 (by kernel_rfl) rfl #[.int .i64 a0_1, .int .i64 1, .int .i64 6] rfl (by (try simp only [List.map_toArray, List.map_cons, List.map_nil]); first | done | rfl | (simp only [List.length_drop, List.length_take]; rfl)) ?_; (with_reducible refine (spec_l6In.calls a0_1 1 6 t170 _ A14.out).mono ?_); rintro e w' ⟨rfl, ⟨nd, rfl⟩⟩; refine ⟨_, rfl, ?_⟩))
          go_ret
          exact ⟨by first | rfl | (simp [errW_none, errW_some] <;> rfl) | (simp [*, errW_none, errW_some] <;> rfl), by repeat (first | (with_reducible first | exact HB.out | apply below_alloc | apply pw_below_drewN | apply below_drew1 | refine below_set ?_ GE167.out) | exact HB.out)⟩
        · rw [if_neg c13] at H
          have c13b0 : (a0_0 == 3) = false := beq_eq_false_iff_ne.mpr c13
          have c13b1 : (a0_0 != 3) = true := bne_iff_ne.mpr c13
          obtain rfl := Option.some.inj H
          go_enter Try.func58, Try.ntmps58
          go_wp2_with (first | ((with_reducible refine gate_dst (N := 1) rfl ?_); refine box_event ?hg (N := 1) ?hd (cs := #[.int .i64 a0_0, .int .i64 a0_1]) (t := 27) ?hr ?_; (case hd => rfl); (case hg => rfl); (case hr => first | (go_simp; done) | (go_simp; rfl)); intro gb167 hg w17 hbox hb; have n0_ := Aside0.mk (below_step (by repeat (first | (with_reducible first | exact HB.out | apply below_alloc | apply pw_below_drewN | apply below_drew1) | exact HB.out)) hb); have n1_ := Aside0.mk (hbox); have n2_ := Aside0.mk ((by rw [hg]; exact (below_size (by repeat (first | (with_reducible first | exact HB.out | apply below_alloc | apply pw_below_drewN | apply below_drew1) | exact HB.out))) : w.heap.size ≤ gb167)); have n3_ := Aside0.mk ((by rw [hg]; exact (below_size (by repeat (first | (with_reducible first | exact HB.out | apply below_alloc | apply pw_below_drewN | apply below_drew1) | exact HB.out))) : w.heap.size ≤ gb167)); clear HB; have HB := n0_; have BK167 := n1_; have GW167 := n2_; have GE167 := n3_; clear n0_ n1_ n2_ n3_; clear hb hbox hg; have hcz18_0 : w17.cell? ⟨gb167, 0, none⟩ = some (.int .i64 a0_0) := (blk_cell BK167.out 0).trans rfl; have hcz18_1 : w17.cell? ⟨gb167, 1, none⟩ = some (.int .i64 a0_1) := (blk_cell BK167.out 1).trans rfl; have hfz18_0 := blk_frozen BK167.out 0; have hfz18_1 := blk_frozen BK167.out 1))
          go_ret
          exact ⟨by first | rfl | (simp [errW_none, errW_some] <;> rfl) | (simp [*, errW_none, errW_some] <;> rfl), by repeat (first | (with_reducible first | exact HB.out | apply below_alloc | apply pw_below_drewN | apply below_drew1 | refine below_set ?_ GE167.out) | exact HB.out)⟩
end Go.Proofs.Ytmklpbmlgjkbiaa.PS
end
section
namespace Go.Proofs.Ytmklpbmlgjkbiaa.PS
open Go.RowKit Go.Proofs.YtmklpbmlgjkbiaaW.PrintWords Go.Proofs.YtmklpbmlgjkbiaaW.PrintLast
set_option maxRecDepth 100000
theorem in_any (a b c : Int) (w : World) : Calls Try.prog 65 #[.int .i64 a, .int .i64 b, .int .i64 c] w fun e w' => e = .returned (.bool (decide (b ≤ a ∧ a ≤ c))) ∧ w = w' := by
  by_cases h1 : b ≤ a <;> by_cases h2 : a ≤ c <;> (go_enter Try.func65, Try.ntmps65; go_wp2; go_ret; exact ⟨by simp [h1, h2], rfl⟩)
def cellsOf : List S66 → List Value
  | [] => []
  | x :: xs => .string x.f0 :: .string x.f1 :: .string x.f2 :: .bool x.f3 :: cellsOf xs
def IsManners (w w' : World) (g : Nat) : Prop := Below w.heap.size w w' ∧ w.heap.size ≤ g ∧ ∀ i, w'.cell? ⟨g, i, none⟩ = (cellsOf mannersL)[i]?
set_option maxHeartbeats 4000000 in
theorem manners_any (w : World) : Calls Try.prog 89 #[] w fun e w' => ∃ g, e = .returned (.slice (some ⟨g, 0, none⟩) 15 15) ∧ IsManners w w' g := by
  go_enter Try.func89, Try.ntmps89
  go_wp2
  go_ret
  refine ⟨_, rfl, (Below.refl _ _).alloc (Nat.le_refl _) _, Nat.le_refl _, fun i => ?_⟩
  rw [World.cell?_alloc_new]
  show (cellsOf mannersL).toArray[i]? = _
  exact List.getElem?_toArray
end Go.Proofs.Ytmklpbmlgjkbiaa.PS
end
section
namespace Go.Proofs.Ytmklpbmlgjkbiaa.PS
open Go.RowKit Go.Proofs.YtmklpbmlgjkbiaaW.PrintWords Go.Proofs.YtmklpbmlgjkbiaaW.PrintLast
set_option maxRecDepth 100000
theorem bcell {W w1 : World} (hb : Below W.heap.size W w1) : (∀ b o, b < W.heap.size → w1.cell? ⟨b, o, none⟩ = W.cell? ⟨b, o, none⟩) ∧ (∀ b o, b < W.heap.size → w1.frozen? ⟨b, o, none⟩ = W.frozen? ⟨b, o, none⟩) :=
  ⟨fun b o h => hb.cell (p := ⟨b, o, none⟩) h, fun b o h => hb.frozen (p := ⟨b, o, none⟩) h⟩
theorem blk2 (w : World) (A B : Obj) : ((w.alloc A).alloc B).drew.heap[w.heap.size + 1]? = some B := by
  have := blk_new (w.alloc A) B
  rwa [World.size_alloc] at this
theorem end4 {w W w' : World} {g t : Nat} {z0 z1 z2 z3 : Value} (hW : Below w.heap.size w W) (hge : w.heap.size ≤ g) (h0 : W.heap[g]? = some (.cells #[z0, z1, z2, z3] t (0, 0))) (hb : Below W.heap.size W w') (a b c d : Value) :
    Below w.heap.size w ((((w'.setCell ⟨g, 0, none⟩ a).setCell ⟨g, 1, none⟩ b).setCell ⟨g, 2, none⟩ c).setCell ⟨g, 3, none⟩ d) ∧
    ((((w'.setCell ⟨g, 0, none⟩ a).setCell ⟨g, 1, none⟩ b).setCell ⟨g, 2, none⟩ c).setCell ⟨g, 3, none⟩ d).heap[g]? = some (.cells #[a, b, c, d] t (0, 0)) :=
  ⟨below_set (below_set (below_set (below_set (below_step hW hb) hge) hge) hge) hge, blk_set (blk_set (blk_set (blk_set (blk_below h0 hb) 0 a) 1 b) 2 c) 3 d⟩
set_option maxHeartbeats 4000000 in
theorem how_kind (k : Int) (r s t vk vn : Int) (x : S66) (w : World) (hk : 1 ≤ k ∧ k ≤ 14) (hx : x = mannersL.getD k.toNat z66) :
    Calls Try.prog 67 #[.agg #[.int .i64 k, .int .i64 r, .int .i64 s, .int .i64 t, .int .i64 vk, .int .i64 vn]] w fun e w' => e = .returned (.agg #[.string x.f0, .string x.f1, .string x.f2, .bool x.f3]) ∧ Below w.heap.size w w' := by
  have hm : ∀ (W : World) (g : Nat), (∀ i, W.cell? ⟨g, i, none⟩ = (cellsOf mannersL)[i]?) → W.cell? ⟨g, k.toNat * 4, none⟩ = some (.string x.f0) ∧ W.cell? ⟨g, k.toNat * 4 + 1, none⟩ = some (.string x.f1) ∧ W.cell? ⟨g, k.toNat * 4 + 2, none⟩ = some (.string x.f2) ∧ W.cell? ⟨g, k.toNat * 4 + 3, none⟩ = some (.bool x.f3) := by
    intro W g h
    have : k = 1 ∨ k = 2 ∨ k = 3 ∨ k = 4 ∨ k = 5 ∨ k = 6 ∨ k = 7 ∨ k = 8 ∨ k = 9 ∨ k = 10 ∨ k = 11 ∨ k = 12 ∨ k = 13 ∨ k = 14 := by omega
    rcases this with rfl | rfl | rfl | rfl | rfl | rfl | rfl | rfl | rfl | rfl | rfl | rfl | rfl | rfl <;> (subst hx; exact ⟨h _, h _, h _, h _⟩)
  clear hx
  obtain ⟨hk1, hk2⟩ := hk
  go_enter Try.func67, Try.ntmps67
  go_wp2_with (go_at_call 65; refine (in_any _ _ _ _).mono ?_; rintro e w' ⟨rfl, rfl⟩)
  go_region_with (go_at_call 89; refine (manners_any _).mono ?_; rintro e w' ⟨g, rfl, hb, hg, hc⟩; obtain ⟨m0, m1, m2, m3⟩ := hm _ _ hc; obtain ⟨b1, b2⟩ := bcell hb; clear hc; have hgs := hb.size; have sz := b1 w.heap.size)
  all_goals go_wp2
  all_goals
    obtain ⟨E0, E1⟩ := end4 (w := w) (g := w.heap.size + 1) (t := 66) (below_drew1 (below_alloc (below_alloc (Below.refl _ _) _) _)) (Nat.le_succ _) (blk2 _ _ _) hb (.string x.f0) (.string x.f1) (.string x.f2) (.bool x.f3)
    have q0 := blk_cell E1 0; have q1 := blk_cell E1 1; have q2 := blk_cell E1 2; have q3 := blk_cell E1 3
    exact bodyPost_ret (v := .agg #[.string x.f0, .string x.f1, .string x.f2, .bool x.f3]) (by simp [results, Try.results67, go_sem, q0, q1, q2, q3]) rfl ⟨rfl, E0⟩
set_option maxHeartbeats 4000000 in
theorem how_none (k : Int) (r s t vk vn : Int) (w : World) (hk : decide (1 ≤ k ∧ k ≤ 14) = false) :
    Calls Try.prog 67 #[.agg #[.int .i64 k, .int .i64 r, .int .i64 s, .int .i64 t, .int .i64 vk, .int .i64 vn]] w fun e w' => e = .returned (.agg #[.string ⟨#[]⟩, .string ⟨#[]⟩, .string ⟨#[]⟩, .bool false]) ∧ Below w.heap.size w w' := by
  go_enter Try.func67, Try.ntmps67
  go_wp2_with (go_at_call 65; refine (in_any _ _ _ _).mono ?_; rintro e w' ⟨rfl, rfl⟩; rw [hk])
  exact bodyPost_ret (v := .agg #[.string ⟨#[]⟩, .string ⟨#[]⟩, .string ⟨#[]⟩, .bool false]) (by simp [results, Try.results67, go_sem]) rfl ⟨rfl, by repeat (first | exact Below.refl _ _ | apply below_alloc | apply below_drew1 | refine below_set ?_ (Nat.le_succ _))⟩
theorem impl_Op_how.calls (k r s t vk vn : Int) (r1 r2 r3 : ByteArray) (r4 : Bool) (w : World) (h : howV.f k r s t vk vn = some (r1, r2, r3, r4)) :
    Calls Try.prog 67 #[.agg #[.int .i64 k, .int .i64 r, .int .i64 s, .int .i64 t, .int .i64 vk, .int .i64 vn]] w fun e w' => e = .returned (.agg #[.string r1, .string r2, .string r3, .bool r4]) ∧ Below w.heap.size w w' := by
  unfold howV.f at h
  have h := Option.some.inj h
  simp only [Prod.mk.injEq] at h
  obtain ⟨rfl, rfl, rfl, rfl⟩ := h
  by_cases hk : 1 ≤ k ∧ k ≤ 14
  · have e : howR k = mannersL.getD k.toNat z66 := if_pos hk
    rw [e]
    exact how_kind k r s t vk vn _ w hk rfl
  · have e : howR k = z66 := if_neg hk
    rw [e]
    exact how_none k r s t vk vn w (decide_eq_false hk)
end Go.Proofs.Ytmklpbmlgjkbiaa.PS
end
section
namespace Go.Proofs.Ytmklpbmlgjkbiaa.PS
open Go.RowKit
set_option maxRecDepth 100000
theorem indexByte_any (s : ByteArray) (c : Int) (w : World) :
    Calls Try.prog 114 #[.string s, .int .u8 c] w fun e w' => e = .returned (.int .i64 (Lib.indexByte s.data.toList c.toNat.toUInt8)) ∧ w = w' := by
  go_enter Try.func114, Try.ntmps114
  go_wp2
  rw [run_callFunc_extern Try.func122 (by kernel_rfl) (by kernel_rfl) (by kernel_rfl) (e := Extern.BytealgIndexByte.indexByte) (by kernel_rfl), Lib.run_indexByteString]
  simp only [Result.andThen]
  rw [Oper.upon_value]
  go_wp2
  go_ret
  exact ⟨rfl, rfl⟩
theorem index_one (s : ByteArray) (c : UInt8) (w : World) :
    Calls Try.prog 110 #[.string s, .string ⟨#[c]⟩] w fun e w' => e = .returned (.int .i64 (Lib.indexByte s.data.toList c)) ∧ w = w' := by
  go_enter Try.func110, Try.ntmps110
  go_wp2_with (go_at_call 114; refine (indexByte_any _ _ _).mono ?_; rintro e w' ⟨rfl, rfl⟩)
  · have h : ([c] == s.toList) = true := by assumption
    go_ret
    refine ⟨?_, rfl⟩
    have e : s.data.toList = [c] := by rw [← Lib.toList_data]; exact (beq_iff_eq.1 h).symm
    rw [e]
    simp [Lib.indexByte]
  · go_ret
    exact ⟨rfl, rfl⟩
theorem sindex_one (s : ByteArray) (c : UInt8) (w : World) :
    Calls Try.prog 102 #[.string s, .string ⟨#[c]⟩] w fun e w' => e = .returned (.int .i64 (Lib.indexByte s.data.toList c)) ∧ w = w' := by
  go_enter Try.func102, Try.ntmps102
  go_wp2_with (go_at_call 110; refine (index_one _ _ _).mono ?_; rintro e w' ⟨rfl, rfl⟩)
  go_ret
  exact ⟨rfl, rfl⟩
theorem contains_one (s : ByteArray) (c : UInt8) (w : World) :
    Calls Try.prog 87 #[.string s, .string ⟨#[c]⟩] w fun e w' => e = .returned (.bool (decide (0 ≤ Lib.indexByte s.data.toList c))) ∧ w = w' := by
  go_enter Try.func87, Try.ntmps87
  go_wp2_with (go_at_call 102; refine (sindex_one _ _ _).mono ?_; rintro e w' ⟨rfl, rfl⟩)
  go_ret
  exact ⟨rfl, rfl⟩
end Go.Proofs.Ytmklpbmlgjkbiaa.PS
end
section
namespace Go.Proofs.Ytmklpbmlgjkbiaa.PS
open Go.RowKit Go.Proofs.YtmklpbmlgjkbiaaW.PrintWords Go.Proofs.YtmklpbmlgjkbiaaW.PrintLast
set_option linter.unusedVariables false
set_option maxRecDepth 100000
def hasC (k : Int) (c : UInt8) : Bool := decide (0 ≤ Lib.indexByte (howR k).f1.data.toList c)
theorem hasC_R (k : Int) : hasC k 82 = hasR k := by
  refine kinds (P := fun k => hasC k 82 = hasR k) (fun k hk => ?_) (by decide) (by decide) (by decide) (by decide) (by decide) (by decide) (by decide) (by decide) (by decide) (by decide) (by decide) (by decide) (by decide) (by decide) k
  unfold hasC howR
  rw [if_neg hk]
  have : hasR k = false := by unfold hasR; exact decide_eq_false (by omega)
  rw [this]; decide
theorem hasC_S (k : Int) : hasC k 83 = hasS k := by
  refine kinds (P := fun k => hasC k 83 = hasS k) (fun k hk => ?_) (by decide) (by decide) (by decide) (by decide) (by decide) (by decide) (by decide) (by decide) (by decide) (by decide) (by decide) (by decide) (by decide) (by decide) k
  unfold hasC howR
  rw [if_neg hk]
  have : hasS k = false := by unfold hasS; exact decide_eq_false (by omega)
  rw [this]; decide
theorem hasC_T (k : Int) : hasC k 84 = hasT k := by
  refine kinds (P := fun k => hasC k 84 = hasT k) (fun k hk => ?_) (by decide) (by decide) (by decide) (by decide) (by decide) (by decide) (by decide) (by decide) (by decide) (by decide) (by decide) (by decide) (by decide) (by decide) k
  unfold hasC howR
  rw [if_neg hk]
  have : hasT k = false := by unfold hasT; exact decide_eq_false (by omega)
  rw [this]; decide
theorem hasC_V (k : Int) : hasC k 86 = hasV k := by
  refine kinds (P := fun k => hasC k 86 = hasV k) (fun k hk => ?_) (by decide) (by decide) (by decide) (by decide) (by decide) (by decide) (by decide) (by decide) (by decide) (by decide) (by decide) (by decide) (by decide) (by decide) k
  unfold hasC howR
  rw [if_neg hk]
  have : hasV k = false := by unfold hasV; exact decide_eq_false (by omega)
  rw [this]; decide
set_option maxHeartbeats 4000000 in
theorem has_any (k r s t vk vn : Int) (c : UInt8) (w : World) :
    Calls Try.prog 64 #[.agg #[.int .i64 k, .int .i64 r, .int .i64 s, .int .i64 t, .int .i64 vk, .int .i64 vn], .string ⟨#[c]⟩] w fun e w' => e = .returned (.bool (hasC k c)) ∧ Below w.heap.size w w' := by
  have hw := fun W : World => impl_Op_how.calls k r s t vk vn (howR k).f0 (howR k).f1 (howR k).f2 (howR k).f3 W rfl
  obtain ⟨x, hx⟩ : ∃ x, x = howR k := ⟨_, rfl⟩
  unfold hasC
  rw [← hx] at hw ⊢
  clear hx
  have hu66 := Try.underlying66
  have hfd : ∀ (a b c d : Value) (W : World), Sem.run Try.prog (Instr.field 66 (.agg #[a, b, c, d]) 1) W = .ok b W := fun _ _ _ _ _ => by kernel_rfl
  go_enter Try.func64, Try.ntmps64
  go_wp2_with (first | (go_at_call 67; refine (hw _).mono ?_; rintro e w' ⟨rfl, hb⟩) | (go_at_call 87; refine (contains_one _ _ _).mono ?_; rintro e w' ⟨rfl, rfl⟩))
  go_ret
  exact ⟨rfl, below_step (below_alloc (Below.refl _ _) _) hb⟩
end Go.Proofs.Ytmklpbmlgjkbiaa.PS
end
section
namespace Go.Proofs.Ytmklpbmlgjkbiaa.PS
open Go.RowKit Go.Proofs.YtmklpbmlgjkbiaaW.PrintWords Go.Proofs.YtmklpbmlgjkbiaaW.PrintLast
set_option linter.unusedVariables false
set_option linter.unusedSimpArgs false
set_option maxRecDepth 100000
theorem eqA27 (d : Nat) (w : World) (x0 y0 : Int) (x1 y1 : Int) :
    (Op.equalIn (d + 2) 27 (.agg #[.int .i64 x0, .int .i64 x1]) (.agg #[.int .i64 y0, .int .i64 y1])).run Try.prog w = .ok (x0 == y0 && (x1 == y1)) w := by
  refine eqA_of Try.underlying27 (by kernel_rfl) ?_
  refine eqf_cons (by rfl) (by go_simp; rfl) (by go_simp; rfl) (by go_simp) ?_
  exact eqf_last (by rfl) (by go_simp; rfl) (by go_simp; rfl) (by go_simp)
def fieldB (h : Bool) (n m : Int) : Bool := if h = true then decide (0 ≤ n ∧ n ≤ m) else decide (n = 0)
set_option maxHeartbeats 4000000 in
theorem field_any (B : Nat) (k r s t vk vn : Int) (c : UInt8) (n m : Int) (w : World) (hB : w.heap[B]? = some (.cells #[.int .i64 k, .int .i64 r, .int .i64 s, .int .i64 t, .int .i64 vk, .int .i64 vn] 29 (0, 0))) :
    Calls Try.prog 63 #[.string ⟨#[c]⟩, .int .i64 n, .int .i64 m, .pointer (some ⟨B, 0, none⟩)] w fun e w' => e = .returned (.bool (fieldB (hasC k c) n m)) ∧ Below w.heap.size w w' := by
  have q0 := blk_cell hB 0; have q1 := blk_cell hB 1; have q2 := blk_cell hB 2; have q3 := blk_cell hB 3; have q4 := blk_cell hB 4; have q5 := blk_cell hB 5
  simp at q0 q1 q2 q3 q4 q5
  clear hB
  have hw := fun W : World => has_any k r s t vk vn c W
  obtain ⟨h, hh⟩ : ∃ h, h = hasC k c := ⟨_, rfl⟩
  rw [← hh] at hw ⊢
  clear hh
  unfold fieldB
  cases h
  · go_enter Try.func63, Try.ntmps63
    go_wp2_with (first | (go_at_call 64; refine (hw _).mono ?_; rintro e w' ⟨rfl, hb⟩) | (go_at_call 65; refine (in_any _ _ _ _).mono ?_; rintro e w' ⟨rfl, rfl⟩))
    go_ret
    exact ⟨by by_cases hn : n = 0 <;> simp [hn], hb⟩
  · go_enter Try.func63, Try.ntmps63
    go_wp2_with (first | (go_at_call 64; refine (hw _).mono ?_; rintro e w' ⟨rfl, hb⟩) | (go_at_call 65; refine (in_any _ _ _ _).mono ?_; rintro e w' ⟨rfl, rfl⟩))
    go_ret
    exact ⟨by simp, hb⟩
theorem valok_any (a b : Int) (w : World) : Calls Try.prog 88 #[.agg #[.int .i64 a, .int .i64 b]] w fun e w' => e = .returned (.bool (okB a b)) ∧ Below w.heap.size w w' := by
  by_cases h0 : a = 0
  · subst h0
    have e : okB 0 b = (b == 0) := by
      unfold okB okP
      by_cases hb : b = 0 <;> simp [hb]
    rw [e]
    go_enter Try.func88, Try.ntmps88
    go_wp2
    go_ret
    exact ⟨by first | rfl | simp, below_alloc (Below.refl _ _) _⟩
  by_cases h1 : a = 1
  · subst h1
    have e : okB 1 b = decide (-99 ≤ b ∧ b ≤ 99) := by unfold okB okP; simp
    rw [e]
    go_enter Try.func88, Try.ntmps88
    go_wp2_with (go_at_call 65; refine (in_any _ _ _ _).mono ?_; rintro e w' ⟨rfl, rfl⟩)
    go_ret
    exact ⟨by first | rfl | simp, below_alloc (Below.refl _ _) _⟩
  by_cases h2 : a = 2
  · subst h2
    have e : okB 2 b = decide (0 ≤ b ∧ b ≤ 9) := by unfold okB okP; simp
    rw [e]
    go_enter Try.func88, Try.ntmps88
    go_wp2_with (go_at_call 65; refine (in_any _ _ _ _).mono ?_; rintro e w' ⟨rfl, rfl⟩)
    go_ret
    exact ⟨by first | rfl | simp, below_alloc (Below.refl _ _) _⟩
  by_cases h3 : a = 3
  · subst h3
    have e : okB 3 b = decide (1 ≤ b ∧ b ≤ 6) := by unfold okB okP; simp
    rw [e]
    go_enter Try.func88, Try.ntmps88
    go_wp2_with (go_at_call 65; refine (in_any _ _ _ _).mono ?_; rintro e w' ⟨rfl, rfl⟩)
    go_ret
    exact ⟨by first | rfl | simp, below_alloc (Below.refl _ _) _⟩
  have e : okB a b = false := by unfold okB okP; simp [h0, h1, h2, h3]
  rw [e]
  have b0 : (a == 0) = false := by simpa using h0
  have b1 : (a == 1) = false := by simpa using h1
  have b2 : (a == 2) = false := by simpa using h2
  have b3 : (a == 3) = false := by simpa using h3
  go_enter Try.func88, Try.ntmps88
  go_wp2
  go_ret
  exact ⟨rfl, below_alloc (Below.refl _ _) _⟩
end Go.Proofs.Ytmklpbmlgjkbiaa.PS
end
section
namespace Go.Proofs.Ytmklpbmlgjkbiaa.PS
open Go.RowKit Go.Proofs.YtmklpbmlgjkbiaaW.PrintWords Go.Proofs.YtmklpbmlgjkbiaaW.PrintLast
set_option linter.unusedVariables false
set_option linter.unusedSimpArgs false
set_option maxRecDepth 100000
attribute [local go_sem high] eqA27
theorem ends_bool {w w' : World} {a b : Bool} (h : Aside0 (b = a)) (hb : Below w.heap.size w w') : Ending.returned (Value.bool a) = .returned (.bool b) ∧ Below w.heap.size w w' := ⟨by rw [h.out], hb⟩
def valB (k vk vn : Int) : Bool := decide (valP k vk vn)
theorem valB_8 (vk vn : Int) : valB 8 vk vn = (okB vk vn && ((vk == 1) && decide (1 ≤ vn))) := by
  unfold valB valP okB; by_cases a : vk = 1 <;> by_cases b : 1 ≤ vn <;> by_cases c : okP vk vn <;> simp [a, b, c]
theorem valB_13 (vk vn : Int) : valB 13 vk vn = ((vk == 1) && decide (0 ≤ vn ∧ vn ≤ 1)) := by
  unfold valB valP okP; by_cases a : vk = 1 <;> by_cases b : 0 ≤ vn ∧ vn ≤ 1 <;> simp [a, b] <;> omega
theorem valB_other (k vk vn : Int) (h8 : k ≠ 8) (h13 : k ≠ 13) : valB k vk vn = okB vk vn := by
  unfold valB valP okB; simp [h8, h13]
set_option maxHeartbeats 4000000 in
theorem valOp_any (k r s t vk vn : Int) (w : World) :
    Calls Try.prog 66 #[.agg #[.int .i64 k, .int .i64 r, .int .i64 s, .int .i64 t, .int .i64 vk, .int .i64 vn]] w fun e w' => e = .returned (.bool (valB k vk vn)) ∧ Below w.heap.size w w' := by
  by_cases h8 : k = 8
  · subst h8
    have hw := fun W : World => valok_any vk vn W
    obtain ⟨g, hg⟩ : ∃ g, g = valB 8 vk vn := ⟨_, rfl⟩
    obtain ⟨h, hh⟩ : ∃ h, h = okB vk vn := ⟨_, rfl⟩
    have HH := Aside0.mk (hg.trans (valB_8 vk vn))
    rw [← hg]
    rw [← hh] at hw HH
    clear hg hh
    by_cases h1 : vk = 1
    · subst h1
      simp only [beq_self_eq_true, Bool.true_and] at HH
      cases h
      · go_enter Try.func66, Try.ntmps66
        go_wp2_with (go_at_call 88; refine (hw _).mono ?_; rintro e w' ⟨rfl, hb⟩; obtain ⟨b1, b2⟩ := bcell hb)
        go_ret
        exact ends_bool HH (below_step (below_alloc (Below.refl _ _) _) hb)
      · go_enter Try.func66, Try.ntmps66
        go_wp2_with (go_at_call 88; refine (hw _).mono ?_; rintro e w' ⟨rfl, hb⟩; obtain ⟨b1, b2⟩ := bcell hb)
        go_ret
        exact ends_bool HH (below_step (below_alloc (Below.refl _ _) _) hb)
    · have c1 : (vk == 1) = false := by simpa using h1
      rw [c1, Bool.false_and, Bool.and_false] at HH
      cases h
      · go_enter Try.func66, Try.ntmps66
        go_wp2_with (go_at_call 88; refine (hw _).mono ?_; rintro e w' ⟨rfl, hb⟩; obtain ⟨b1, b2⟩ := bcell hb)
        go_ret
        exact ends_bool HH (below_step (below_alloc (Below.refl _ _) _) hb)
      · go_enter Try.func66, Try.ntmps66
        go_wp2_with (go_at_call 88; refine (hw _).mono ?_; rintro e w' ⟨rfl, hb⟩; obtain ⟨b1, b2⟩ := bcell hb)
        go_ret
        exact ends_bool HH (below_step (below_alloc (Below.refl _ _) _) hb)
  by_cases h13 : k = 13
  · subst h13
    obtain ⟨g, hg⟩ : ∃ g, g = valB 13 vk vn := ⟨_, rfl⟩
    have HH := Aside0.mk (hg.trans (valB_13 vk vn))
    rw [← hg]
    clear hg
    by_cases h1 : vk = 1
    · subst h1
      simp only [beq_self_eq_true, Bool.true_and] at HH
      have hw := fun W : World => in_any vn 0 1 W
      obtain ⟨h, hh⟩ : ∃ h, h = decide (0 ≤ vn ∧ vn ≤ 1) := ⟨_, rfl⟩
      rw [← hh] at hw HH
      clear hh
      go_enter Try.func66, Try.ntmps66
      go_wp2_with (go_at_call 65; refine (hw _).mono ?_; rintro e w' ⟨rfl, rfl⟩)
      go_ret
      exact ends_bool HH (below_alloc (Below.refl _ _) _)
    · have c1 : (vk == 1) = false := by simpa using h1
      rw [c1, Bool.false_and] at HH
      go_enter Try.func66, Try.ntmps66
      go_wp2
      go_ret
      exact ends_bool HH (below_alloc (Below.refl _ _) _)
  have HH := Aside0.mk (valB_other k vk vn h8 h13)
  have c8 : (k == 8) = false := by simpa using h8
  have c13 : (k == 13) = false := by simpa using h13
  have hw := fun W : World => valok_any vk vn W
  obtain ⟨g, hg⟩ : ∃ g, g = valB k vk vn := ⟨_, rfl⟩
  obtain ⟨h, hh⟩ : ∃ h, h = okB vk vn := ⟨_, rfl⟩
  rw [← hg]
  rw [← hg, ← hh] at HH
  rw [← hh] at hw
  clear hg hh
  go_enter Try.func66, Try.ntmps66
  go_wp2_with (go_at_call 88; refine (hw _).mono ?_; rintro e w' ⟨rfl, hb⟩; obtain ⟨b1, b2⟩ := bcell hb)
  go_ret
  exact ends_bool HH (below_step (below_alloc (Below.refl _ _) _) hb)
end Go.Proofs.Ytmklpbmlgjkbiaa.PS
end
section
namespace Go.Proofs.Ytmklpbmlgjkbiaa.PS
open Go.RowKit Go.Proofs.YtmklpbmlgjkbiaaW.PrintWords Go.Proofs.YtmklpbmlgjkbiaaW.PrintLast
set_option linter.unusedVariables false
set_option linter.unusedSimpArgs false
set_option maxRecDepth 100000
attribute [local go_sem high] eqA27
theorem in2_any (a b c : Int) (w : World) : Calls Try.prog 59 #[.int .i64 a, .int .i64 b, .int .i64 c] w fun e w' => e = .returned (.bool (decide (b ≤ a ∧ a ≤ c))) ∧ w = w' := by
  by_cases h1 : b ≤ a <;> by_cases h2 : a ≤ c <;> (go_enter Try.func59, Try.ntmps59; go_wp2; go_ret; exact ⟨by simp [h1, h2], rfl⟩)
theorem slot_any (a : Int) (w : World) : Calls Try.prog 60 #[.int .i64 a] w fun e w' => e = .returned (.bool (decide (0 ≤ a ∧ a ≤ 3))) ∧ w = w' := by
  go_enter Try.func60, Try.ntmps60
  go_wp2_with (go_at_call 59; refine (in2_any _ _ _ _).mono ?_; rintro e w' ⟨rfl, rfl⟩)
  go_ret
  exact ⟨by first | rfl | simp, rfl⟩
theorem to_any (a : Int) (w : World) : Calls Try.prog 61 #[.int .i64 a] w fun e w' => e = .returned (.bool (decide (0 ≤ a ∧ a ≤ 15))) ∧ w = w' := by
  go_enter Try.func61, Try.ntmps61
  go_wp2_with (go_at_call 59; refine (in2_any _ _ _ _).mono ?_; rintro e w' ⟨rfl, rfl⟩)
  go_ret
  exact ⟨by first | rfl | simp, rfl⟩
theorem cell_lt {w : World} {g i : Nat} {v : Value} (h : w.cell? ⟨g, i, none⟩ = some v) : g < w.heap.size := by
  by_cases hg : g < w.heap.size
  · exact hg
  · simp [World.cell?, Array.getElem?_eq_none (Nat.not_lt.1 hg)] at h
theorem own4 {w : World} {base : Nat} {ok : Nat → Prop} {v : Value} {a b c d : Bool} (h : Kd.R Kd.bool 4 w base ok v [a, b, c, d]) :
    ∃ g cap, v = .slice (some ⟨g, 0, none⟩) 4 cap ∧ base ≤ g ∧ w.cell? ⟨g, 0, none⟩ = some (.bool a) ∧ w.cell? ⟨g, 1, none⟩ = some (.bool b) ∧ w.cell? ⟨g, 2, none⟩ = some (.bool c) ∧ w.cell? ⟨g, 3, none⟩ = some (.bool d) := by
  obtain ⟨inner, ho⟩ := Kd.R_own h
  rcases ho.2 with ⟨_, h2⟩ | ⟨g, cap, cur, rfl, hg, _⟩
  · obtain ⟨A, c0, e, _, hC⟩ := Kd.R_reads h
    have := ho.2
    simp_all
  · exact ⟨g, cap, rfl, hg, (Kd.R_cell (xs := [a, b, c, d]) false h 0 (by omega) (by simp)).1, (Kd.R_cell (xs := [a, b, c, d]) false h 1 (by omega) (by simp)).1, (Kd.R_cell (xs := [a, b, c, d]) false h 2 (by omega) (by simp)).1, (Kd.R_cell (xs := [a, b, c, d]) false h 3 (by omega) (by simp)).1⟩
end Go.Proofs.Ytmklpbmlgjkbiaa.PS
end
section
namespace Go.Proofs.Ytmklpbmlgjkbiaa.PS
open Go.RowKit Go.Proofs.YtmklpbmlgjkbiaaW.PrintWords Go.Proofs.YtmklpbmlgjkbiaaW.PrintLast
set_option linter.unusedVariables false
set_option linter.unusedSimpArgs false
set_option maxRecDepth 100000
attribute [local go_sem high] eqA27
set_option maxHeartbeats 16000000 in
theorem specOp_main (k r s t vk vn : Int) (w : World) (g0 u0 u1 u2 u3 vb : Bool)
    (hForm : ∀ W, Calls Try.prog 57 #[.int .i64 k] W fun e w' => ∃ g c, e = .returned (.slice (some ⟨g, 0, none⟩) 4 c) ∧ Below W.heap.size W w' ∧ W.heap.size ≤ g ∧ w'.cell? ⟨g, 0, none⟩ = some (.bool u0) ∧ w'.cell? ⟨g, 1, none⟩ = some (.bool u1) ∧ w'.cell? ⟨g, 2, none⟩ = some (.bool u2) ∧ w'.cell? ⟨g, 3, none⟩ = some (.bool u3))
    (hVal : ∀ W, Calls Try.prog 58 #[.agg #[.int .i64 vk, .int .i64 vn]] W fun e w' => e = .returned (.bool vb) ∧ Below W.heap.size W w') (c8 : (k == 8) = false) (c13 : (k == 13) = false) (hvb : Aside0 (vb = true)) (hg : Aside0 (g0 = (((decide (0 ≤ r ∧ r ≤ 3) && u0) || r == 0) && (((decide (0 ≤ s ∧ s ≤ 3) && u1) || s == 0) && (((decide (0 ≤ t ∧ t ≤ 15) && u2) || t == 0) && (u3 || (vk == 0 && (vn == 0)))))))) :
    Calls Try.prog 23 #[.agg #[.int .i64 k, .int .i64 r, .int .i64 s, .int .i64 t, .int .i64 vk, .int .i64 vn]] w fun e w' => e = .returned (.bool g0) ∧ Below w.heap.size w w' := by
  have BK : Aside0 ((w.alloc (.cells #[.int .i64 k, .int .i64 r, .int .i64 s, .int .i64 t, .int .i64 vk, .int .i64 vn] 29)).heap[w.heap.size]? = some (.cells #[.int .i64 k, .int .i64 r, .int .i64 s, .int .i64 t, .int .i64 vk, .int .i64 vn] 29 (0, 0))) := ⟨blk_new _ _⟩
  have HB := Aside0.mk (Below.refl w.heap.size w)
  have hu27 := Try.underlying27
  have hu29 := Try.underlying29
  obtain rfl := hvb.out
  clear hvb
  go_enter Try.func23, Try.ntmps23
  go_wp2_with (first | (go_at_call 57; refine (hForm _).mono ?_; rintro e w' ⟨g, c, rfl, hb, hg, f0, f1, f2, f3⟩; have SZ := Aside0.mk (hb.size); have BK := Aside0.mk (blk_below (by (with_reducible repeat (first | refine blk_drewN ?_ _ | refine blk_drew ?_ | refine blk_alloc ?_ _)); exact BK.out) hb); have HB := Aside0.mk (below_step (by repeat (first | (with_reducible first | exact HB.out | apply below_alloc | apply pw_below_drewN | apply below_drew1) | exact HB.out)) hb); have q0 : w'.cell? ⟨w.heap.size, 0, none⟩ = some (.int .i64 k) := (blk_cell BK.out 0).trans rfl; have q1 : w'.cell? ⟨w.heap.size, 1, none⟩ = some (.int .i64 r) := (blk_cell BK.out 1).trans rfl; have q2 : w'.cell? ⟨w.heap.size, 2, none⟩ = some (.int .i64 s) := (blk_cell BK.out 2).trans rfl; have q3 : w'.cell? ⟨w.heap.size, 3, none⟩ = some (.int .i64 t) := (blk_cell BK.out 3).trans rfl; have q4 : w'.cell? ⟨w.heap.size, 4, none⟩ = some (.int .i64 vk) := (blk_cell BK.out 4).trans rfl; have q5 : w'.cell? ⟨w.heap.size, 5, none⟩ = some (.int .i64 vn) := (blk_cell BK.out 5).trans rfl; have GS := Aside0.mk (cell_lt f0); have P0 := Aside0.mk f0; have P1 := Aside0.mk f1; have P2 := Aside0.mk f2; have P3 := Aside0.mk f3; clear hb hg) | (go_at_call 58; refine (hVal _).mono ?_; rintro e w'2 ⟨rfl, hb⟩; have P0 := Aside0.mk ((hb.cell (p := ⟨g, 0, none⟩) GS.out).trans P0.out); have P1 := Aside0.mk ((hb.cell (p := ⟨g, 1, none⟩) GS.out).trans P1.out); have P2 := Aside0.mk ((hb.cell (p := ⟨g, 2, none⟩) GS.out).trans P2.out); have P3 := Aside0.mk ((hb.cell (p := ⟨g, 3, none⟩) GS.out).trans P3.out); have BK := Aside0.mk (blk_below (by (with_reducible repeat (first | refine blk_drewN ?_ _ | refine blk_drew ?_ | refine blk_alloc ?_ _)); exact BK.out) hb); have HB := Aside0.mk (below_step (by repeat (first | (with_reducible first | exact HB.out | apply below_alloc | apply pw_below_drewN | apply below_drew1) | exact HB.out)) hb); have q0 : w'2.cell? ⟨w.heap.size, 0, none⟩ = some (.int .i64 k) := (blk_cell BK.out 0).trans rfl; have q1 : w'2.cell? ⟨w.heap.size, 1, none⟩ = some (.int .i64 r) := (blk_cell BK.out 1).trans rfl; have q2 : w'2.cell? ⟨w.heap.size, 2, none⟩ = some (.int .i64 s) := (blk_cell BK.out 2).trans rfl; have q3 : w'2.cell? ⟨w.heap.size, 3, none⟩ = some (.int .i64 t) := (blk_cell BK.out 3).trans rfl; have q4 : w'2.cell? ⟨w.heap.size, 4, none⟩ = some (.int .i64 vk) := (blk_cell BK.out 4).trans rfl; have q5 : w'2.cell? ⟨w.heap.size, 5, none⟩ = some (.int .i64 vn) := (blk_cell BK.out 5).trans rfl; have f0 := P0.out; have f1 := P1.out; have f2 := P2.out; have f3 := P3.out; clear hb) | (go_at_call 59; refine (in2_any _ _ _ _).mono ?_; rintro e w' ⟨rfl, rfl⟩) | (go_at_call 60; refine (slot_any _ _).mono ?_; rintro e w' ⟨rfl, rfl⟩) | (go_at_call 61; refine (to_any _ _).mono ?_; rintro e w' ⟨rfl, rfl⟩))
  all_goals go_ret
  all_goals refine ⟨?_, HB.out⟩
  all_goals (rw [hg.out]; simp [*])
end Go.Proofs.Ytmklpbmlgjkbiaa.PS
end
section
namespace Go.Proofs.Ytmklpbmlgjkbiaa.PS
open Go.RowKit Go.Proofs.YtmklpbmlgjkbiaaW.PrintWords Go.Proofs.YtmklpbmlgjkbiaaW.PrintLast
set_option linter.unusedVariables false
set_option linter.unusedSimpArgs false
set_option maxRecDepth 100000
attribute [local go_sem high] eqA27
set_option maxHeartbeats 16000000 in
theorem specOp_8 (r s t vn : Int) (w : World) (g0 u0 u1 u2 u3 vb : Bool)
    (hForm : ∀ W, Calls Try.prog 57 #[.int .i64 8] W fun e w' => ∃ g c, e = .returned (.slice (some ⟨g, 0, none⟩) 4 c) ∧ Below W.heap.size W w' ∧ W.heap.size ≤ g ∧ w'.cell? ⟨g, 0, none⟩ = some (.bool u0) ∧ w'.cell? ⟨g, 1, none⟩ = some (.bool u1) ∧ w'.cell? ⟨g, 2, none⟩ = some (.bool u2) ∧ w'.cell? ⟨g, 3, none⟩ = some (.bool u3))
    (hVal : ∀ W, Calls Try.prog 58 #[.agg #[.int .i64 1, .int .i64 vn]] W fun e w' => e = .returned (.bool vb) ∧ Below W.heap.size W w') (hvn : 1 ≤ vn) (hvb : Aside0 (vb = true)) (hg : Aside0 (g0 = (((decide (0 ≤ r ∧ r ≤ 3) && u0) || r == 0) && (((decide (0 ≤ s ∧ s ≤ 3) && u1) || s == 0) && (((decide (0 ≤ t ∧ t ≤ 15) && u2) || t == 0) && (u3 || ((1 : Int) == 0 && (vn == 0)))))))) :
    Calls Try.prog 23 #[.agg #[.int .i64 8, .int .i64 r, .int .i64 s, .int .i64 t, .int .i64 1, .int .i64 vn]] w fun e w' => e = .returned (.bool g0) ∧ Below w.heap.size w w' := by
  have BK : Aside0 ((w.alloc (.cells #[.int .i64 8, .int .i64 r, .int .i64 s, .int .i64 t, .int .i64 1, .int .i64 vn] 29)).heap[w.heap.size]? = some (.cells #[.int .i64 8, .int .i64 r, .int .i64 s, .int .i64 t, .int .i64 1, .int .i64 vn] 29 (0, 0))) := ⟨blk_new _ _⟩
  have HB := Aside0.mk (Below.refl w.heap.size w)
  have hu27 := Try.underlying27
  have hu29 := Try.underlying29
  obtain rfl := hvb.out
  clear hvb
  go_enter Try.func23, Try.ntmps23
  go_wp2_with (first | (go_at_call 57; refine (hForm _).mono ?_; rintro e w' ⟨g, c, rfl, hb, hg, f0, f1, f2, f3⟩; have SZ := Aside0.mk (hb.size); have BK := Aside0.mk (blk_below (by (with_reducible repeat (first | refine blk_drewN ?_ _ | refine blk_drew ?_ | refine blk_alloc ?_ _)); exact BK.out) hb); have HB := Aside0.mk (below_step (by repeat (first | (with_reducible first | exact HB.out | apply below_alloc | apply pw_below_drewN | apply below_drew1) | exact HB.out)) hb); have q0 : w'.cell? ⟨w.heap.size, 0, none⟩ = some (.int .i64 8) := (blk_cell BK.out 0).trans rfl; have q1 : w'.cell? ⟨w.heap.size, 1, none⟩ = some (.int .i64 r) := (blk_cell BK.out 1).trans rfl; have q2 : w'.cell? ⟨w.heap.size, 2, none⟩ = some (.int .i64 s) := (blk_cell BK.out 2).trans rfl; have q3 : w'.cell? ⟨w.heap.size, 3, none⟩ = some (.int .i64 t) := (blk_cell BK.out 3).trans rfl; have q4 : w'.cell? ⟨w.heap.size, 4, none⟩ = some (.int .i64 1) := (blk_cell BK.out 4).trans rfl; have q5 : w'.cell? ⟨w.heap.size, 5, none⟩ = some (.int .i64 vn) := (blk_cell BK.out 5).trans rfl; have GS := Aside0.mk (cell_lt f0); have P0 := Aside0.mk f0; have P1 := Aside0.mk f1; have P2 := Aside0.mk f2; have P3 := Aside0.mk f3; clear hb hg) | (go_at_call 58; refine (hVal _).mono ?_; rintro e w'2 ⟨rfl, hb⟩; have P0 := Aside0.mk ((hb.cell (p := ⟨g, 0, none⟩) GS.out).trans P0.out); have P1 := Aside0.mk ((hb.cell (p := ⟨g, 1, none⟩) GS.out).trans P1.out); have P2 := Aside0.mk ((hb.cell (p := ⟨g, 2, none⟩) GS.out).trans P2.out); have P3 := Aside0.mk ((hb.cell (p := ⟨g, 3, none⟩) GS.out).trans P3.out); have BK := Aside0.mk (blk_below (by (with_reducible repeat (first | refine blk_drewN ?_ _ | refine blk_drew ?_ | refine blk_alloc ?_ _)); exact BK.out) hb); have HB := Aside0.mk (below_step (by repeat (first | (with_reducible first | exact HB.out | apply below_alloc | apply pw_below_drewN | apply below_drew1) | exact HB.out)) hb); have q0 : w'2.cell? ⟨w.heap.size, 0, none⟩ = some (.int .i64 8) := (blk_cell BK.out 0).trans rfl; have q1 : w'2.cell? ⟨w.heap.size, 1, none⟩ = some (.int .i64 r) := (blk_cell BK.out 1).trans rfl; have q2 : w'2.cell? ⟨w.heap.size, 2, none⟩ = some (.int .i64 s) := (blk_cell BK.out 2).trans rfl; have q3 : w'2.cell? ⟨w.heap.size, 3, none⟩ = some (.int .i64 t) := (blk_cell BK.out 3).trans rfl; have q4 : w'2.cell? ⟨w.heap.size, 4, none⟩ = some (.int .i64 1) := (blk_cell BK.out 4).trans rfl; have q5 : w'2.cell? ⟨w.heap.size, 5, none⟩ = some (.int .i64 vn) := (blk_cell BK.out 5).trans rfl; have f0 := P0.out; have f1 := P1.out; have f2 := P2.out; have f3 := P3.out; clear hb) | (go_at_call 59; refine (in2_any _ _ _ _).mono ?_; rintro e w' ⟨rfl, rfl⟩) | (go_at_call 60; refine (slot_any _ _).mono ?_; rintro e w' ⟨rfl, rfl⟩) | (go_at_call 61; refine (to_any _ _).mono ?_; rintro e w' ⟨rfl, rfl⟩))
  all_goals go_ret
  all_goals refine ⟨?_, HB.out⟩
  all_goals (rw [hg.out]; simp [*])
set_option maxHeartbeats 16000000 in
theorem specOp_13 (r s t vn : Int) (w : World) (g0 u0 u1 u2 u3 vb : Bool)
    (hForm : ∀ W, Calls Try.prog 57 #[.int .i64 13] W fun e w' => ∃ g c, e = .returned (.slice (some ⟨g, 0, none⟩) 4 c) ∧ Below W.heap.size W w' ∧ W.heap.size ≤ g ∧ w'.cell? ⟨g, 0, none⟩ = some (.bool u0) ∧ w'.cell? ⟨g, 1, none⟩ = some (.bool u1) ∧ w'.cell? ⟨g, 2, none⟩ = some (.bool u2) ∧ w'.cell? ⟨g, 3, none⟩ = some (.bool u3))
    (hVal : ∀ W, Calls Try.prog 58 #[.agg #[.int .i64 1, .int .i64 vn]] W fun e w' => e = .returned (.bool vb) ∧ Below W.heap.size W w') (hvn : 0 ≤ vn) (hvn' : vn ≤ 1) (hvb : Aside0 (vb = true)) (hg : Aside0 (g0 = (((decide (0 ≤ r ∧ r ≤ 3) && u0) || r == 0) && (((decide (0 ≤ s ∧ s ≤ 3) && u1) || s == 0) && (((decide (0 ≤ t ∧ t ≤ 15) && u2) || t == 0) && (u3 || ((1 : Int) == 0 && (vn == 0)))))))) :
    Calls Try.prog 23 #[.agg #[.int .i64 13, .int .i64 r, .int .i64 s, .int .i64 t, .int .i64 1, .int .i64 vn]] w fun e w' => e = .returned (.bool g0) ∧ Below w.heap.size w w' := by
  have BK : Aside0 ((w.alloc (.cells #[.int .i64 13, .int .i64 r, .int .i64 s, .int .i64 t, .int .i64 1, .int .i64 vn] 29)).heap[w.heap.size]? = some (.cells #[.int .i64 13, .int .i64 r, .int .i64 s, .int .i64 t, .int .i64 1, .int .i64 vn] 29 (0, 0))) := ⟨blk_new _ _⟩
  have HB := Aside0.mk (Below.refl w.heap.size w)
  have hu27 := Try.underlying27
  have hu29 := Try.underlying29
  obtain rfl := hvb.out
  clear hvb
  go_enter Try.func23, Try.ntmps23
  go_wp2_with (first | (go_at_call 57; refine (hForm _).mono ?_; rintro e w' ⟨g, c, rfl, hb, hg, f0, f1, f2, f3⟩; have SZ := Aside0.mk (hb.size); have BK := Aside0.mk (blk_below (by (with_reducible repeat (first | refine blk_drewN ?_ _ | refine blk_drew ?_ | refine blk_alloc ?_ _)); exact BK.out) hb); have HB := Aside0.mk (below_step (by repeat (first | (with_reducible first | exact HB.out | apply below_alloc | apply pw_below_drewN | apply below_drew1) | exact HB.out)) hb); have q0 : w'.cell? ⟨w.heap.size, 0, none⟩ = some (.int .i64 13) := (blk_cell BK.out 0).trans rfl; have q1 : w'.cell? ⟨w.heap.size, 1, none⟩ = some (.int .i64 r) := (blk_cell BK.out 1).trans rfl; have q2 : w'.cell? ⟨w.heap.size, 2, none⟩ = some (.int .i64 s) := (blk_cell BK.out 2).trans rfl; have q3 : w'.cell? ⟨w.heap.size, 3, none⟩ = some (.int .i64 t) := (blk_cell BK.out 3).trans rfl; have q4 : w'.cell? ⟨w.heap.size, 4, none⟩ = some (.int .i64 1) := (blk_cell BK.out 4).trans rfl; have q5 : w'.cell? ⟨w.heap.size, 5, none⟩ = some (.int .i64 vn) := (blk_cell BK.out 5).trans rfl; have GS := Aside0.mk (cell_lt f0); have P0 := Aside0.mk f0; have P1 := Aside0.mk f1; have P2 := Aside0.mk f2; have P3 := Aside0.mk f3; clear hb hg) | (go_at_call 58; refine (hVal _).mono ?_; rintro e w'2 ⟨rfl, hb⟩; have P0 := Aside0.mk ((hb.cell (p := ⟨g, 0, none⟩) GS.out).trans P0.out); have P1 := Aside0.mk ((hb.cell (p := ⟨g, 1, none⟩) GS.out).trans P1.out); have P2 := Aside0.mk ((hb.cell (p := ⟨g, 2, none⟩) GS.out).trans P2.out); have P3 := Aside0.mk ((hb.cell (p := ⟨g, 3, none⟩) GS.out).trans P3.out); have BK := Aside0.mk (blk_below (by (with_reducible repeat (first | refine blk_drewN ?_ _ | refine blk_drew ?_ | refine blk_alloc ?_ _)); exact BK.out) hb); have HB := Aside0.mk (below_step (by repeat (first | (with_reducible first | exact HB.out | apply below_alloc | apply pw_below_drewN | apply below_drew1) | exact HB.out)) hb); have q0 : w'2.cell? ⟨w.heap.size, 0, none⟩ = some (.int .i64 13) := (blk_cell BK.out 0).trans rfl; have q1 : w'2.cell? ⟨w.heap.size, 1, none⟩ = some (.int .i64 r) := (blk_cell BK.out 1).trans rfl; have q2 : w'2.cell? ⟨w.heap.size, 2, none⟩ = some (.int .i64 s) := (blk_cell BK.out 2).trans rfl; have q3 : w'2.cell? ⟨w.heap.size, 3, none⟩ = some (.int .i64 t) := (blk_cell BK.out 3).trans rfl; have q4 : w'2.cell? ⟨w.heap.size, 4, none⟩ = some (.int .i64 1) := (blk_cell BK.out 4).trans rfl; have q5 : w'2.cell? ⟨w.heap.size, 5, none⟩ = some (.int .i64 vn) := (blk_cell BK.out 5).trans rfl; have f0 := P0.out; have f1 := P1.out; have f2 := P2.out; have f3 := P3.out; clear hb) | (go_at_call 59; refine (in2_any _ _ _ _).mono ?_; rintro e w' ⟨rfl, rfl⟩) | (go_at_call 60; refine (slot_any _ _).mono ?_; rintro e w' ⟨rfl, rfl⟩) | (go_at_call 61; refine (to_any _ _).mono ?_; rintro e w' ⟨rfl, rfl⟩))
  all_goals go_ret
  all_goals refine ⟨?_, HB.out⟩
  all_goals (rw [hg.out]; simp [*])
end Go.Proofs.Ytmklpbmlgjkbiaa.PS
end
section
namespace Go.Proofs.Ytmklpbmlgjkbiaa.PS
open Go.RowKit Go.Proofs.YtmklpbmlgjkbiaaW.PrintWords Go.Proofs.YtmklpbmlgjkbiaaW.PrintLast
set_option linter.unusedVariables false
set_option linter.unusedSimpArgs false
set_option maxRecDepth 100000
attribute [local go_sem high] eqA27
set_option maxHeartbeats 16000000 in
theorem specOp_bad (k r s t vk vn : Int) (w : World) (g0 u0 u1 u2 u3 vb : Bool)
    (hForm : ∀ W, Calls Try.prog 57 #[.int .i64 k] W fun e w' => ∃ g c, e = .returned (.slice (some ⟨g, 0, none⟩) 4 c) ∧ Below W.heap.size W w' ∧ W.heap.size ≤ g ∧ w'.cell? ⟨g, 0, none⟩ = some (.bool u0) ∧ w'.cell? ⟨g, 1, none⟩ = some (.bool u1) ∧ w'.cell? ⟨g, 2, none⟩ = some (.bool u2) ∧ w'.cell? ⟨g, 3, none⟩ = some (.bool u3))
    (hVal : ∀ W, Calls Try.prog 58 #[.agg #[.int .i64 vk, .int .i64 vn]] W fun e w' => e = .returned (.bool vb) ∧ Below W.heap.size W w') (hvb : Aside0 (vb = false)) (hg : Aside0 (g0 = false)) :
    Calls Try.prog 23 #[.agg #[.int .i64 k, .int .i64 r, .int .i64 s, .int .i64 t, .int .i64 vk, .int .i64 vn]] w fun e w' => e = .returned (.bool g0) ∧ Below w.heap.size w w' := by
  have BK : Aside0 ((w.alloc (.cells #[.int .i64 k, .int .i64 r, .int .i64 s, .int .i64 t, .int .i64 vk, .int .i64 vn] 29)).heap[w.heap.size]? = some (.cells #[.int .i64 k, .int .i64 r, .int .i64 s, .int .i64 t, .int .i64 vk, .int .i64 vn] 29 (0, 0))) := ⟨blk_new _ _⟩
  have HB := Aside0.mk (Below.refl w.heap.size w)
  have hu27 := Try.underlying27
  have hu29 := Try.underlying29
  obtain rfl := hvb.out
  clear hvb
  obtain rfl := hg.out
  clear hg
  go_enter Try.func23, Try.ntmps23
  go_wp2_with (first | (go_at_call 57; refine (hForm _).mono ?_; rintro e w' ⟨g, c, rfl, hb, hg, f0, f1, f2, f3⟩; have SZ := Aside0.mk (hb.size); have BK := Aside0.mk (blk_below (by (with_reducible repeat (first | refine blk_drewN ?_ _ | refine blk_drew ?_ | refine blk_alloc ?_ _)); exact BK.out) hb); have HB := Aside0.mk (below_step (by repeat (first | (with_reducible first | exact HB.out | apply below_alloc | apply pw_below_drewN | apply below_drew1) | exact HB.out)) hb); have q0 : w'.cell? ⟨w.heap.size, 0, none⟩ = some (.int .i64 k) := (blk_cell BK.out 0).trans rfl; have q1 : w'.cell? ⟨w.heap.size, 1, none⟩ = some (.int .i64 r) := (blk_cell BK.out 1).trans rfl; have q2 : w'.cell? ⟨w.heap.size, 2, none⟩ = some (.int .i64 s) := (blk_cell BK.out 2).trans rfl; have q3 : w'.cell? ⟨w.heap.size, 3, none⟩ = some (.int .i64 t) := (blk_cell BK.out 3).trans rfl; have q4 : w'.cell? ⟨w.heap.size, 4, none⟩ = some (.int .i64 vk) := (blk_cell BK.out 4).trans rfl; have q5 : w'.cell? ⟨w.heap.size, 5, none⟩ = some (.int .i64 vn) := (blk_cell BK.out 5).trans rfl; have GS := Aside0.mk (cell_lt f0); have P0 := Aside0.mk f0; have P1 := Aside0.mk f1; have P2 := Aside0.mk f2; have P3 := Aside0.mk f3; clear hb hg) | (go_at_call 58; refine (hVal _).mono ?_; rintro e w'2 ⟨rfl, hb⟩; have P0 := Aside0.mk ((hb.cell (p := ⟨g, 0, none⟩) GS.out).trans P0.out); have P1 := Aside0.mk ((hb.cell (p := ⟨g, 1, none⟩) GS.out).trans P1.out); have P2 := Aside0.mk ((hb.cell (p := ⟨g, 2, none⟩) GS.out).trans P2.out); have P3 := Aside0.mk ((hb.cell (p := ⟨g, 3, none⟩) GS.out).trans P3.out); have BK := Aside0.mk (blk_below (by (with_reducible repeat (first | refine blk_drewN ?_ _ | refine blk_drew ?_ | refine blk_alloc ?_ _)); exact BK.out) hb); have HB := Aside0.mk (below_step (by repeat (first | (with_reducible first | exact HB.out | apply below_alloc | apply pw_below_drewN | apply below_drew1) | exact HB.out)) hb); have q0 : w'2.cell? ⟨w.heap.size, 0, none⟩ = some (.int .i64 k) := (blk_cell BK.out 0).trans rfl; have q1 : w'2.cell? ⟨w.heap.size, 1, none⟩ = some (.int .i64 r) := (blk_cell BK.out 1).trans rfl; have q2 : w'2.cell? ⟨w.heap.size, 2, none⟩ = some (.int .i64 s) := (blk_cell BK.out 2).trans rfl; have q3 : w'2.cell? ⟨w.heap.size, 3, none⟩ = some (.int .i64 t) := (blk_cell BK.out 3).trans rfl; have q4 : w'2.cell? ⟨w.heap.size, 4, none⟩ = some (.int .i64 vk) := (blk_cell BK.out 4).trans rfl; have q5 : w'2.cell? ⟨w.heap.size, 5, none⟩ = some (.int .i64 vn) := (blk_cell BK.out 5).trans rfl; have f0 := P0.out; have f1 := P1.out; have f2 := P2.out; have f3 := P3.out; clear hb) | (go_at_call 59; refine (in2_any _ _ _ _).mono ?_; rintro e w' ⟨rfl, rfl⟩) | (go_at_call 60; refine (slot_any _ _).mono ?_; rintro e w' ⟨rfl, rfl⟩) | (go_at_call 61; refine (to_any _ _).mono ?_; rintro e w' ⟨rfl, rfl⟩))
  all_goals go_ret
  all_goals exact ⟨rfl, HB.out⟩
set_option maxHeartbeats 16000000 in
theorem specOp_8k (r s t vk vn : Int) (w : World) (g0 u0 u1 u2 u3 vb : Bool)
    (hForm : ∀ W, Calls Try.prog 57 #[.int .i64 8] W fun e w' => ∃ g c, e = .returned (.slice (some ⟨g, 0, none⟩) 4 c) ∧ Below W.heap.size W w' ∧ W.heap.size ≤ g ∧ w'.cell? ⟨g, 0, none⟩ = some (.bool u0) ∧ w'.cell? ⟨g, 1, none⟩ = some (.bool u1) ∧ w'.cell? ⟨g, 2, none⟩ = some (.bool u2) ∧ w'.cell? ⟨g, 3, none⟩ = some (.bool u3))
    (hVal : ∀ W, Calls Try.prog 58 #[.agg #[.int .i64 vk, .int .i64 vn]] W fun e w' => e = .returned (.bool vb) ∧ Below W.heap.size W w') (hvk : (vk == 1) = false) (hvk2 : (vk != 1) = true) (hvb : Aside0 (vb = true)) (hg : Aside0 (g0 = false)) :
    Calls Try.prog 23 #[.agg #[.int .i64 8, .int .i64 r, .int .i64 s, .int .i64 t, .int .i64 vk, .int .i64 vn]] w fun e w' => e = .returned (.bool g0) ∧ Below w.heap.size w w' := by
  have BK : Aside0 ((w.alloc (.cells #[.int .i64 8, .int .i64 r, .int .i64 s, .int .i64 t, .int .i64 vk, .int .i64 vn] 29)).heap[w.heap.size]? = some (.cells #[.int .i64 8, .int .i64 r, .int .i64 s, .int .i64 t, .int .i64 vk, .int .i64 vn] 29 (0, 0))) := ⟨blk_new _ _⟩
  have HB := Aside0.mk (Below.refl w.heap.size w)
  have hu27 := Try.underlying27
  have hu29 := Try.underlying29
  obtain rfl := hvb.out
  clear hvb
  obtain rfl := hg.out
  clear hg
  go_enter Try.func23, Try.ntmps23
  go_wp2_with (first | (go_at_call 57; refine (hForm _).mono ?_; rintro e w' ⟨g, c, rfl, hb, hg, f0, f1, f2, f3⟩; have SZ := Aside0.mk (hb.size); have BK := Aside0.mk (blk_below (by (with_reducible repeat (first | refine blk_drewN ?_ _ | refine blk_drew ?_ | refine blk_alloc ?_ _)); exact BK.out) hb); have HB := Aside0.mk (below_step (by repeat (first | (with_reducible first | exact HB.out | apply below_alloc | apply pw_below_drewN | apply below_drew1) | exact HB.out)) hb); have q0 : w'.cell? ⟨w.heap.size, 0, none⟩ = some (.int .i64 8) := (blk_cell BK.out 0).trans rfl; have q1 : w'.cell? ⟨w.heap.size, 1, none⟩ = some (.int .i64 r) := (blk_cell BK.out 1).trans rfl; have q2 : w'.cell? ⟨w.heap.size, 2, none⟩ = some (.int .i64 s) := (blk_cell BK.out 2).trans rfl; have q3 : w'.cell? ⟨w.heap.size, 3, none⟩ = some (.int .i64 t) := (blk_cell BK.out 3).trans rfl; have q4 : w'.cell? ⟨w.heap.size, 4, none⟩ = some (.int .i64 vk) := (blk_cell BK.out 4).trans rfl; have q5 : w'.cell? ⟨w.heap.size, 5, none⟩ = some (.int .i64 vn) := (blk_cell BK.out 5).trans rfl; have GS := Aside0.mk (cell_lt f0); have P0 := Aside0.mk f0; have P1 := Aside0.mk f1; have P2 := Aside0.mk f2; have P3 := Aside0.mk f3; clear hb hg) | (go_at_call 58; refine (hVal _).mono ?_; rintro e w'2 ⟨rfl, hb⟩; have P0 := Aside0.mk ((hb.cell (p := ⟨g, 0, none⟩) GS.out).trans P0.out); have P1 := Aside0.mk ((hb.cell (p := ⟨g, 1, none⟩) GS.out).trans P1.out); have P2 := Aside0.mk ((hb.cell (p := ⟨g, 2, none⟩) GS.out).trans P2.out); have P3 := Aside0.mk ((hb.cell (p := ⟨g, 3, none⟩) GS.out).trans P3.out); have BK := Aside0.mk (blk_below (by (with_reducible repeat (first | refine blk_drewN ?_ _ | refine blk_drew ?_ | refine blk_alloc ?_ _)); exact BK.out) hb); have HB := Aside0.mk (below_step (by repeat (first | (with_reducible first | exact HB.out | apply below_alloc | apply pw_below_drewN | apply below_drew1) | exact HB.out)) hb); have q0 : w'2.cell? ⟨w.heap.size, 0, none⟩ = some (.int .i64 8) := (blk_cell BK.out 0).trans rfl; have q1 : w'2.cell? ⟨w.heap.size, 1, none⟩ = some (.int .i64 r) := (blk_cell BK.out 1).trans rfl; have q2 : w'2.cell? ⟨w.heap.size, 2, none⟩ = some (.int .i64 s) := (blk_cell BK.out 2).trans rfl; have q3 : w'2.cell? ⟨w.heap.size, 3, none⟩ = some (.int .i64 t) := (blk_cell BK.out 3).trans rfl; have q4 : w'2.cell? ⟨w.heap.size, 4, none⟩ = some (.int .i64 vk) := (blk_cell BK.out 4).trans rfl; have q5 : w'2.cell? ⟨w.heap.size, 5, none⟩ = some (.int .i64 vn) := (blk_cell BK.out 5).trans rfl; have f0 := P0.out; have f1 := P1.out; have f2 := P2.out; have f3 := P3.out; clear hb) | (go_at_call 59; refine (in2_any _ _ _ _).mono ?_; rintro e w' ⟨rfl, rfl⟩) | (go_at_call 60; refine (slot_any _ _).mono ?_; rintro e w' ⟨rfl, rfl⟩) | (go_at_call 61; refine (to_any _ _).mono ?_; rintro e w' ⟨rfl, rfl⟩))
  all_goals go_ret
  all_goals exact ⟨rfl, HB.out⟩
set_option maxHeartbeats 16000000 in
theorem specOp_8n (r s t vn : Int) (w : World) (g0 u0 u1 u2 u3 vb : Bool)
    (hForm : ∀ W, Calls Try.prog 57 #[.int .i64 8] W fun e w' => ∃ g c, e = .returned (.slice (some ⟨g, 0, none⟩) 4 c) ∧ Below W.heap.size W w' ∧ W.heap.size ≤ g ∧ w'.cell? ⟨g, 0, none⟩ = some (.bool u0) ∧ w'.cell? ⟨g, 1, none⟩ = some (.bool u1) ∧ w'.cell? ⟨g, 2, none⟩ = some (.bool u2) ∧ w'.cell? ⟨g, 3, none⟩ = some (.bool u3))
    (hVal : ∀ W, Calls Try.prog 58 #[.agg #[.int .i64 1, .int .i64 vn]] W fun e w' => e = .returned (.bool vb) ∧ Below W.heap.size W w') (hvn : vn < 1) (hvn2 : decide (vn < 1) = true) (hvb : Aside0 (vb = true)) (hg : Aside0 (g0 = false)) :
    Calls Try.prog 23 #[.agg #[.int .i64 8, .int .i64 r, .int .i64 s, .int .i64 t, .int .i64 1, .int .i64 vn]] w fun e w' => e = .returned (.bool g0) ∧ Below w.heap.size w w' := by
  have BK : Aside0 ((w.alloc (.cells #[.int .i64 8, .int .i64 r, .int .i64 s, .int .i64 t, .int .i64 1, .int .i64 vn] 29)).heap[w.heap.size]? = some (.cells #[.int .i64 8, .int .i64 r, .int .i64 s, .int .i64 t, .int .i64 1, .int .i64 vn] 29 (0, 0))) := ⟨blk_new _ _⟩
  have HB := Aside0.mk (Below.refl w.heap.size w)
  have hu27 := Try.underlying27
  have hu29 := Try.underlying29
  obtain rfl := hvb.out
  clear hvb
  obtain rfl := hg.out
  clear hg
  go_enter Try.func23, Try.ntmps23
  go_wp2_with (first | (go_at_call 57; refine (hForm _).mono ?_; rintro e w' ⟨g, c, rfl, hb, hg, f0, f1, f2, f3⟩; have SZ := Aside0.mk (hb.size); have BK := Aside0.mk (blk_below (by (with_reducible repeat (first | refine blk_drewN ?_ _ | refine blk_drew ?_ | refine blk_alloc ?_ _)); exact BK.out) hb); have HB := Aside0.mk (below_step (by repeat (first | (with_reducible first | exact HB.out | apply below_alloc | apply pw_below_drewN | apply below_drew1) | exact HB.out)) hb); have q0 : w'.cell? ⟨w.heap.size, 0, none⟩ = some (.int .i64 8) := (blk_cell BK.out 0).trans rfl; have q1 : w'.cell? ⟨w.heap.size, 1, none⟩ = some (.int .i64 r) := (blk_cell BK.out 1).trans rfl; have q2 : w'.cell? ⟨w.heap.size, 2, none⟩ = some (.int .i64 s) := (blk_cell BK.out 2).trans rfl; have q3 : w'.cell? ⟨w.heap.size, 3, none⟩ = some (.int .i64 t) := (blk_cell BK.out 3).trans rfl; have q4 : w'.cell? ⟨w.heap.size, 4, none⟩ = some (.int .i64 1) := (blk_cell BK.out 4).trans rfl; have q5 : w'.cell? ⟨w.heap.size, 5, none⟩ = some (.int .i64 vn) := (blk_cell BK.out 5).trans rfl; have GS := Aside0.mk (cell_lt f0); have P0 := Aside0.mk f0; have P1 := Aside0.mk f1; have P2 := Aside0.mk f2; have P3 := Aside0.mk f3; clear hb hg) | (go_at_call 58; refine (hVal _).mono ?_; rintro e w'2 ⟨rfl, hb⟩; have P0 := Aside0.mk ((hb.cell (p := ⟨g, 0, none⟩) GS.out).trans P0.out); have P1 := Aside0.mk ((hb.cell (p := ⟨g, 1, none⟩) GS.out).trans P1.out); have P2 := Aside0.mk ((hb.cell (p := ⟨g, 2, none⟩) GS.out).trans P2.out); have P3 := Aside0.mk ((hb.cell (p := ⟨g, 3, none⟩) GS.out).trans P3.out); have BK := Aside0.mk (blk_below (by (with_reducible repeat (first | refine blk_drewN ?_ _ | refine blk_drew ?_ | refine blk_alloc ?_ _)); exact BK.out) hb); have HB := Aside0.mk (below_step (by repeat (first | (with_reducible first | exact HB.out | apply below_alloc | apply pw_below_drewN | apply below_drew1) | exact HB.out)) hb); have q0 : w'2.cell? ⟨w.heap.size, 0, none⟩ = some (.int .i64 8) := (blk_cell BK.out 0).trans rfl; have q1 : w'2.cell? ⟨w.heap.size, 1, none⟩ = some (.int .i64 r) := (blk_cell BK.out 1).trans rfl; have q2 : w'2.cell? ⟨w.heap.size, 2, none⟩ = some (.int .i64 s) := (blk_cell BK.out 2).trans rfl; have q3 : w'2.cell? ⟨w.heap.size, 3, none⟩ = some (.int .i64 t) := (blk_cell BK.out 3).trans rfl; have q4 : w'2.cell? ⟨w.heap.size, 4, none⟩ = some (.int .i64 1) := (blk_cell BK.out 4).trans rfl; have q5 : w'2.cell? ⟨w.heap.size, 5, none⟩ = some (.int .i64 vn) := (blk_cell BK.out 5).trans rfl; have f0 := P0.out; have f1 := P1.out; have f2 := P2.out; have f3 := P3.out; clear hb) | (go_at_call 59; refine (in2_any _ _ _ _).mono ?_; rintro e w' ⟨rfl, rfl⟩) | (go_at_call 60; refine (slot_any _ _).mono ?_; rintro e w' ⟨rfl, rfl⟩) | (go_at_call 61; refine (to_any _ _).mono ?_; rintro e w' ⟨rfl, rfl⟩))
  all_goals go_ret
  all_goals exact ⟨rfl, HB.out⟩
set_option maxHeartbeats 16000000 in
theorem specOp_13k (r s t vk vn : Int) (w : World) (g0 u0 u1 u2 u3 vb : Bool)
    (hForm : ∀ W, Calls Try.prog 57 #[.int .i64 13] W fun e w' => ∃ g c, e = .returned (.slice (some ⟨g, 0, none⟩) 4 c) ∧ Below W.heap.size W w' ∧ W.heap.size ≤ g ∧ w'.cell? ⟨g, 0, none⟩ = some (.bool u0) ∧ w'.cell? ⟨g, 1, none⟩ = some (.bool u1) ∧ w'.cell? ⟨g, 2, none⟩ = some (.bool u2) ∧ w'.cell? ⟨g, 3, none⟩ = some (.bool u3))
    (hVal : ∀ W, Calls Try.prog 58 #[.agg #[.int .i64 vk, .int .i64 vn]] W fun e w' => e = .returned (.bool vb) ∧ Below W.heap.size W w') (hvk : (vk == 1) = false) (hvk2 : (vk != 1) = true) (hvb : Aside0 (vb = true)) (hg : Aside0 (g0 = false)) :
    Calls Try.prog 23 #[.agg #[.int .i64 13, .int .i64 r, .int .i64 s, .int .i64 t, .int .i64 vk, .int .i64 vn]] w fun e w' => e = .returned (.bool g0) ∧ Below w.heap.size w w' := by
  have BK : Aside0 ((w.alloc (.cells #[.int .i64 13, .int .i64 r, .int .i64 s, .int .i64 t, .int .i64 vk, .int .i64 vn] 29)).heap[w.heap.size]? = some (.cells #[.int .i64 13, .int .i64 r, .int .i64 s, .int .i64 t, .int .i64 vk, .int .i64 vn] 29 (0, 0))) := ⟨blk_new _ _⟩
  have HB := Aside0.mk (Below.refl w.heap.size w)
  have hu27 := Try.underlying27
  have hu29 := Try.underlying29
  obtain rfl := hvb.out
  clear hvb
  obtain rfl := hg.out
  clear hg
  go_enter Try.func23, Try.ntmps23
  go_wp2_with (first | (go_at_call 57; refine (hForm _).mono ?_; rintro e w' ⟨g, c, rfl, hb, hg, f0, f1, f2, f3⟩; have SZ := Aside0.mk (hb.size); have BK := Aside0.mk (blk_below (by (with_reducible repeat (first | refine blk_drewN ?_ _ | refine blk_drew ?_ | refine blk_alloc ?_ _)); exact BK.out) hb); have HB := Aside0.mk (below_step (by repeat (first | (with_reducible first | exact HB.out | apply below_alloc | apply pw_below_drewN | apply below_drew1) | exact HB.out)) hb); have q0 : w'.cell? ⟨w.heap.size, 0, none⟩ = some (.int .i64 13) := (blk_cell BK.out 0).trans rfl; have q1 : w'.cell? ⟨w.heap.size, 1, none⟩ = some (.int .i64 r) := (blk_cell BK.out 1).trans rfl; have q2 : w'.cell? ⟨w.heap.size, 2, none⟩ = some (.int .i64 s) := (blk_cell BK.out 2).trans rfl; have q3 : w'.cell? ⟨w.heap.size, 3, none⟩ = some (.int .i64 t) := (blk_cell BK.out 3).trans rfl; have q4 : w'.cell? ⟨w.heap.size, 4, none⟩ = some (.int .i64 vk) := (blk_cell BK.out 4).trans rfl; have q5 : w'.cell? ⟨w.heap.size, 5, none⟩ = some (.int .i64 vn) := (blk_cell BK.out 5).trans rfl; have GS := Aside0.mk (cell_lt f0); have P0 := Aside0.mk f0; have P1 := Aside0.mk f1; have P2 := Aside0.mk f2; have P3 := Aside0.mk f3; clear hb hg) | (go_at_call 58; refine (hVal _).mono ?_; rintro e w'2 ⟨rfl, hb⟩; have P0 := Aside0.mk ((hb.cell (p := ⟨g, 0, none⟩) GS.out).trans P0.out); have P1 := Aside0.mk ((hb.cell (p := ⟨g, 1, none⟩) GS.out).trans P1.out); have P2 := Aside0.mk ((hb.cell (p := ⟨g, 2, none⟩) GS.out).trans P2.out); have P3 := Aside0.mk ((hb.cell (p := ⟨g, 3, none⟩) GS.out).trans P3.out); have BK := Aside0.mk (blk_below (by (with_reducible repeat (first | refine blk_drewN ?_ _ | refine blk_drew ?_ | refine blk_alloc ?_ _)); exact BK.out) hb); have HB := Aside0.mk (below_step (by repeat (first | (with_reducible first | exact HB.out | apply below_alloc | apply pw_below_drewN | apply below_drew1) | exact HB.out)) hb); have q0 : w'2.cell? ⟨w.heap.size, 0, none⟩ = some (.int .i64 13) := (blk_cell BK.out 0).trans rfl; have q1 : w'2.cell? ⟨w.heap.size, 1, none⟩ = some (.int .i64 r) := (blk_cell BK.out 1).trans rfl; have q2 : w'2.cell? ⟨w.heap.size, 2, none⟩ = some (.int .i64 s) := (blk_cell BK.out 2).trans rfl; have q3 : w'2.cell? ⟨w.heap.size, 3, none⟩ = some (.int .i64 t) := (blk_cell BK.out 3).trans rfl; have q4 : w'2.cell? ⟨w.heap.size, 4, none⟩ = some (.int .i64 vk) := (blk_cell BK.out 4).trans rfl; have q5 : w'2.cell? ⟨w.heap.size, 5, none⟩ = some (.int .i64 vn) := (blk_cell BK.out 5).trans rfl; have f0 := P0.out; have f1 := P1.out; have f2 := P2.out; have f3 := P3.out; clear hb) | (go_at_call 59; refine (in2_any _ _ _ _).mono ?_; rintro e w' ⟨rfl, rfl⟩) | (go_at_call 60; refine (slot_any _ _).mono ?_; rintro e w' ⟨rfl, rfl⟩) | (go_at_call 61; refine (to_any _ _).mono ?_; rintro e w' ⟨rfl, rfl⟩))
  all_goals go_ret
  all_goals exact ⟨rfl, HB.out⟩
set_option maxHeartbeats 16000000 in
theorem specOp_13n (r s t vn : Int) (w : World) (g0 u0 u1 u2 u3 vb : Bool)
    (hForm : ∀ W, Calls Try.prog 57 #[.int .i64 13] W fun e w' => ∃ g c, e = .returned (.slice (some ⟨g, 0, none⟩) 4 c) ∧ Below W.heap.size W w' ∧ W.heap.size ≤ g ∧ w'.cell? ⟨g, 0, none⟩ = some (.bool u0) ∧ w'.cell? ⟨g, 1, none⟩ = some (.bool u1) ∧ w'.cell? ⟨g, 2, none⟩ = some (.bool u2) ∧ w'.cell? ⟨g, 3, none⟩ = some (.bool u3))
    (hVal : ∀ W, Calls Try.prog 58 #[.agg #[.int .i64 1, .int .i64 vn]] W fun e w' => e = .returned (.bool vb) ∧ Below W.heap.size W w') (hvn : Aside0 (decide (0 ≤ vn ∧ vn ≤ 1) = false)) (hvb : Aside0 (vb = true)) (hg : Aside0 (g0 = false)) :
    Calls Try.prog 23 #[.agg #[.int .i64 13, .int .i64 r, .int .i64 s, .int .i64 t, .int .i64 1, .int .i64 vn]] w fun e w' => e = .returned (.bool g0) ∧ Below w.heap.size w w' := by
  have BK : Aside0 ((w.alloc (.cells #[.int .i64 13, .int .i64 r, .int .i64 s, .int .i64 t, .int .i64 1, .int .i64 vn] 29)).heap[w.heap.size]? = some (.cells #[.int .i64 13, .int .i64 r, .int .i64 s, .int .i64 t, .int .i64 1, .int .i64 vn] 29 (0, 0))) := ⟨blk_new _ _⟩
  have HB := Aside0.mk (Below.refl w.heap.size w)
  have hu27 := Try.underlying27
  have hu29 := Try.underlying29
  obtain rfl := hvb.out
  clear hvb
  obtain rfl := hg.out
  clear hg
  go_enter Try.func23, Try.ntmps23
  go_wp2_with (first | (go_at_call 57; refine (hForm _).mono ?_; rintro e w' ⟨g, c, rfl, hb, hg, f0, f1, f2, f3⟩; have SZ := Aside0.mk (hb.size); have BK := Aside0.mk (blk_below (by (with_reducible repeat (first | refine blk_drewN ?_ _ | refine blk_drew ?_ | refine blk_alloc ?_ _)); exact BK.out) hb); have HB := Aside0.mk (below_step (by repeat (first | (with_reducible first | exact HB.out | apply below_alloc | apply pw_below_drewN | apply below_drew1) | exact HB.out)) hb); have q0 : w'.cell? ⟨w.heap.size, 0, none⟩ = some (.int .i64 13) := (blk_cell BK.out 0).trans rfl; have q1 : w'.cell? ⟨w.heap.size, 1, none⟩ = some (.int .i64 r) := (blk_cell BK.out 1).trans rfl; have q2 : w'.cell? ⟨w.heap.size, 2, none⟩ = some (.int .i64 s) := (blk_cell BK.out 2).trans rfl; have q3 : w'.cell? ⟨w.heap.size, 3, none⟩ = some (.int .i64 t) := (blk_cell BK.out 3).trans rfl; have q4 : w'.cell? ⟨w.heap.size, 4, none⟩ = some (.int .i64 1) := (blk_cell BK.out 4).trans rfl; have q5 : w'.cell? ⟨w.heap.size, 5, none⟩ = some (.int .i64 vn) := (blk_cell BK.out 5).trans rfl; have GS := Aside0.mk (cell_lt f0); have P0 := Aside0.mk f0; have P1 := Aside0.mk f1; have P2 := Aside0.mk f2; have P3 := Aside0.mk f3; clear hb hg) | (go_at_call 58; refine (hVal _).mono ?_; rintro e w'2 ⟨rfl, hb⟩; have P0 := Aside0.mk ((hb.cell (p := ⟨g, 0, none⟩) GS.out).trans P0.out); have P1 := Aside0.mk ((hb.cell (p := ⟨g, 1, none⟩) GS.out).trans P1.out); have P2 := Aside0.mk ((hb.cell (p := ⟨g, 2, none⟩) GS.out).trans P2.out); have P3 := Aside0.mk ((hb.cell (p := ⟨g, 3, none⟩) GS.out).trans P3.out); have BK := Aside0.mk (blk_below (by (with_reducible repeat (first | refine blk_drewN ?_ _ | refine blk_drew ?_ | refine blk_alloc ?_ _)); exact BK.out) hb); have HB := Aside0.mk (below_step (by repeat (first | (with_reducible first | exact HB.out | apply below_alloc | apply pw_below_drewN | apply below_drew1) | exact HB.out)) hb); have q0 : w'2.cell? ⟨w.heap.size, 0, none⟩ = some (.int .i64 13) := (blk_cell BK.out 0).trans rfl; have q1 : w'2.cell? ⟨w.heap.size, 1, none⟩ = some (.int .i64 r) := (blk_cell BK.out 1).trans rfl; have q2 : w'2.cell? ⟨w.heap.size, 2, none⟩ = some (.int .i64 s) := (blk_cell BK.out 2).trans rfl; have q3 : w'2.cell? ⟨w.heap.size, 3, none⟩ = some (.int .i64 t) := (blk_cell BK.out 3).trans rfl; have q4 : w'2.cell? ⟨w.heap.size, 4, none⟩ = some (.int .i64 1) := (blk_cell BK.out 4).trans rfl; have q5 : w'2.cell? ⟨w.heap.size, 5, none⟩ = some (.int .i64 vn) := (blk_cell BK.out 5).trans rfl; have f0 := P0.out; have f1 := P1.out; have f2 := P2.out; have f3 := P3.out; clear hb) | (go_at_call 59; refine (in2_any _ _ _ _).mono ?_; rintro e w' ⟨rfl, rfl⟩; rw [hvn.out]) | (go_at_call 60; refine (slot_any _ _).mono ?_; rintro e w' ⟨rfl, rfl⟩) | (go_at_call 61; refine (to_any _ _).mono ?_; rintro e w' ⟨rfl, rfl⟩))
  all_goals go_ret
  all_goals exact ⟨rfl, HB.out⟩
end Go.Proofs.Ytmklpbmlgjkbiaa.PS
end
section
namespace Go.Proofs.Ytmklpbmlgjkbiaa.PS
open Go.RowKit Go.Proofs.YtmklpbmlgjkbiaaW.PrintWords Go.Proofs.YtmklpbmlgjkbiaaW.PrintLast
set_option linter.unusedVariables false
set_option maxRecDepth 100000
theorem form_eq (k : Int) : spec_l2Form.f 3 k = some (formL k) := by
  refine kinds (P := fun k => spec_l2Form.f 3 k = some (formL k)) (fun k hk => ?_) (by decide) (by decide) (by decide) (by decide) (by decide) (by decide) (by decide) (by decide) (by decide) (by decide) (by decide) (by decide) (by decide) (by decide) k
  unfold formL
  rw [if_neg hk]
  have h1 : k ≠ 1 := by omega
  have h2 : k ≠ 2 := by omega
  have h3 : k ≠ 3 := by omega
  have h4 : k ≠ 4 := by omega
  have h5 : k ≠ 5 := by omega
  have h6 : k ≠ 6 := by omega
  have h7 : k ≠ 7 := by omega
  have h8 : k ≠ 8 := by omega
  have h9 : k ≠ 9 := by omega
  have h10 : k ≠ 10 := by omega
  have h11 : k ≠ 11 := by omega
  have h12 : k ≠ 12 := by omega
  have h13 : k ≠ 13 := by omega
  have h14 : k ≠ 14 := by omega
  simp [spec_l2Form.f, spec_l2Form.j0, spec_l2Form.j1, h1, h2, h3, h4, h5, h6, h7, h8, h9, h10, h11, h12, h13, h14]
theorem form_calls {k : Int} (hk : 1 ≤ k ∧ k ≤ 14) (W : World) : Calls Try.prog 57 #[.int .i64 k] W fun e w' => ∃ g c, e = .returned (.slice (some ⟨g, 0, none⟩) 4 c) ∧ Below W.heap.size W w' ∧ W.heap.size ≤ g ∧ w'.cell? ⟨g, 0, none⟩ = some (.bool (hasR k)) ∧ w'.cell? ⟨g, 1, none⟩ = some (.bool (hasS k)) ∧ w'.cell? ⟨g, 2, none⟩ = some (.bool (hasT k)) ∧ w'.cell? ⟨g, 3, none⟩ = some (.bool (hasV k)) := by
  refine (spec_l2Form.calls 3 k (formL k) W (form_eq k)).mono ?_
  rintro e w' ⟨v, rfl, hR, hb⟩
  have : formL k = [hasR k, hasS k, hasT k, hasV k] := if_pos hk
  rw [this] at hR
  obtain ⟨g, c, rfl, hg, q0, q1, q2, q3⟩ := own4 hR
  exact ⟨g, c, rfl, hb, hg, q0, q1, q2, q3⟩
theorem sok_eq (k n : Int) : spec_ValOk.f k n = some (okB k n) := by
  unfold spec_ValOk.f spec_l6In.f okB okP
  by_cases h0 : k = 0
  · subst h0; by_cases hn : n = 0 <;> simp [hn]
  rw [if_neg h0]
  by_cases h1 : k = 1
  · subst h1; by_cases a : n ≥ -99 <;> simp [a] <;> omega
  rw [if_neg h1]
  by_cases h2 : k = 2
  · subst h2; by_cases a : n ≥ 0 <;> simp [a] <;> omega
  rw [if_neg h2]
  by_cases h3 : k = 3
  · subst h3; by_cases a : n ≥ 1 <;> simp [a] <;> omega
  rw [if_neg h3]; simp [h0, h1, h2, h3]
theorem opB_form (k r s t vk vn : Int) (hk : 1 ≤ k ∧ k ≤ 14) (hv : valP k vk vn) : opB k r s t vk vn = (((decide (0 ≤ r ∧ r ≤ 3) && hasR k) || r == 0) && (((decide (0 ≤ s ∧ s ≤ 3) && hasS k) || s == 0) && (((decide (0 ≤ t ∧ t ≤ 15) && hasT k) || t == 0) && (hasV k || (vk == 0 && (vn == 0)))))) := by
  have e : ∀ x y : Int, (x == y) = decide (x = y) := fun x y => by by_cases h : x = y <;> simp [h]
  have sw : ∀ (a b c : Prop), ((a ∧ b) ∨ c) ↔ (c ∨ (b ∧ a)) := fun a b c => ⟨fun h => h.elim (fun g => .inr ⟨g.2, g.1⟩) .inl, fun h => h.elim .inr (fun g => .inl ⟨g.2, g.1⟩)⟩
  rw [Bool.eq_iff_iff]
  simp only [opB, decide_eq_true_eq, Bool.and_eq_true, Bool.or_eq_true, e, sw]
  exact ⟨fun h => h.2.2, fun h => ⟨hk, hv, h⟩⟩
theorem opB_bad {k r s t vk vn : Int} (h : ¬ (1 ≤ k ∧ k ≤ 14) ∨ ¬ valP k vk vn) : opB k r s t vk vn = false := opB_false.2 (fun g => h.elim (fun a => a g.1) (fun a => a g.2.1))
set_option maxHeartbeats 1000000 in
theorem specOp_none (k r s t vk vn : Int) (w : World) (hk : ¬ (1 ≤ k ∧ k ≤ 14)) :
    Calls Try.prog 23 #[.agg #[.int .i64 k, .int .i64 r, .int .i64 s, .int .i64 t, .int .i64 vk, .int .i64 vn]] w fun e w' => e = .returned (.bool false) ∧ Below w.heap.size w w' := by
  have hForm : ∀ W : World, Calls Try.prog 57 #[.int .i64 k] W fun e w' => ∃ A c, e = .returned (.slice A 0 c) ∧ Below W.heap.size W w' := fun W => by
    refine (spec_l2Form.calls 3 k (formL k) W (form_eq k)).mono ?_
    rintro e w' ⟨v, rfl, hR, hb⟩
    have : formL k = [] := if_neg hk
    rw [this] at hR
    obtain ⟨A, c, rfl⟩ := Kd.R_slice hR
    exact ⟨A, c, rfl, hb⟩
  clear hk
  have HB := Aside0.mk (Below.refl w.heap.size w)
  go_enter Try.func23, Try.ntmps23
  go_wp2_with (go_at_call 57; refine (hForm _).mono ?_; rintro e w' ⟨A, c, rfl, hb⟩)
  go_ret
  exact ⟨rfl, below_step (below_alloc (Below.refl _ _) _) hb⟩
theorem spec_OpOk.calls (k r s t vk vn : Int) (b : Bool) (w : World) (h : opV.f k r s t vk vn = some b) :
    Calls Try.prog 23 #[.agg #[.int .i64 k, .int .i64 r, .int .i64 s, .int .i64 t, .int .i64 vk, .int .i64 vn]] w fun e w' => e = .returned (.bool b) ∧ Below w.heap.size w w' := by
  obtain rfl := Option.some.inj h
  by_cases hk : 1 ≤ k ∧ k ≤ 14
  rotate_left
  · rw [opB_bad (.inl hk)]; exact specOp_none k r s t vk vn w hk
  have hForm := fun W => form_calls hk W
  have hVal := fun W => spec_ValOk.calls vk vn (okB vk vn) W (sok_eq vk vn)
  by_cases hv : okP vk vn
  rotate_left
  · rw [opB_bad (.inr (fun g => hv g.1))]
    exact specOp_bad k r s t vk vn w false _ _ _ _ (okB vk vn) hForm hVal ⟨okB_false.2 hv⟩ ⟨rfl⟩
  have hvb : Aside0 (okB vk vn = true) := ⟨okB_true.2 hv⟩
  by_cases h8 : k = 8
  · by_cases h1 : vk = 1
    · by_cases hn : 1 ≤ vn
      · subst h8; subst h1; exact specOp_8 r s t vn w _ _ _ _ _ _ hForm hVal hn hvb ⟨opB_form 8 r s t 1 vn hk ⟨hv, fun _ => ⟨rfl, hn⟩, fun e => by omega⟩⟩
      · rw [opB_bad (.inr (fun g => hn (g.2.1 h8).2))]
        subst h8; subst h1; exact specOp_8n r s t vn w false _ _ _ _ _ hForm hVal (by omega) (decide_eq_true (by omega)) hvb ⟨rfl⟩
    · rw [opB_bad (.inr (fun g => h1 (g.2.1 h8).1))]
      subst h8; exact specOp_8k r s t vk vn w false _ _ _ _ _ hForm hVal (by simpa using h1) (by simpa using h1) hvb ⟨rfl⟩
  by_cases h13 : k = 13
  · by_cases h1 : vk = 1
    · by_cases hn : 0 ≤ vn ∧ vn ≤ 1
      · subst h13; subst h1; exact specOp_13 r s t vn w _ _ _ _ _ _ hForm hVal hn.1 hn.2 hvb ⟨opB_form 13 r s t 1 vn hk ⟨hv, fun e => by omega, fun _ => ⟨rfl, hn⟩⟩⟩
      · rw [opB_bad (.inr (fun g => hn (g.2.2 h13).2))]
        subst h13; subst h1; exact specOp_13n r s t vn w false _ _ _ _ _ hForm hVal ⟨decide_eq_false hn⟩ hvb ⟨rfl⟩
    · rw [opB_bad (.inr (fun g => h1 (g.2.2 h13).1))]
      subst h13; exact specOp_13k r s t vk vn w false _ _ _ _ _ hForm hVal (by simpa using h1) (by simpa using h1) hvb ⟨rfl⟩
  exact specOp_main k r s t vk vn w _ _ _ _ _ _ hForm hVal (by simpa using h8) (by simpa using h13) hvb ⟨opB_form k r s t vk vn hk ⟨hv, fun e => absurd e h8, fun e => absurd e h13⟩⟩
end Go.Proofs.Ytmklpbmlgjkbiaa.PS
end
section
namespace Go.Proofs.Ytmklpbmlgjkbiaa.PS
open Go.RowKit Go.Proofs.YtmklpbmlgjkbiaaW.PrintWords Go.Proofs.YtmklpbmlgjkbiaaW.PrintLast Go.Proofs.YtmklpbmlgjkbiaaW.PrintMore
attribute [local go_sem] max2_int min2_int max_two min_two max_three min_three max_four min_four   -- for this text's walks alone
set_option linter.unusedVariables false
set_option linter.unusedSimpArgs false
mutual
def spec_l2Uses.j0 : Nat → Int → Bool → Int → Int → Int → Int → Int → Int → Option (List Int)
  | 0, _, _, _, _, _, _, _, _ => none
  | k + 1, x4, x10, x110000, x110001, x110002, x110003, x110004, x110005 => if x10 = true then (some (([x110001, x110002] : List Int))) else (if x4 = 10 then (spec_l2Uses.j1 k (x4 == 10) x110000 x110001 x110002 x110003 x110004 x110005) else (if x4 = 11 then (spec_l2Uses.j1 k (x4 == 11) x110000 x110001 x110002 x110003 x110004 x110005) else (if x4 = 12 then (spec_l2Uses.j1 k (x4 == 12) x110000 x110001 x110002 x110003 x110004 x110005) else (spec_l2Uses.j1 k (x4 == 14) x110000 x110001 x110002 x110003 x110004 x110005))))
def spec_l2Uses.j1 : Nat → Bool → Int → Int → Int → Int → Int → Int → Option (List Int)
  | 0, _, _, _, _, _, _, _ => none
  | k + 1, x18, x110000, x110001, x110002, x110003, x110004, x110005 => if x18 = true then (some (([x110001] : List Int))) else (some (([] : List Int)))
end
def spec_l2Uses.f (k : Nat) (a0_0 : Int) (a0_1 : Int) (a0_2 : Int) (a0_3 : Int) (a0_4 : Int) (a0_5 : Int) : Option (List Int) := if a0_0 = 2 then (some (([a0_2] : List Int))) else (if a0_0 = 3 then (spec_l2Uses.j0 k a0_0 (a0_0 == 3) a0_0 a0_1 a0_2 a0_3 a0_4 a0_5) else (spec_l2Uses.j0 k a0_0 (a0_0 == 6) a0_0 a0_1 a0_2 a0_3 a0_4 a0_5))
set_option maxHeartbeats 8000000 in
set_option maxRecDepth 100000 in
theorem spec_l2Uses.calls (k : Nat) (a0_0 : Int) (a0_1 : Int) (a0_2 : Int) (a0_3 : Int) (a0_4 : Int) (a0_5 : Int) (r : List Int) (w : World) (h : spec_l2Uses.f k a0_0 a0_1 a0_2 a0_3 a0_4 a0_5 = some r) :
    Calls Try.prog 68 #[.agg #[.int .i64 a0_0, .int .i64 a0_1, .int .i64 a0_2, .int .i64 a0_3, .int .i64 a0_4, .int .i64 a0_5]] w fun e w' => ∃ v0_ : Value, e = .returned (v0_) ∧ Kd.R (Kd.int .i64) 3 w' w.heap.size (fun _ => True) v0_ r ∧ Below w.heap.size w w' := by
  have hu29 := Try.underlying29
  have HB := Aside0.mk (Below.refl w.heap.size w)
  have H : (if a0_0 = 2 then (some (([a0_2] : List Int))) else (if a0_0 = 3 then (spec_l2Uses.j0 k a0_0 (a0_0 == 3) a0_0 a0_1 a0_2 a0_3 a0_4 a0_5) else (spec_l2Uses.j0 k a0_0 (a0_0 == 6) a0_0 a0_1 a0_2 a0_3 a0_4 a0_5))) = some r := h
  clear h
  by_cases c2 : a0_0 = 2
  · rw [if_pos c2] at H
    have c2b0 : (a0_0 == 2) = true := beq_iff_eq.mpr c2
    have c2b1 : (a0_0 != 2) = false := bne_eq_false_iff_eq.mpr c2
    clear c2
    obtain ⟨y110, hy110⟩ : ∃ y_ : List Int, y_ = (([a0_2] : List Int)) := ⟨_, rfl⟩
    replace H : (some y110) = some r := by first | (rw [hy110]; with_reducible exact H) | (have H2_ := (Option.bind_some _ _).symm.trans H; rw [hy110]; with_reducible exact H2_) | (have H2_ := (Option.bind_some _ _).symm.trans H; with_reducible exact H2_) | with_reducible exact H | (rw [hy110]; exact H) | exact H
    have Ny110 := Aside0.mk hy110
    clear hy110
    obtain rfl := Option.some.inj H
    go_enter Try.func68, Try.ntmps68
    go_wp2_with (first | ((with_reducible refine gate_dst (N := 1) rfl ?_); refine box_event ?hg (N := 1) ?hd (cs := #[.int .i64 a0_0, .int .i64 a0_1, .int .i64 a0_2, .int .i64 a0_3, .int .i64 a0_4, .int .i64 a0_5]) (t := 29) ?hr ?_; (case hd => rfl); (case hg => rfl); (case hr => first | (go_simp; done) | (go_simp; rfl)); intro gb109 hg w3 hbox hb; have n0_ := Aside0.mk (below_step (by repeat (first | (with_reducible first | exact HB.out | apply below_alloc | apply pw_below_drewN | apply below_drew1) | exact HB.out)) hb); have n1_ := Aside0.mk (hbox); have n2_ := Aside0.mk ((by rw [hg]; exact (below_size (by repeat (first | (with_reducible first | exact HB.out | apply below_alloc | apply pw_below_drewN | apply below_drew1) | exact HB.out))) : w.heap.size ≤ gb109)); have n3_ := Aside0.mk ((by rw [hg]; exact (below_size (by repeat (first | (with_reducible first | exact HB.out | apply below_alloc | apply pw_below_drewN | apply below_drew1) | exact HB.out))) : w.heap.size ≤ gb109)); clear HB; have HB := n0_; have BK109 := n1_; have GW109 := n2_; have GE109 := n3_; clear n0_ n1_ n2_ n3_; clear hb hbox hg; have hcz4_0 : w3.cell? ⟨gb109, 0, none⟩ = some (.int .i64 a0_0) := (blk_cell BK109.out 0).trans rfl; have hcz4_1 : w3.cell? ⟨gb109, 1, none⟩ = some (.int .i64 a0_1) := (blk_cell BK109.out 1).trans rfl; have hcz4_2 : w3.cell? ⟨gb109, 2, none⟩ = some (.int .i64 a0_2) := (blk_cell BK109.out 2).trans rfl; have hcz4_3 : w3.cell? ⟨gb109, 3, none⟩ = some (.int .i64 a0_3) := (blk_cell BK109.out 3).trans rfl; have hcz4_4 : w3.cell? ⟨gb109, 4, none⟩ = some (.int .i64 a0_4) := (blk_cell BK109.out 4).trans rfl; have hcz4_5 : w3.cell? ⟨gb109, 5, none⟩ = some (.int .i64 a0_5) := (blk_cell BK109.out 5).trans rfl; have hfz4_0 := blk_frozen BK109.out 0; have hfz4_1 := blk_frozen BK109.out 1; have hfz4_2 := blk_frozen BK109.out 2; have hfz4_3 := blk_frozen BK109.out 3; have hfz4_4 := blk_frozen BK109.out 4; have hfz4_5 := blk_frozen BK109.out 5) | ((with_reducible refine gate_dst (N := 9) rfl ?_); refine Kd.R_lit (Kd.int .i64) _ 3 ?hg (N := 9) ?hd (xs := ([a0_2] : List Int)) (inner := [.int .i64 a0_2]) (ok := fun _ => True) (okp := fun _ => True) ?hr ?hp (fun _ hk => hk) trivial (Below.refl _ _) (Nat.le_refl _) (by simp) ?_; (case hd => rfl); (case hg => rfl); (case hr => first | (go_simp; done) | (go_simp; rfl)); (case hp => exact (Reps.one (show Kd.M (Kd.int .i64) _ _ _ a0_2 [.int .i64 a0_2] from rfl) (Reps.none _ _))); intro v111 w5 ho6 hb hg_ hnew_; clear hg_ hnew_; (first | rw [← Ny110.out] at ho6 | (simp only [Int.reduceToNat] at ho6; rw [← Ny110.out] at ho6)); have n0_ := Aside0.mk (Kd.R_lower ho6 (below_size (by repeat (first | (with_reducible first | exact HB.out | apply below_alloc | apply pw_below_drewN | apply below_drew1 | refine below_set ?_ GE109.out) | exact HB.out)))); have n1_ := Aside0.mk (blk_below (g := gb109) (o := .cells #[.int .i64 a0_0, .int .i64 a0_1, .int .i64 a0_2, .int .i64 a0_3, .int .i64 a0_4, .int .i64 a0_5] 29 (0, 0)) (by (with_reducible repeat (first | refine blk_drewN ?_ _ | refine blk_drew ?_ | refine blk_alloc ?_ _)); exact BK109.out) hb); have n2_ := Aside0.mk (below_step (by repeat (first | (with_reducible first | exact HB.out | apply below_alloc | apply pw_below_drewN | apply below_drew1 | refine below_set ?_ GE109.out) | exact HB.out)) hb); clear BK109; clear HB; have HO112 := n0_; have BK109 := n1_; have HB := n2_; clear n0_ n1_ n2_; clear hb ho6))
    go_ret
    exact ⟨_, by first | rfl | (simp [errW_none, errW_some] <;> rfl) | (simp [*, errW_none, errW_some] <;> rfl), by (with_reducible repeat (first | apply Kd.R_alloc | apply Kd.R_drewN | apply Kd.R_drew)); exact HO112.out, by repeat (first | (with_reducible first | exact HB.out | apply below_alloc | apply pw_below_drewN | apply below_drew1 | refine below_set ?_ GE109.out) | exact HB.out)⟩
  · rw [if_neg c2] at H
    have c2b0 : (a0_0 == 2) = false := beq_eq_false_iff_ne.mpr c2
    have c2b1 : (a0_0 != 2) = true := bne_iff_ne.mpr c2
    have HC7 := Aside0.mk H
    clear H
    go_enter Try.func68, Try.ntmps68
    go_upto_if 10 with (first | ((with_reducible refine gate_dst (N := 1) rfl ?_); refine box_event ?hg (N := 1) ?hd (cs := #[.int .i64 a0_0, .int .i64 a0_1, .int .i64 a0_2, .int .i64 a0_3, .int .i64 a0_4, .int .i64 a0_5]) (t := 29) ?hr ?_; (case hd => rfl); (case hg => rfl); (case hr => first | (go_simp; done) | (go_simp; rfl)); intro gb109 hg w8 hbox hb; have n0_ := Aside0.mk (below_step (by repeat (first | (with_reducible first | exact HB.out | apply below_alloc | apply pw_below_drewN | apply below_drew1) | exact HB.out)) hb); have n1_ := Aside0.mk (hbox); have n2_ := Aside0.mk ((by rw [hg]; exact (below_size (by repeat (first | (with_reducible first | exact HB.out | apply below_alloc | apply pw_below_drewN | apply below_drew1) | exact HB.out))) : w.heap.size ≤ gb109)); have n3_ := Aside0.mk ((by rw [hg]; exact (below_size (by repeat (first | (with_reducible first | exact HB.out | apply below_alloc | apply pw_below_drewN | apply below_drew1) | exact HB.out))) : w.heap.size ≤ gb109)); clear HB; have HB := n0_; have BK109 := n1_; have GW109 := n2_; have GE109 := n3_; clear n0_ n1_ n2_ n3_; clear hb hbox hg; have hcz9_0 : w8.cell? ⟨gb109, 0, none⟩ = some (.int .i64 a0_0) := (blk_cell BK109.out 0).trans rfl; have hcz9_1 : w8.cell? ⟨gb109, 1, none⟩ = some (.int .i64 a0_1) := (blk_cell BK109.out 1).trans rfl; have hcz9_2 : w8.cell? ⟨gb109, 2, none⟩ = some (.int .i64 a0_2) := (blk_cell BK109.out 2).trans rfl; have hcz9_3 : w8.cell? ⟨gb109, 3, none⟩ = some (.int .i64 a0_3) := (blk_cell BK109.out 3).trans rfl; have hcz9_4 : w8.cell? ⟨gb109, 4, none⟩ = some (.int .i64 a0_4) := (blk_cell BK109.out 4).trans rfl; have hcz9_5 : w8.cell? ⟨gb109, 5, none⟩ = some (.int .i64 a0_5) := (blk_cell BK109.out 5).trans rfl; have hfz9_0 := blk_frozen BK109.out 0; have hfz9_1 := blk_frozen BK109.out 1; have hfz9_2 := blk_frozen BK109.out 2; have hfz9_3 := blk_frozen BK109.out 3; have hfz9_4 := blk_frozen BK109.out 4; have hfz9_5 := blk_frozen BK109.out 5))
    (try simp only [Act.put, List.setIfInBounds_toArray, List.set_cons_zero, List.set_cons_succ])
    go_cut [10] (fun v10 wc => ∃ (kq : Nat) (x10_6 : Bool), v10 = .bool x10_6 ∧ Aside0 (spec_l2Uses.j0 kq a0_0 x10_6 a0_0 a0_1 a0_2 a0_3 a0_4 a0_5 = some r) ∧ Aside0 (kq ≤ k) ∧ Aside0 (wc.heap[gb109]? = some (.cells #[.int .i64 a0_0, .int .i64 a0_1, .int .i64 a0_2, .int .i64 a0_3, .int .i64 a0_4, .int .i64 a0_5] 29 (0, 0))) ∧ Aside0 (Below w.heap.size w wc))
    case first =>
      have H := HC7.out
      clear HC7
      by_cases c10 : a0_0 = 3
      · rw [if_pos c10] at H
        have c10b0 : (a0_0 == 3) = true := beq_iff_eq.mpr c10
        have c10b1 : (a0_0 != 3) = false := bne_eq_false_iff_eq.mpr c10
        clear c10
        (first | rw [c10b0] | (simp only [i64_w, i32_w]; rw [c10b0]) | skip)
        have H' := Aside0.mk H
        clear H
        go_wp2
        go_meet
        case rel => exact ⟨_, ((a0_0 == 3)), (by first | rfl | (simp; done) | (simp [*]; done)), H', ⟨by first | omega | exact Nat.le_refl _⟩, ⟨by (with_reducible repeat (first | refine blk_drewN ?_ _ | refine blk_drew ?_ | refine blk_alloc ?_ _)); exact BK109.out⟩, ⟨by repeat (first | (with_reducible first | exact HB.out | apply below_alloc | apply pw_below_drewN | apply below_drew1 | refine below_set ?_ GE109.out) | exact HB.out)⟩⟩
      · rw [if_neg c10] at H
        have c10b0 : (a0_0 == 3) = false := beq_eq_false_iff_ne.mpr c10
        have c10b1 : (a0_0 != 3) = true := bne_iff_ne.mpr c10
        (first | rw [c10b0] | (simp only [i64_w, i32_w]; rw [c10b0]) | skip)
        have H' := Aside0.mk H
        clear H
        go_wp2
        go_meet
        case rel => exact ⟨_, ((a0_0 == 6)), (by first | rfl | (simp; done) | (simp [*]; done)), H', ⟨by first | omega | exact Nat.le_refl _⟩, ⟨by (with_reducible repeat (first | refine blk_drewN ?_ _ | refine blk_drew ?_ | refine blk_alloc ?_ _)); exact BK109.out⟩, ⟨by repeat (first | (with_reducible first | exact HB.out | apply below_alloc | apply pw_below_drewN | apply below_drew1 | refine below_set ?_ GE109.out) | exact HB.out)⟩⟩
    case rest =>
      clear HC7
      try clear c1
      try clear c2
      try clear c2b0
      try clear c2b1
      try clear p2
      try clear c6
      try clear c10
      try clear c10b0
      try clear c10b1
      try clear hcz4_0
      try clear hcz4_1
      try clear hcz4_2
      try clear hcz4_3
      try clear hcz4_4
      try clear hcz4_5
      try clear hcz9_0
      try clear hcz9_1
      try clear hcz9_2
      try clear hcz9_3
      try clear hcz9_4
      try clear hcz9_5
      try clear hfz4_0
      try clear hfz4_1
      try clear hfz4_2
      try clear hfz4_3
      try clear hfz4_4
      try clear hfz4_5
      try clear hfz9_0
      try clear hfz9_1
      try clear hfz9_2
      try clear hfz9_3
      try clear hfz9_4
      try clear hfz9_5
      obtain ⟨kq, x10_6, rfl, HA, HJ6, BK109, HB⟩ := hcut
      cases kq with
      | zero => exact absurd HA.out (by simp [spec_l2Uses.j0])
      | succ kj6 =>
        have H := HA.out
        clear HA
        simp only [spec_l2Uses.j0] at H
        by_cases c11 : x10_6 = true
        · subst c11
          have H1 : (some (([a0_1, a0_2] : List Int))) = some r := by rw [if_pos rfl] at H; exact H
          clear H
          have H := H1
          clear H1
          obtain ⟨y113, hy113⟩ : ∃ y_ : List Int, y_ = (([a0_1, a0_2] : List Int)) := ⟨_, rfl⟩
          replace H : (some y113) = some r := by first | (rw [hy113]; with_reducible exact H) | (have H2_ := (Option.bind_some _ _).symm.trans H; rw [hy113]; with_reducible exact H2_) | (have H2_ := (Option.bind_some _ _).symm.trans H; with_reducible exact H2_) | with_reducible exact H | (rw [hy113]; exact H) | exact H
          have Ny113 := Aside0.mk hy113
          clear hy113
          obtain rfl := Option.some.inj H
          have hcz12_0 : wc.cell? ⟨gb109, 0, none⟩ = some (.int .i64 a0_0) := (blk_cell BK109.out 0).trans rfl
          have hcz12_1 : wc.cell? ⟨gb109, 1, none⟩ = some (.int .i64 a0_1) := (blk_cell BK109.out 1).trans rfl
          have hcz12_2 : wc.cell? ⟨gb109, 2, none⟩ = some (.int .i64 a0_2) := (blk_cell BK109.out 2).trans rfl
          have hcz12_3 : wc.cell? ⟨gb109, 3, none⟩ = some (.int .i64 a0_3) := (blk_cell BK109.out 3).trans rfl
          have hcz12_4 : wc.cell? ⟨gb109, 4, none⟩ = some (.int .i64 a0_4) := (blk_cell BK109.out 4).trans rfl
          have hcz12_5 : wc.cell? ⟨gb109, 5, none⟩ = some (.int .i64 a0_5) := (blk_cell BK109.out 5).trans rfl
          have hfz12_0 := blk_frozen BK109.out 0
          have hfz12_1 := blk_frozen BK109.out 1
          have hfz12_2 := blk_frozen BK109.out 2
          have hfz12_3 := blk_frozen BK109.out 3
          have hfz12_4 := blk_frozen BK109.out 4
          have hfz12_5 := blk_frozen BK109.out 5
          go_wp2_with (first | ((with_reducible refine gate_dst (N := 17) rfl ?_); refine Kd.R_lit (Kd.int .i64) _ 3 ?hg (N := 17) ?hd (xs := ([a0_1, a0_2] : List Int)) (inner := [.int .i64 a0_1, .int .i64 a0_2]) (ok := fun _ => True) (okp := fun _ => True) ?hr ?hp (fun _ hk => hk) trivial (Below.refl _ _) (Nat.le_refl _) (by simp) ?_; (case hd => rfl); (case hg => rfl); (case hr => first | (go_simp; done) | (go_simp; rfl)); (case hp => exact (Reps.one (show Kd.M (Kd.int .i64) _ _ _ a0_1 [.int .i64 a0_1] from rfl) (Reps.one (show Kd.M (Kd.int .i64) _ _ _ a0_2 [.int .i64 a0_2] from rfl) (Reps.none _ _)))); intro v114 w13 ho14 hb hg_ hnew_; clear hg_ hnew_; (first | rw [← Ny113.out] at ho14 | (simp only [Int.reduceToNat] at ho14; rw [← Ny113.out] at ho14)); have n0_ := Aside0.mk (Kd.R_lower ho14 (below_size (by repeat (first | (with_reducible first | exact HB.out | apply below_alloc | apply pw_below_drewN | apply below_drew1 | refine below_set ?_ GE109.out) | exact HB.out)))); have n1_ := Aside0.mk (blk_below (g := gb109) (o := .cells #[.int .i64 a0_0, .int .i64 a0_1, .int .i64 a0_2, .int .i64 a0_3, .int .i64 a0_4, .int .i64 a0_5] 29 (0, 0)) (by (with_reducible repeat (first | refine blk_drewN ?_ _ | refine blk_drew ?_ | refine blk_alloc ?_ _)); exact BK109.out) hb); have n2_ := Aside0.mk (below_step (by repeat (first | (with_reducible first | exact HB.out | apply below_alloc | apply pw_below_drewN | apply below_drew1 | refine below_set ?_ GE109.out) | exact HB.out)) hb); clear BK109; clear HB; have HO115 := n0_; have BK109 := n1_; have HB := n2_; clear n0_ n1_ n2_; clear hb ho14))
          go_ret
          exact ⟨_, by first | rfl | (simp [errW_none, errW_some] <;> rfl) | (simp [*, errW_none, errW_some] <;> rfl), by (with_reducible repeat (first | apply Kd.R_alloc | apply Kd.R_drewN | apply Kd.R_drew)); exact HO115.out, by repeat (first | (with_reducible first | exact HB.out | apply below_alloc | apply pw_below_drewN | apply below_drew1 | refine below_set ?_ GE109.out) | exact HB.out)⟩
        · replace c11 := Bool.eq_false_iff.mpr c11
          subst c11
          have H1 : (if a0_0 = 10 then (spec_l2Uses.j1 kj6 (a0_0 == 10) a0_0 a0_1 a0_2 a0_3 a0_4 a0_5) else (if a0_0 = 11 then (spec_l2Uses.j1 kj6 (a0_0 == 11) a0_0 a0_1 a0_2 a0_3 a0_4 a0_5) else (if a0_0 = 12 then (spec_l2Uses.j1 kj6 (a0_0 == 12) a0_0 a0_1 a0_2 a0_3 a0_4 a0_5) else (spec_l2Uses.j1 kj6 (a0_0 == 14) a0_0 a0_1 a0_2 a0_3 a0_4 a0_5)))) = some r := by rw [if_neg (show ¬ (false = true) by decide)] at H; exact H
          clear H
          have H := H1
          clear H1
          have HC15 := Aside0.mk H
          clear H
          go_upto_if 18 with (fail)
          go_cut [18] (fun v18 wc => ∃ (kq : Nat) (x18_14 : Bool), v18 = .bool x18_14 ∧ Aside0 (spec_l2Uses.j1 kq x18_14 a0_0 a0_1 a0_2 a0_3 a0_4 a0_5 = some r) ∧ Aside0 (kq ≤ kj6) ∧ Aside0 (wc.heap[gb109]? = some (.cells #[.int .i64 a0_0, .int .i64 a0_1, .int .i64 a0_2, .int .i64 a0_3, .int .i64 a0_4, .int .i64 a0_5] 29 (0, 0))) ∧ Aside0 (Below w.heap.size w wc))
          case first =>
            have H := HC15.out
            clear HC15
            by_cases c16 : a0_0 = 10
            · rw [if_pos c16] at H
              have c16b0 : (a0_0 == 10) = true := beq_iff_eq.mpr c16
              have c16b1 : (a0_0 != 10) = false := bne_eq_false_iff_eq.mpr c16
              clear c16
              (first | rw [c16b0] | (simp only [i64_w, i32_w]; rw [c16b0]) | skip)
              have H' := Aside0.mk H
              clear H
              go_wp2
              go_meet
              case rel => exact ⟨_, ((a0_0 == 10)), (by first | rfl | (simp; done) | (simp [*]; done)), H', ⟨by have := HJ6.out; first | omega | exact Nat.le_refl _⟩, ⟨by (with_reducible repeat (first | refine blk_drewN ?_ _ | refine blk_drew ?_ | refine blk_alloc ?_ _)); exact BK109.out⟩, ⟨by repeat (first | (with_reducible first | exact HB.out | apply below_alloc | apply pw_below_drewN | apply below_drew1 | refine below_set ?_ GE109.out) | exact HB.out)⟩⟩
            · rw [if_neg c16] at H
              have c16b0 : (a0_0 == 10) = false := beq_eq_false_iff_ne.mpr c16
              have c16b1 : (a0_0 != 10) = true := bne_iff_ne.mpr c16
              (first | rw [c16b0] | (simp only [i64_w, i32_w]; rw [c16b0]) | skip)
              by_cases c17 : a0_0 = 11
              · rw [if_pos c17] at H
                have c17b0 : (a0_0 == 11) = true := beq_iff_eq.mpr c17
                have c17b1 : (a0_0 != 11) = false := bne_eq_false_iff_eq.mpr c17
                clear c17
                have H' := Aside0.mk H
                clear H
                go_wp2
                go_meet
                case rel => exact ⟨_, ((a0_0 == 11)), (by first | rfl | (simp; done) | (simp [*]; done)), H', ⟨by have := HJ6.out; first | omega | exact Nat.le_refl _⟩, ⟨by (with_reducible repeat (first | refine blk_drewN ?_ _ | refine blk_drew ?_ | refine blk_alloc ?_ _)); exact BK109.out⟩, ⟨by repeat (first | (with_reducible first | exact HB.out | apply below_alloc | apply pw_below_drewN | apply below_drew1 | refine below_set ?_ GE109.out) | exact HB.out)⟩⟩
              · rw [if_neg c17] at H
                have c17b0 : (a0_0 == 11) = false := beq_eq_false_iff_ne.mpr c17
                have c17b1 : (a0_0 != 11) = true := bne_iff_ne.mpr c17
                by_cases c18 : a0_0 = 12
                · rw [if_pos c18] at H
                  have c18b0 : (a0_0 == 12) = true := beq_iff_eq.mpr c18
                  have c18b1 : (a0_0 != 12) = false := bne_eq_false_iff_eq.mpr c18
                  clear c18
                  have H' := Aside0.mk H
                  clear H
                  go_wp2
                  go_meet
                  case rel => exact ⟨_, ((a0_0 == 12)), (by first | rfl | (simp; done) | (simp [*]; done)), H', ⟨by have := HJ6.out; first | omega | exact Nat.le_refl _⟩, ⟨by (with_reducible repeat (first | refine blk_drewN ?_ _ | refine blk_drew ?_ | refine blk_alloc ?_ _)); exact BK109.out⟩, ⟨by repeat (first | (with_reducible first | exact HB.out | apply below_alloc | apply pw_below_drewN | apply below_drew1 | refine below_set ?_ GE109.out) | exact HB.out)⟩⟩
                · rw [if_neg c18] at H
                  have c18b0 : (a0_0 == 12) = false := beq_eq_false_iff_ne.mpr c18
                  have c18b1 : (a0_0 != 12) = true := bne_iff_ne.mpr c18
                  have H' := Aside0.mk H
                  clear H
                  go_wp2
                  go_meet
                  case rel => exact ⟨_, ((a0_0 == 14)), (by first | rfl | (simp; done) | (simp [*]; done)), H', ⟨by have := HJ6.out; first | omega | exact Nat.le_refl _⟩, ⟨by (with_reducible repeat (first | refine blk_drewN ?_ _ | refine blk_drew ?_ | refine blk_alloc ?_ _)); exact BK109.out⟩, ⟨by repeat (first | (with_reducible first | exact HB.out | apply below_alloc | apply pw_below_drewN | apply below_drew1 | refine below_set ?_ GE109.out) | exact HB.out)⟩⟩
          case rest =>
            clear HC15
            try clear c1
            try clear c2
            try clear c2b0
            try clear c2b1
            try clear p2
            try clear c6
            try clear c10
            try clear c10b0
            try clear c10b1
            try clear c11
            try clear c16
            try clear c16b0
            try clear c16b1
            try clear c17
            try clear c17b0
            try clear c17b1
            try clear c18
            try clear c18b0
            try clear c18b1
            try clear hcz12_0
            try clear hcz12_1
            try clear hcz12_2
            try clear hcz12_3
            try clear hcz12_4
            try clear hcz12_5
            try clear hcz4_0
            try clear hcz4_1
            try clear hcz4_2
            try clear hcz4_3
            try clear hcz4_4
            try clear hcz4_5
            try clear hcz9_0
            try clear hcz9_1
            try clear hcz9_2
            try clear hcz9_3
            try clear hcz9_4
            try clear hcz9_5
            try clear hfz12_0
            try clear hfz12_1
            try clear hfz12_2
            try clear hfz12_3
            try clear hfz12_4
            try clear hfz12_5
            try clear hfz4_0
            try clear hfz4_1
            try clear hfz4_2
            try clear hfz4_3
            try clear hfz4_4
            try clear hfz4_5
            try clear hfz9_0
            try clear hfz9_1
            try clear hfz9_2
            try clear hfz9_3
            try clear hfz9_4
            try clear hfz9_5
            try clear p2
            obtain ⟨kq, x18_14, rfl, HA, HJ14, BK109, HB⟩ := hcut
            cases kq with
            | zero => exact absurd HA.out (by simp [spec_l2Uses.j1])
            | succ kj14 =>
              have H := HA.out
              clear HA
              simp only [spec_l2Uses.j1] at H
              by_cases c19 : x18_14 = true
              · subst c19
                have H1 : (some (([a0_1] : List Int))) = some r := by rw [if_pos rfl] at H; exact H
                clear H
                have H := H1
                clear H1
                obtain ⟨y116, hy116⟩ : ∃ y_ : List Int, y_ = (([a0_1] : List Int)) := ⟨_, rfl⟩
                replace H : (some y116) = some r := by first | (rw [hy116]; with_reducible exact H) | (have H2_ := (Option.bind_some _ _).symm.trans H; rw [hy116]; with_reducible exact H2_) | (have H2_ := (Option.bind_some _ _).symm.trans H; with_reducible exact H2_) | with_reducible exact H | (rw [hy116]; exact H) | exact H
                have Ny116 := Aside0.mk hy116
                clear hy116
                obtain rfl := Option.some.inj H
                have hcz20_0 : wc.cell? ⟨gb109, 0, none⟩ = some (.int .i64 a0_0) := (blk_cell BK109.out 0).trans rfl
                have hcz20_1 : wc.cell? ⟨gb109, 1, none⟩ = some (.int .i64 a0_1) := (blk_cell BK109.out 1).trans rfl
                have hcz20_2 : wc.cell? ⟨gb109, 2, none⟩ = some (.int .i64 a0_2) := (blk_cell BK109.out 2).trans rfl
                have hcz20_3 : wc.cell? ⟨gb109, 3, none⟩ = some (.int .i64 a0_3) := (blk_cell BK109.out 3).trans rfl
                have hcz20_4 : wc.cell? ⟨gb109, 4, none⟩ = some (.int .i64 a0_4) := (blk_cell BK109.out 4).trans rfl
                have hcz20_5 : wc.cell? ⟨gb109, 5, none⟩ = some (.int .i64 a0_5) := (blk_cell BK109.out 5).trans rfl
                have hfz20_0 := blk_frozen BK109.out 0
                have hfz20_1 := blk_frozen BK109.out 1
                have hfz20_2 := blk_frozen BK109.out 2
                have hfz20_3 := blk_frozen BK109.out 3
                have hfz20_4 := blk_frozen BK109.out 4
                have hfz20_5 := blk_frozen BK109.out 5
                go_wp2_with (first | ((with_reducible refine gate_dst (N := 25) rfl ?_); refine Kd.R_lit (Kd.int .i64) _ 3 ?hg (N := 25) ?hd (xs := ([a0_1] : List Int)) (inner := [.int .i64 a0_1]) (ok := fun _ => True) (okp := fun _ => True) ?hr ?hp (fun _ hk => hk) trivial (Below.refl _ _) (Nat.le_refl _) (by simp) ?_; (case hd => rfl); (case hg => rfl); (case hr => first | (go_simp; done) | (go_simp; rfl)); (case hp => exact (Reps.one (show Kd.M (Kd.int .i64) _ _ _ a0_1 [.int .i64 a0_1] from rfl) (Reps.none _ _))); intro v117 w21 ho22 hb hg_ hnew_; clear hg_ hnew_; (first | rw [← Ny116.out] at ho22 | (simp only [Int.reduceToNat] at ho22; rw [← Ny116.out] at ho22)); have n0_ := Aside0.mk (Kd.R_lower ho22 (below_size (by repeat (first | (with_reducible first | exact HB.out | apply below_alloc | apply pw_below_drewN | apply below_drew1 | refine below_set ?_ GE109.out) | exact HB.out)))); have n1_ := Aside0.mk (blk_below (g := gb109) (o := .cells #[.int .i64 a0_0, .int .i64 a0_1, .int .i64 a0_2, .int .i64 a0_3, .int .i64 a0_4, .int .i64 a0_5] 29 (0, 0)) (by (with_reducible repeat (first | refine blk_drewN ?_ _ | refine blk_drew ?_ | refine blk_alloc ?_ _)); exact BK109.out) hb); have n2_ := Aside0.mk (below_step (by repeat (first | (with_reducible first | exact HB.out | apply below_alloc | apply pw_below_drewN | apply below_drew1 | refine below_set ?_ GE109.out) | exact HB.out)) hb); clear BK109; clear HB; have HO118 := n0_; have BK109 := n1_; have HB := n2_; clear n0_ n1_ n2_; clear hb ho22))
                go_ret
                exact ⟨_, by first | rfl | (simp [errW_none, errW_some] <;> rfl) | (simp [*, errW_none, errW_some] <;> rfl), by (with_reducible repeat (first | apply Kd.R_alloc | apply Kd.R_drewN | apply Kd.R_drew)); exact HO118.out, by repeat (first | (with_reducible first | exact HB.out | apply below_alloc | apply pw_below_drewN | apply below_drew1 | refine below_set ?_ GE109.out) | exact HB.out)⟩
              · replace c19 := Bool.eq_false_iff.mpr c19
                subst c19
                have H1 : (some (([] : List Int))) = some r := by rw [if_neg (show ¬ (false = true) by decide)] at H; exact H
                clear H
                have H := H1
                clear H1
                obtain ⟨y119, hy119⟩ : ∃ y_ : List Int, y_ = (([] : List Int)) := ⟨_, rfl⟩
                replace H : (some y119) = some r := by first | (rw [hy119]; with_reducible exact H) | (have H2_ := (Option.bind_some _ _).symm.trans H; rw [hy119]; with_reducible exact H2_) | (have H2_ := (Option.bind_some _ _).symm.trans H; with_reducible exact H2_) | with_reducible exact H | (rw [hy119]; exact H) | exact H
                have Ny119 := Aside0.mk hy119
                clear hy119
                obtain rfl := Option.some.inj H
                go_wp2_with (first | ((with_reducible refine gate_dst (N := 26) rfl ?_); refine Kd.R_lit (Kd.int .i64) _ 3 ?hg (N := 26) ?hd (xs := ([] : List Int)) (inner := []) (ok := fun _ => True) (okp := fun _ => True) ?hr ?hp (fun _ hk => hk) trivial (Below.refl _ _) (Nat.le_refl _) (by simp) ?_; (case hd => rfl); (case hg => rfl); (case hr => first | (go_simp; done) | (go_simp; rfl)); (case hp => exact (Reps.none _ _)); intro v120 w23 ho24 hb hg_ hnew_; clear hg_ hnew_; (first | rw [← Ny119.out] at ho24 | (simp only [Int.reduceToNat] at ho24; rw [← Ny119.out] at ho24)); have n0_ := Aside0.mk (Kd.R_lower ho24 (below_size (by repeat (first | (with_reducible first | exact HB.out | apply below_alloc | apply pw_below_drewN | apply below_drew1 | refine below_set ?_ GE109.out) | exact HB.out)))); have n1_ := Aside0.mk (blk_below (g := gb109) (o := .cells #[.int .i64 a0_0, .int .i64 a0_1, .int .i64 a0_2, .int .i64 a0_3, .int .i64 a0_4, .int .i64 a0_5] 29 (0, 0)) (by (with_reducible repeat (first | refine blk_drewN ?_ _ | refine blk_drew ?_ | refine blk_alloc ?_ _)); exact BK109.out) hb); have n2_ := Aside0.mk (below_step (by repeat (first | (with_reducible first | exact HB.out | apply below_alloc | apply pw_below_drewN | apply below_drew1 | refine below_set ?_ GE109.out) | exact HB.out)) hb); clear BK109; clear HB; have HO121 := n0_; have BK109 := n1_; have HB := n2_; clear n0_ n1_ n2_; clear hb ho24))
                go_ret
                exact ⟨_, by first | rfl | (simp [errW_none, errW_some] <;> rfl) | (simp [*, errW_none, errW_some] <;> rfl), by (with_reducible repeat (first | apply Kd.R_alloc | apply Kd.R_drewN | apply Kd.R_drew)); exact HO121.out, by repeat (first | (with_reducible first | exact HB.out | apply below_alloc | apply pw_below_drewN | apply below_drew1 | refine below_set ?_ GE109.out) | exact HB.out)⟩
def spec_OpUses.f (k : Nat) (a0_0 : Int) (a0_1 : Int) (a0_2 : Int) (a0_3 : Int) (a0_4 : Int) (a0_5 : Int) : Option (List Int) := (opV.f a0_0 a0_1 a0_2 a0_3 a0_4 a0_5).bind fun t123 => (if t123 = true then ((spec_l2Uses.f k a0_0 a0_1 a0_2 a0_3 a0_4 a0_5).bind fun t127 => (some t127)) else (some (([] : List Int))))
set_option maxHeartbeats 8000000 in
set_option maxRecDepth 100000 in
theorem spec_OpUses.calls (k : Nat) (a0_0 : Int) (a0_1 : Int) (a0_2 : Int) (a0_3 : Int) (a0_4 : Int) (a0_5 : Int) (r : List Int) (w : World) (h : spec_OpUses.f k a0_0 a0_1 a0_2 a0_3 a0_4 a0_5 = some r) :
    Calls Try.prog 26 #[.agg #[.int .i64 a0_0, .int .i64 a0_1, .int .i64 a0_2, .int .i64 a0_3, .int .i64 a0_4, .int .i64 a0_5]] w fun e w' => ∃ v0_ : Value, e = .returned (v0_) ∧ Kd.R (Kd.int .i64) 3 w' w.heap.size (fun _ => True) v0_ r ∧ Below w.heap.size w w' := by
  have hu29 := Try.underlying29
  have HB := Aside0.mk (Below.refl w.heap.size w)
  have H : ((opV.f a0_0 a0_1 a0_2 a0_3 a0_4 a0_5).bind fun t123 => (if t123 = true then ((spec_l2Uses.f k a0_0 a0_1 a0_2 a0_3 a0_4 a0_5).bind fun t127 => (some t127)) else (some (([] : List Int))))) = some r := h
  clear h
  replace H := Option.bind_eq_some_iff.mp H
  obtain ⟨t123, A20, H⟩ := H
  replace H : (if t123 = true then ((spec_l2Uses.f k a0_0 a0_1 a0_2 a0_3 a0_4 a0_5).bind fun t127 => (some t127)) else (some (([] : List Int)))) = some r := H
  have A2 := Aside0.mk A20
  clear A20
  by_cases c3 : t123 = true
  · subst c3
    have H1 : ((spec_l2Uses.f k a0_0 a0_1 a0_2 a0_3 a0_4 a0_5).bind fun t127 => (some t127)) = some r := by rw [if_pos rfl] at H; exact H
    clear H
    have H := H1
    clear H1
    replace H := Option.bind_eq_some_iff.mp H
    obtain ⟨t127, A40, H⟩ := H
    replace H : (some t127) = some r := H
    have A4 := Aside0.mk A40
    clear A40
    obtain rfl := Option.some.inj H
    go_enter Try.func26, Try.ntmps26
    go_wp2_with (first | ((with_reducible refine gate_dst (N := 1) rfl ?_); refine box_event ?hg (N := 1) ?hd (cs := #[.int .i64 a0_0, .int .i64 a0_1, .int .i64 a0_2, .int .i64 a0_3, .int .i64 a0_4, .int .i64 a0_5]) (t := 29) ?hr ?_; (case hd => rfl); (case hg => rfl); (case hr => first | (go_simp; done) | (go_simp; rfl)); intro gb122 hg w5 hbox hb; have n0_ := Aside0.mk (below_step (by repeat (first | (with_reducible first | exact HB.out | apply below_alloc | apply pw_below_drewN | apply below_drew1) | exact HB.out)) hb); have n1_ := Aside0.mk (hbox); have n2_ := Aside0.mk ((by rw [hg]; exact (below_size (by repeat (first | (with_reducible first | exact HB.out | apply below_alloc | apply pw_below_drewN | apply below_drew1) | exact HB.out))) : w.heap.size ≤ gb122)); have n3_ := Aside0.mk ((by rw [hg]; exact (below_size (by repeat (first | (with_reducible first | exact HB.out | apply below_alloc | apply pw_below_drewN | apply below_drew1) | exact HB.out))) : w.heap.size ≤ gb122)); clear HB; have HB := n0_; have BK122 := n1_; have GW122 := n2_; have GE122 := n3_; clear n0_ n1_ n2_ n3_; clear hb hbox hg; have hcz6_0 : w5.cell? ⟨gb122, 0, none⟩ = some (.int .i64 a0_0) := (blk_cell BK122.out 0).trans rfl; have hcz6_1 : w5.cell? ⟨gb122, 1, none⟩ = some (.int .i64 a0_1) := (blk_cell BK122.out 1).trans rfl; have hcz6_2 : w5.cell? ⟨gb122, 2, none⟩ = some (.int .i64 a0_2) := (blk_cell BK122.out 2).trans rfl; have hcz6_3 : w5.cell? ⟨gb122, 3, none⟩ = some (.int .i64 a0_3) := (blk_cell BK122.out 3).trans rfl; have hcz6_4 : w5.cell? ⟨gb122, 4, none⟩ = some (.int .i64 a0_4) := (blk_cell BK122.out 4).trans rfl; have hcz6_5 : w5.cell? ⟨gb122, 5, none⟩ = some (.int .i64 a0_5) := (blk_cell BK122.out 5).trans rfl; have hfz6_0 := blk_frozen BK122.out 0; have hfz6_1 := blk_frozen BK122.out 1; have hfz6_2 := blk_frozen BK122.out 2; have hfz6_3 := blk_frozen BK122.out 3; have hfz6_4 := blk_frozen BK122.out 4; have hfz6_5 := blk_frozen BK122.out 5) | ((with_reducible refine gate_callee (f := 23) rfl ?_); refine goesL_ (some 4) rfl rfl Try.func23 (by kernel_rfl) rfl #[.agg #[.int .i64 a0_0, .int .i64 a0_1, .int .i64 a0_2, .int .i64 a0_3, .int .i64 a0_4, .int .i64 a0_5]] rfl (by (try simp only [List.map_toArray, List.map_cons, List.map_nil]); first | done | rfl | (simp only [List.length_drop, List.length_take]; rfl)) ?_; (with_reducible refine (spec_OpOk.calls a0_0 a0_1 a0_2 a0_3 a0_4 a0_5 true _ A2.out).mono ?_); rintro e w7 ⟨rfl, hb⟩; refine ⟨_, rfl, ?_⟩; have n0_ := Aside0.mk (blk_below (g := gb122) (o := .cells #[.int .i64 a0_0, .int .i64 a0_1, .int .i64 a0_2, .int .i64 a0_3, .int .i64 a0_4, .int .i64 a0_5] 29 (0, 0)) (by (with_reducible repeat (first | refine blk_drewN ?_ _ | refine blk_drew ?_ | refine blk_alloc ?_ _)); exact BK122.out) hb); have n1_ := Aside0.mk (below_step (by repeat (first | (with_reducible first | exact HB.out | apply below_alloc | apply pw_below_drewN | apply below_drew1 | refine below_set ?_ GE122.out) | exact HB.out)) hb); clear BK122; clear HB; have BK122 := n0_; have HB := n1_; clear n0_ n1_; (try clear hb); (try clear hb2); (try clear hk); (try clear hi); have hcz8_0 : w7.cell? ⟨gb122, 0, none⟩ = some (.int .i64 a0_0) := (blk_cell BK122.out 0).trans rfl; have hcz8_1 : w7.cell? ⟨gb122, 1, none⟩ = some (.int .i64 a0_1) := (blk_cell BK122.out 1).trans rfl; have hcz8_2 : w7.cell? ⟨gb122, 2, none⟩ = some (.int .i64 a0_2) := (blk_cell BK122.out 2).trans rfl; have hcz8_3 : w7.cell? ⟨gb122, 3, none⟩ = some (.int .i64 a0_3) := (blk_cell BK122.out 3).trans rfl; have hcz8_4 : w7.cell? ⟨gb122, 4, none⟩ = some (.int .i64 a0_4) := (blk_cell BK122.out 4).trans rfl; have hcz8_5 : w7.cell? ⟨gb122, 5, none⟩ = some (.int .i64 a0_5) := (blk_cell BK122.out 5).trans rfl; have hfz8_0 := blk_frozen BK122.out 0; have hfz8_1 := blk_frozen BK122.out 1; have hfz8_2 := blk_frozen BK122.out 2; have hfz8_3 := blk_frozen BK122.out 3; have hfz8_4 := blk_frozen BK122.out 4; have hfz8_5 := blk_frozen BK122.out 5) | ((with_reducible refine gate_callee (f := 68) rfl ?_); refine goesL_ (some 8) rfl rfl Try.func68 (by kernel_rfl) rfl #[.agg #[.int .i64 a0_0, .int .i64 a0_1, .int .i64 a0_2, .int .i64 a0_3, .int .i64 a0_4, .int .i64 a0_5]] rfl (by (try simp only [List.map_toArray, List.map_cons, List.map_nil]); first | done | rfl | (simp only [List.length_drop, List.length_take]; rfl)) ?_; (with_reducible refine (spec_l2Uses.calls k a0_0 a0_1 a0_2 a0_3 a0_4 a0_5 t127 _ A4.out).mono ?_); rintro e w9 ⟨v128, rfl, ho0, hb⟩; refine ⟨_, rfl, ?_⟩; have n0_ := Aside0.mk (Kd.R_lower ho0 (below_size (by repeat (first | (with_reducible first | exact HB.out | apply below_alloc | apply pw_below_drewN | apply below_drew1 | refine below_set ?_ GE122.out) | exact HB.out)))); have n1_ := Aside0.mk (blk_below (g := gb122) (o := .cells #[.int .i64 a0_0, .int .i64 a0_1, .int .i64 a0_2, .int .i64 a0_3, .int .i64 a0_4, .int .i64 a0_5] 29 (0, 0)) (by (with_reducible repeat (first | refine blk_drewN ?_ _ | refine blk_drew ?_ | refine blk_alloc ?_ _)); exact BK122.out) hb); have n2_ := Aside0.mk (below_step (by repeat (first | (with_reducible first | exact HB.out | apply below_alloc | apply pw_below_drewN | apply below_drew1 | refine below_set ?_ GE122.out) | exact HB.out)) hb); clear BK122; clear HB; have HO129 := n0_; have BK122 := n1_; have HB := n2_; clear n0_ n1_ n2_; (try clear hb); (try clear hb2); (try clear hk); (try clear hi); (try clear ho0)))
    go_ret
    exact ⟨_, by first | rfl | (simp [errW_none, errW_some] <;> rfl) | (simp [*, errW_none, errW_some] <;> rfl), by (with_reducible repeat (first | apply Kd.R_alloc | apply Kd.R_drewN | apply Kd.R_drew)); exact HO129.out, by repeat (first | (with_reducible first | exact HB.out | apply below_alloc | apply pw_below_drewN | apply below_drew1 | refine below_set ?_ GE122.out) | exact HB.out)⟩
  · replace c3 := Bool.eq_false_iff.mpr c3
    subst c3
    have H1 : (some (([] : List Int))) = some r := by rw [if_neg (show ¬ (false = true) by decide)] at H; exact H
    clear H
    have H := H1
    clear H1
    obtain ⟨y124, hy124⟩ : ∃ y_ : List Int, y_ = (([] : List Int)) := ⟨_, rfl⟩
    replace H : (some y124) = some r := by first | (rw [hy124]; with_reducible exact H) | (have H2_ := (Option.bind_some _ _).symm.trans H; rw [hy124]; with_reducible exact H2_) | (have H2_ := (Option.bind_some _ _).symm.trans H; with_reducible exact H2_) | with_reducible exact H | (rw [hy124]; exact H) | exact H
    have Ny124 := Aside0.mk hy124
    clear hy124
    obtain rfl := Option.some.inj H
    go_enter Try.func26, Try.ntmps26
    go_wp2_with (first | ((with_reducible refine gate_dst (N := 1) rfl ?_); refine box_event ?hg (N := 1) ?hd (cs := #[.int .i64 a0_0, .int .i64 a0_1, .int .i64 a0_2, .int .i64 a0_3, .int .i64 a0_4, .int .i64 a0_5]) (t := 29) ?hr ?_; (case hd => rfl); (case hg => rfl); (case hr => first | (go_simp; done) | (go_simp; rfl)); intro gb122 hg w10 hbox hb; have n0_ := Aside0.mk (below_step (by repeat (first | (with_reducible first | exact HB.out | apply below_alloc | apply pw_below_drewN | apply below_drew1) | exact HB.out)) hb); have n1_ := Aside0.mk (hbox); have n2_ := Aside0.mk ((by rw [hg]; exact (below_size (by repeat (first | (with_reducible first | exact HB.out | apply below_alloc | apply pw_below_drewN | apply below_drew1) | exact HB.out))) : w.heap.size ≤ gb122)); have n3_ := Aside0.mk ((by rw [hg]; exact (below_size (by repeat (first | (with_reducible first | exact HB.out | apply below_alloc | apply pw_below_drewN | apply below_drew1) | exact HB.out))) : w.heap.size ≤ gb122)); clear HB; have HB := n0_; have BK122 := n1_; have GW122 := n2_; have GE122 := n3_; clear n0_ n1_ n2_ n3_; clear hb hbox hg; have hcz11_0 : w10.cell? ⟨gb122, 0, none⟩ = some (.int .i64 a0_0) := (blk_cell BK122.out 0).trans rfl; have hcz11_1 : w10.cell? ⟨gb122, 1, none⟩ = some (.int .i64 a0_1) := (blk_cell BK122.out 1).trans rfl; have hcz11_2 : w10.cell? ⟨gb122, 2, none⟩ = some (.int .i64 a0_2) := (blk_cell BK122.out 2).trans rfl; have hcz11_3 : w10.cell? ⟨gb122, 3, none⟩ = some (.int .i64 a0_3) := (blk_cell BK122.out 3).trans rfl; have hcz11_4 : w10.cell? ⟨gb122, 4, none⟩ = some (.int .i64 a0_4) := (blk_cell BK122.out 4).trans rfl; have hcz11_5 : w10.cell? ⟨gb122, 5, none⟩ = some (.int .i64 a0_5) := (blk_cell BK122.out 5).trans rfl; have hfz11_0 := blk_frozen BK122.out 0; have hfz11_1 := blk_frozen BK122.out 1; have hfz11_2 := blk_frozen BK122.out 2; have hfz11_3 := blk_frozen BK122.out 3; have hfz11_4 := blk_frozen BK122.out 4; have hfz11_5 := blk_frozen BK122.out 5) | ((with_reducible refine gate_callee (f := 23) rfl ?_); refine goesL_ (some 4) rfl rfl Try.func23 (by kernel_rfl) rfl #[.agg #[.int .i64 a0_0, .int .i64 a0_1, .int .i64 a0_2, .int .i64 a0_3, .int .i64 a0_4, .int .i64 a0_5]] rfl (by (try simp only [List.map_toArray, List.map_cons, List.map_nil]); first | done | rfl | (simp only [List.length_drop, List.length_take]; rfl)) ?_; (with_reducible refine (spec_OpOk.calls a0_0 a0_1 a0_2 a0_3 a0_4 a0_5 false _ A2.out).mono ?_); rintro e w12 ⟨rfl, hb⟩; refine ⟨_, rfl, ?_⟩; have n0_ := Aside0.mk (blk_below (g := gb122) (o := .cells #[.int .i64 a0_0, .int .i64 a0_1, .int .i64 a0_2, .int .i64 a0_3, .int .i64 a0_4, .int .i64 a0_5] 29 (0, 0)) (by (with_reducible repeat (first | refine blk_drewN ?_ _ | refine blk_drew ?_ | refine blk_alloc ?_ _)); exact BK122.out) hb); have n1_ := Aside0.mk (below_step (by repeat (first | (with_reducible first | exact HB.out | apply below_alloc | apply pw_below_drewN | apply below_drew1 | refine below_set ?_ GE122.out) | exact HB.out)) hb); clear BK122; clear HB; have BK122 := n0_; have HB := n1_; clear n0_ n1_; (try clear hb); (try clear hb2); (try clear hk); (try clear hi)) | ((with_reducible refine gate_dst (N := 6) rfl ?_); refine Kd.R_lit (Kd.int .i64) _ 3 ?hg (N := 6) ?hd (xs := ([] : List Int)) (inner := []) (ok := fun _ => True) (okp := fun _ => True) ?hr ?hp (fun _ hk => hk) trivial (Below.refl _ _) (Nat.le_refl _) (by simp) ?_; (case hd => rfl); (case hg => rfl); (case hr => first | (go_simp; done) | (go_simp; rfl)); (case hp => exact (Reps.none _ _)); intro v125 w13 ho14 hb hg_ hnew_; clear hg_ hnew_; (first | rw [← Ny124.out] at ho14 | (simp only [Int.reduceToNat] at ho14; rw [← Ny124.out] at ho14)); have n0_ := Aside0.mk (Kd.R_lower ho14 (below_size (by repeat (first | (with_reducible first | exact HB.out | apply below_alloc | apply pw_below_drewN | apply below_drew1 | refine below_set ?_ GE122.out) | exact HB.out)))); have n1_ := Aside0.mk (blk_below (g := gb122) (o := .cells #[.int .i64 a0_0, .int .i64 a0_1, .int .i64 a0_2, .int .i64 a0_3, .int .i64 a0_4, .int .i64 a0_5] 29 (0, 0)) (by (with_reducible repeat (first | refine blk_drewN ?_ _ | refine blk_drew ?_ | refine blk_alloc ?_ _)); exact BK122.out) hb); have n2_ := Aside0.mk (below_step (by repeat (first | (with_reducible first | exact HB.out | apply below_alloc | apply pw_below_drewN | apply below_drew1 | refine below_set ?_ GE122.out) | exact HB.out)) hb); clear BK122; clear HB; have HO126 := n0_; have BK122 := n1_; have HB := n2_; clear n0_ n1_ n2_; clear hb ho14))
    go_ret
    exact ⟨_, by first | rfl | (simp [errW_none, errW_some] <;> rfl) | (simp [*, errW_none, errW_some] <;> rfl), by (with_reducible repeat (first | apply Kd.R_alloc | apply Kd.R_drewN | apply Kd.R_drew)); exact HO126.out, by repeat (first | (with_reducible first | exact HB.out | apply below_alloc | apply pw_below_drewN | apply below_drew1 | refine below_set ?_ GE122.out) | exact HB.out)⟩
end Go.Proofs.Ytmklpbmlgjkbiaa.PS
end
section
namespace Go.Proofs.Ytmklpbmlgjkbiaa.PS
open Go.RowKit Go.Proofs.YtmklpbmlgjkbiaaW.PrintWords Go.Proofs.YtmklpbmlgjkbiaaW.PrintLast
set_option linter.unusedVariables false
theorem specUses_eq (k r s t vk vn : Int) : spec_OpUses.f 3 k r s t vk vn = some (if opB k r s t vk vn = true then usesL k r s else []) := by
  unfold spec_OpUses.f opV.f
  simp only [Option.bind_some]
  by_cases h : opB k r s t vk vn = true
  · rw [if_pos h, if_pos h]
    have : spec_l2Uses.f 3 k r s t vk vn = some (usesL k r s) := by
      unfold spec_l2Uses.f usesL
      by_cases h2 : k = 2
      · simp [h2]
      by_cases h3 : k = 3
      · simp [h3, spec_l2Uses.j0]
      by_cases h6 : k = 6
      · simp [h6, spec_l2Uses.j0]
      by_cases h10 : k = 10
      · simp [h10, spec_l2Uses.j0, spec_l2Uses.j1]
      by_cases h11 : k = 11
      · simp [h11, spec_l2Uses.j0, spec_l2Uses.j1]
      by_cases h12 : k = 12
      · simp [h12, spec_l2Uses.j0, spec_l2Uses.j1]
      by_cases h14 : k = 14
      · simp [h14, spec_l2Uses.j0, spec_l2Uses.j1]
      simp [h2, h3, h6, h10, h11, h12, h14, spec_l2Uses.j0, spec_l2Uses.j1]
    rw [this]; rfl
  · rw [if_neg h, if_neg h]
theorem spec_OpUses_as.calls (a0_0 : Int) (a0_1 : Int) (a0_2 : Int) (a0_3 : Int) (a0_4 : Int) (a0_5 : Int) (r : List Int) (w : World) (h : usesV.f a0_0 a0_1 a0_2 a0_3 a0_4 a0_5 = some r) :
    Calls Try.prog 26 #[.agg #[.int .i64 a0_0, .int .i64 a0_1, .int .i64 a0_2, .int .i64 a0_3, .int .i64 a0_4, .int .i64 a0_5]] w fun e w' => ∃ v0_ : Value, e = .returned (v0_) ∧ Kd.R (Kd.int .i64) 3 w' w.heap.size (fun _ => True) v0_ r ∧ Below w.heap.size w w' :=
  spec_OpUses.calls 3 a0_0 a0_1 a0_2 a0_3 a0_4 a0_5 r w ((specUses_eq _ _ _ _ _ _).trans h)
end Go.Proofs.Ytmklpbmlgjkbiaa.PS
end
section
namespace Go.Proofs.Ytmklpbmlgjkbiaa.PS
open Go.RowKit Go.Proofs.YtmklpbmlgjkbiaaW.PrintWords Go.Proofs.YtmklpbmlgjkbiaaW.PrintLast
set_option linter.unusedVariables false
set_option linter.unusedSimpArgs false
set_option maxRecDepth 100000
attribute [local go_sem high] eqA27
set_option maxHeartbeats 8000000 in
theorem implOp_walk (k r s t vk vn : Int) (w : World) (g hv vb : Bool) (F : UInt8 → Int → Int → Bool) (x : S66)
    (hHow : ∀ W, Calls Try.prog 67 #[.agg #[.int .i64 k, .int .i64 r, .int .i64 s, .int .i64 t, .int .i64 vk, .int .i64 vn]] W fun e w' => e = .returned (.agg #[.string x.f0, .string x.f1, .string x.f2, .bool x.f3]) ∧ Below W.heap.size W w')
    (hHas : ∀ W, Calls Try.prog 64 #[.agg #[.int .i64 k, .int .i64 r, .int .i64 s, .int .i64 t, .int .i64 vk, .int .i64 vn], .string ⟨#[86]⟩] W fun e w' => e = .returned (.bool hv) ∧ Below W.heap.size W w')
    (hVal : ∀ W, Calls Try.prog 66 #[.agg #[.int .i64 k, .int .i64 r, .int .i64 s, .int .i64 t, .int .i64 vk, .int .i64 vn]] W fun e w' => e = .returned (.bool vb) ∧ Below W.heap.size W w')
    (hF : ∀ (c : UInt8) (n m : Int) (W : World) (hB : W.heap[w.heap.size]? = some (.cells #[.int .i64 k, .int .i64 r, .int .i64 s, .int .i64 t, .int .i64 vk, .int .i64 vn] 29 (0, 0))),
      Calls Try.prog 63 #[.string ⟨#[c]⟩, .int .i64 n, .int .i64 m, .pointer (some ⟨w.heap.size, 0, none⟩)] W fun e w' => e = .returned (.bool (F c n m)) ∧ Below W.heap.size W w')
    (hg : Aside0 (g = (!x.f0.toList.isEmpty && (F 82 r 3 && (F 83 s 3 && (F 84 t 15 && if hv = true then vb else (vk == 0 && (vn == 0)))))))) :
    Calls Try.prog 25 #[.agg #[.int .i64 k, .int .i64 r, .int .i64 s, .int .i64 t, .int .i64 vk, .int .i64 vn]] w fun e w' => e = .returned (.bool g) ∧ Below w.heap.size w w' := by
  have BK : Aside0 ((w.alloc (.cells #[.int .i64 k, .int .i64 r, .int .i64 s, .int .i64 t, .int .i64 vk, .int .i64 vn] 29)).heap[w.heap.size]? = some (.cells #[.int .i64 k, .int .i64 r, .int .i64 s, .int .i64 t, .int .i64 vk, .int .i64 vn] 29 (0, 0))) := ⟨blk_new _ _⟩
  have HB := Aside0.mk (Below.refl w.heap.size w)
  have hu27 := Try.underlying27
  have hu29 := Try.underlying29
  have hfd : ∀ (a b c d : Value) (W : World), Sem.run Try.prog (Instr.field 66 (.agg #[a, b, c, d]) 0) W = .ok a W := fun _ _ _ _ _ => by kernel_rfl
  cases hv
  · go_enter Try.func25, Try.ntmps25
    go_wp2_with (first | (go_at_call 64; refine (hHas _).mono ?_; rintro e w' ⟨rfl, hb⟩; have BK := Aside0.mk (blk_below (by (with_reducible repeat (first | refine blk_drewN ?_ _ | refine blk_drew ?_ | refine blk_alloc ?_ _)); exact BK.out) hb); have HB := Aside0.mk (below_step (by repeat (first | (with_reducible first | exact HB.out | apply below_alloc | apply pw_below_drewN | apply below_drew1) | exact HB.out)) hb); have q0 : w'.cell? ⟨w.heap.size, 0, none⟩ = some (.int .i64 k) := (blk_cell BK.out 0).trans rfl; have q1 : w'.cell? ⟨w.heap.size, 1, none⟩ = some (.int .i64 r) := (blk_cell BK.out 1).trans rfl; have q2 : w'.cell? ⟨w.heap.size, 2, none⟩ = some (.int .i64 s) := (blk_cell BK.out 2).trans rfl; have q3 : w'.cell? ⟨w.heap.size, 3, none⟩ = some (.int .i64 t) := (blk_cell BK.out 3).trans rfl; have q4 : w'.cell? ⟨w.heap.size, 4, none⟩ = some (.int .i64 vk) := (blk_cell BK.out 4).trans rfl; have q5 : w'.cell? ⟨w.heap.size, 5, none⟩ = some (.int .i64 vn) := (blk_cell BK.out 5).trans rfl; clear hb) | (go_at_call 66; refine (hVal _).mono ?_; rintro e w' ⟨rfl, hb⟩; have BK := Aside0.mk (blk_below (by (with_reducible repeat (first | refine blk_drewN ?_ _ | refine blk_drew ?_ | refine blk_alloc ?_ _)); exact BK.out) hb); have HB := Aside0.mk (below_step (by repeat (first | (with_reducible first | exact HB.out | apply below_alloc | apply pw_below_drewN | apply below_drew1) | exact HB.out)) hb); have q0 : w'.cell? ⟨w.heap.size, 0, none⟩ = some (.int .i64 k) := (blk_cell BK.out 0).trans rfl; have q1 : w'.cell? ⟨w.heap.size, 1, none⟩ = some (.int .i64 r) := (blk_cell BK.out 1).trans rfl; have q2 : w'.cell? ⟨w.heap.size, 2, none⟩ = some (.int .i64 s) := (blk_cell BK.out 2).trans rfl; have q3 : w'.cell? ⟨w.heap.size, 3, none⟩ = some (.int .i64 t) := (blk_cell BK.out 3).trans rfl; have q4 : w'.cell? ⟨w.heap.size, 4, none⟩ = some (.int .i64 vk) := (blk_cell BK.out 4).trans rfl; have q5 : w'.cell? ⟨w.heap.size, 5, none⟩ = some (.int .i64 vn) := (blk_cell BK.out 5).trans rfl; clear hb) | (go_at_call 67; refine (hHow _).mono ?_; rintro e w' ⟨rfl, hb⟩; have BK := Aside0.mk (blk_below (by (with_reducible repeat (first | refine blk_drewN ?_ _ | refine blk_drew ?_ | refine blk_alloc ?_ _)); exact BK.out) hb); have HB := Aside0.mk (below_step (by repeat (first | (with_reducible first | exact HB.out | apply below_alloc | apply pw_below_drewN | apply below_drew1) | exact HB.out)) hb); have q0 : w'.cell? ⟨w.heap.size, 0, none⟩ = some (.int .i64 k) := (blk_cell BK.out 0).trans rfl; have q1 : w'.cell? ⟨w.heap.size, 1, none⟩ = some (.int .i64 r) := (blk_cell BK.out 1).trans rfl; have q2 : w'.cell? ⟨w.heap.size, 2, none⟩ = some (.int .i64 s) := (blk_cell BK.out 2).trans rfl; have q3 : w'.cell? ⟨w.heap.size, 3, none⟩ = some (.int .i64 t) := (blk_cell BK.out 3).trans rfl; have q4 : w'.cell? ⟨w.heap.size, 4, none⟩ = some (.int .i64 vk) := (blk_cell BK.out 4).trans rfl; have q5 : w'.cell? ⟨w.heap.size, 5, none⟩ = some (.int .i64 vn) := (blk_cell BK.out 5).trans rfl; clear hb) | (go_at_call 63; refine (hF _ _ _ _ (by (with_reducible repeat (first | refine blk_drewN ?_ _ | refine blk_drew ?_ | refine blk_alloc ?_ _)); exact BK.out)).mono ?_; rintro e w' ⟨rfl, hb⟩; have BK := Aside0.mk (blk_below (by (with_reducible repeat (first | refine blk_drewN ?_ _ | refine blk_drew ?_ | refine blk_alloc ?_ _)); exact BK.out) hb); have HB := Aside0.mk (below_step (by repeat (first | (with_reducible first | exact HB.out | apply below_alloc | apply pw_below_drewN | apply below_drew1) | exact HB.out)) hb); have q0 : w'.cell? ⟨w.heap.size, 0, none⟩ = some (.int .i64 k) := (blk_cell BK.out 0).trans rfl; have q1 : w'.cell? ⟨w.heap.size, 1, none⟩ = some (.int .i64 r) := (blk_cell BK.out 1).trans rfl; have q2 : w'.cell? ⟨w.heap.size, 2, none⟩ = some (.int .i64 s) := (blk_cell BK.out 2).trans rfl; have q3 : w'.cell? ⟨w.heap.size, 3, none⟩ = some (.int .i64 t) := (blk_cell BK.out 3).trans rfl; have q4 : w'.cell? ⟨w.heap.size, 4, none⟩ = some (.int .i64 vk) := (blk_cell BK.out 4).trans rfl; have q5 : w'.cell? ⟨w.heap.size, 5, none⟩ = some (.int .i64 vn) := (blk_cell BK.out 5).trans rfl; clear hb))
    all_goals go_ret
    all_goals refine ⟨?_, HB.out⟩
    all_goals (rw [hg.out]; simp [*])
  · go_enter Try.func25, Try.ntmps25
    go_wp2_with (first | (go_at_call 64; refine (hHas _).mono ?_; rintro e w' ⟨rfl, hb⟩; have BK := Aside0.mk (blk_below (by (with_reducible repeat (first | refine blk_drewN ?_ _ | refine blk_drew ?_ | refine blk_alloc ?_ _)); exact BK.out) hb); have HB := Aside0.mk (below_step (by repeat (first | (with_reducible first | exact HB.out | apply below_alloc | apply pw_below_drewN | apply below_drew1) | exact HB.out)) hb); have q0 : w'.cell? ⟨w.heap.size, 0, none⟩ = some (.int .i64 k) := (blk_cell BK.out 0).trans rfl; have q1 : w'.cell? ⟨w.heap.size, 1, none⟩ = some (.int .i64 r) := (blk_cell BK.out 1).trans rfl; have q2 : w'.cell? ⟨w.heap.size, 2, none⟩ = some (.int .i64 s) := (blk_cell BK.out 2).trans rfl; have q3 : w'.cell? ⟨w.heap.size, 3, none⟩ = some (.int .i64 t) := (blk_cell BK.out 3).trans rfl; have q4 : w'.cell? ⟨w.heap.size, 4, none⟩ = some (.int .i64 vk) := (blk_cell BK.out 4).trans rfl; have q5 : w'.cell? ⟨w.heap.size, 5, none⟩ = some (.int .i64 vn) := (blk_cell BK.out 5).trans rfl; clear hb) | (go_at_call 66; refine (hVal _).mono ?_; rintro e w' ⟨rfl, hb⟩; have BK := Aside0.mk (blk_below (by (with_reducible repeat (first | refine blk_drewN ?_ _ | refine blk_drew ?_ | refine blk_alloc ?_ _)); exact BK.out) hb); have HB := Aside0.mk (below_step (by repeat (first | (with_reducible first | exact HB.out | apply below_alloc | apply pw_below_drewN | apply below_drew1) | exact HB.out)) hb); have q0 : w'.cell? ⟨w.heap.size, 0, none⟩ = some (.int .i64 k) := (blk_cell BK.out 0).trans rfl; have q1 : w'.cell? ⟨w.heap.size, 1, none⟩ = some (.int .i64 r) := (blk_cell BK.out 1).trans rfl; have q2 : w'.cell? ⟨w.heap.size, 2, none⟩ = some (.int .i64 s) := (blk_cell BK.out 2).trans rfl; have q3 : w'.cell? ⟨w.heap.size, 3, none⟩ = some (.int .i64 t) := (blk_cell BK.out 3).trans rfl; have q4 : w'.cell? ⟨w.heap.size, 4, none⟩ = some (.int .i64 vk) := (blk_cell BK.out 4).trans rfl; have q5 : w'.cell? ⟨w.heap.size, 5, none⟩ = some (.int .i64 vn) := (blk_cell BK.out 5).trans rfl; clear hb) | (go_at_call 67; refine (hHow _).mono ?_; rintro e w' ⟨rfl, hb⟩; have BK := Aside0.mk (blk_below (by (with_reducible repeat (first | refine blk_drewN ?_ _ | refine blk_drew ?_ | refine blk_alloc ?_ _)); exact BK.out) hb); have HB := Aside0.mk (below_step (by repeat (first | (with_reducible first | exact HB.out | apply below_alloc | apply pw_below_drewN | apply below_drew1) | exact HB.out)) hb); have q0 : w'.cell? ⟨w.heap.size, 0, none⟩ = some (.int .i64 k) := (blk_cell BK.out 0).trans rfl; have q1 : w'.cell? ⟨w.heap.size, 1, none⟩ = some (.int .i64 r) := (blk_cell BK.out 1).trans rfl; have q2 : w'.cell? ⟨w.heap.size, 2, none⟩ = some (.int .i64 s) := (blk_cell BK.out 2).trans rfl; have q3 : w'.cell? ⟨w.heap.size, 3, none⟩ = some (.int .i64 t) := (blk_cell BK.out 3).trans rfl; have q4 : w'.cell? ⟨w.heap.size, 4, none⟩ = some (.int .i64 vk) := (blk_cell BK.out 4).trans rfl; have q5 : w'.cell? ⟨w.heap.size, 5, none⟩ = some (.int .i64 vn) := (blk_cell BK.out 5).trans rfl; clear hb) | (go_at_call 63; refine (hF _ _ _ _ (by (with_reducible repeat (first | refine blk_drewN ?_ _ | refine blk_drew ?_ | refine blk_alloc ?_ _)); exact BK.out)).mono ?_; rintro e w' ⟨rfl, hb⟩; have BK := Aside0.mk (blk_below (by (with_reducible repeat (first | refine blk_drewN ?_ _ | refine blk_drew ?_ | refine blk_alloc ?_ _)); exact BK.out) hb); have HB := Aside0.mk (below_step (by repeat (first | (with_reducible first | exact HB.out | apply below_alloc | apply pw_below_drewN | apply below_drew1) | exact HB.out)) hb); have q0 : w'.cell? ⟨w.heap.size, 0, none⟩ = some (.int .i64 k) := (blk_cell BK.out 0).trans rfl; have q1 : w'.cell? ⟨w.heap.size, 1, none⟩ = some (.int .i64 r) := (blk_cell BK.out 1).trans rfl; have q2 : w'.cell? ⟨w.heap.size, 2, none⟩ = some (.int .i64 s) := (blk_cell BK.out 2).trans rfl; have q3 : w'.cell? ⟨w.heap.size, 3, none⟩ = some (.int .i64 t) := (blk_cell BK.out 3).trans rfl; have q4 : w'.cell? ⟨w.heap.size, 4, none⟩ = some (.int .i64 vk) := (blk_cell BK.out 4).trans rfl; have q5 : w'.cell? ⟨w.heap.size, 5, none⟩ = some (.int .i64 vn) := (blk_cell BK.out 5).trans rfl; clear hb))
    all_goals go_ret
    all_goals refine ⟨?_, HB.out⟩
    all_goals (rw [hg.out]; simp [*])
end Go.Proofs.Ytmklpbmlgjkbiaa.PS
end
section
namespace Go.Proofs.Ytmklpbmlgjkbiaa.PS
open Go.RowKit Go.Proofs.YtmklpbmlgjkbiaaW.PrintWords Go.Proofs.YtmklpbmlgjkbiaaW.PrintLast
set_option linter.unusedVariables false
theorem fieldB_eq (h : Bool) (n m : Int) (hm : 0 ≤ m) : fieldB h n m = decide (n = 0 ∨ (h = true ∧ 0 ≤ n ∧ n ≤ m)) := by
  unfold fieldB
  cases h
  · simp
  · simp; omega
theorem word_some (k : Int) : (!(howR k).f0.toList.isEmpty) = decide (1 ≤ k ∧ k ≤ 14) := by
  rw [Lib.toList_data]
  refine kinds (P := fun k => (!(howR k).f0.data.toList.isEmpty) = decide (1 ≤ k ∧ k ≤ 14)) (fun k hk => ?_) (by decide) (by decide) (by decide) (by decide) (by decide) (by decide) (by decide) (by decide) (by decide) (by decide) (by decide) (by decide) (by decide) (by decide) k
  unfold howR
  rw [if_neg hk, decide_eq_false hk]; decide
theorem opB_eq (k r s t vk vn : Int) : opB k r s t vk vn = (!(howR k).f0.toList.isEmpty && (fieldB (hasC k 82) r 3 && (fieldB (hasC k 83) s 3 && (fieldB (hasC k 84) t 15 && if hasC k 86 = true then valB k vk vn else (vk == 0 && (vn == 0)))))) := by
  rw [word_some, hasC_R, hasC_S, hasC_T, hasC_V, fieldB_eq _ _ _ (by omega), fieldB_eq _ _ _ (by omega), fieldB_eq _ _ _ (by omega)]
  have hv : (if hasV k = true then valB k vk vn else (vk == 0 && (vn == 0))) = decide (valP k vk vn ∧ (hasV k = true ∨ (vk = 0 ∧ vn = 0))) := by
    by_cases h : hasV k = true
    · rw [if_pos h]; unfold valB; simp [h]
    · rw [if_neg h]
      have h8 : k ≠ 8 ∧ k ≠ 13 := by unfold hasV at h; simp at h; omega
      by_cases hz : vk = 0 ∧ vn = 0
      · obtain ⟨rfl, rfl⟩ := hz
        have : valP k 0 0 := ⟨Or.inl ⟨rfl, rfl⟩, fun e => absurd e h8.1, fun e => absurd e h8.2⟩
        simp [this]
      · have e1 : (vk == 0 && (vn == 0)) = false := by
          by_cases a : vk = 0 <;> by_cases b : vn = 0 <;> simp [a, b] <;> simp_all
        rw [e1]
        exact (decide_eq_false (fun ⟨_, g⟩ => g.elim h hz)).symm
  rw [hv]
  unfold opB
  simp only [← Bool.decide_and]
  apply decide_eq_decide.2
  unfold opP
  constructor
  · rintro ⟨a, b, c, d, e, f⟩; exact ⟨a, c, d, e, b, f⟩
  · rintro ⟨a, c, d, e, b, f⟩; exact ⟨a, b, c, d, e, f⟩
theorem impl_OpOk.calls (k r s t vk vn : Int) (b : Bool) (w : World) (h : opV.f k r s t vk vn = some b) :
    Calls Try.prog 25 #[.agg #[.int .i64 k, .int .i64 r, .int .i64 s, .int .i64 t, .int .i64 vk, .int .i64 vn]] w fun e w' => e = .returned (.bool b) ∧ Below w.heap.size w w' := by
  refine implOp_walk k r s t vk vn w b (hasC k 86) (valB k vk vn) (fun c n m => fieldB (hasC k c) n m) (howR k) (fun W => impl_Op_how.calls k r s t vk vn _ _ _ _ W rfl) (fun W => has_any k r s t vk vn 86 W)
    (fun W => valOp_any k r s t vk vn W) (fun c n m W hB => field_any w.heap.size k r s t vk vn c n m W hB) ⟨?_⟩
  rw [← opB_eq]
  exact (Option.some.inj h).symm
end Go.Proofs.Ytmklpbmlgjkbiaa.PS
end
section
namespace Go.Proofs.Ytmklpbmlgjkbiaa.PS
open Go.RowKit Go.Proofs.YtmklpbmlgjkbiaaW.PrintWords Go.Proofs.YtmklpbmlgjkbiaaW.PrintLast
set_option linter.unusedVariables false
set_option linter.unusedSimpArgs false
set_option maxRecDepth 100000
set_option maxHeartbeats 4000000 in
theorem uses_no (k r s t vk vn : Int) (w : World) (hn : Aside0 (opB k r s t vk vn = false)) :
    Calls Try.prog 27 #[.agg #[.int .i64 k, .int .i64 r, .int .i64 s, .int .i64 t, .int .i64 vk, .int .i64 vn]] w fun e w' => e = .returned (.slice none 0 0) ∧ Below w.heap.size w w' := by
  have hOk := fun W : World => impl_OpOk.calls k r s t vk vn false W (by rw [← hn.out]; rfl)
  go_enter Try.func27, Try.ntmps27
  go_wp2_with (go_at_call 25; refine (hOk _).mono ?_; rintro e w' ⟨rfl, hb⟩)
  go_ret
  exact ⟨rfl, below_step (below_alloc (Below.refl _ _) _) hb⟩
def pickL (r s : Int) (l : List UInt8) : List Int := l.map fun c => if c = 82 then r else s
theorem pickL_snoc (r s : Int) (l : List UInt8) (c : UInt8) : pickL r s (l ++ [c]) = pickL r s l ++ [if c = 82 then r else s] := by simp [pickL]
theorem take_snoc (s : ByteArray) (k : Nat) (h : k < s.size) : s.data.toList.take (k + 1) = s.data.toList.take k ++ [s[k]] := by
  rw [List.take_succ_eq_append_getElem (by simpa using h)]; rfl
def UsesRel (w : World) (it : Nat) (rd : ByteArray) (k r s t vk vn : Int) (v : Value) (wr : World) : Prop :=
  ∃ pos, pos ≤ rd.size ∧ wr.heap[it]? = some (.stringIter rd pos) ∧ wr.heap[w.heap.size]? = some (.cells #[.int .i64 k, .int .i64 r, .int .i64 s, .int .i64 t, .int .i64 vk, .int .i64 vn] 29 (0, 0)) ∧
    wr.ownsRow (it + 1) 3 1 v pos ((pickL r s (rd.data.toList.take pos)).map (Value.int .i64)) ∧ Below w.heap.size w wr
theorem uses_step {w wq w1 : World} {it pos : Nat} {rd : ByteArray} {k r s t vk vn : Int} {v v' : Value} {xs : List Value} (X : Int) (hw2 : w.heap.size < it) (hqi : wq.heap[it]? = some (.stringIter rd (pos + 1)))
    (hqb : wq.heap[w.heap.size]? = some (.cells #[.int .i64 k, .int .i64 r, .int .i64 s, .int .i64 t, .int .i64 vk, .int .i64 vn] 29 (0, 0))) (hqbl : Below w.heap.size w wq)
    (hl : (pickL r s (rd.data.toList.take (pos + 1))).map (Value.int .i64) = xs ++ [.int .i64 X]) (hlt : pos < rd.size) (hown : (wq.alloc (.cells #[.int .i64 X] 3)).ownsRow (it + 1) 3 1 v pos xs) (hown' : w1.ownsRow (it + 1) 3 1 v' (pos + 1) (xs ++ [.int .i64 X])) (hgrow : (wq.alloc (.cells #[.int .i64 X] 3)).grownBy w1 v.ownBlock) :
    UsesRel w it rd k r s t vk vn v' w1 := by
  have hne : ∀ g, g ≤ it → some g ≠ v.ownBlock := fun g hg e => by have := own_base hown g e.symm; omega
  refine ⟨pos + 1, hlt, blk_grown (blk_alloc hqi _) hgrow (hne _ (Nat.le_refl _)), blk_grown (blk_alloc hqb _) hgrow (hne _ (Nat.le_of_lt hw2)), by rw [hl]; exact hown', ?_⟩
  exact (below_alloc hqbl _).grown hgrow (below_alloc hqbl _).size (fun b hb => by have := own_base hown b hb; omega)
theorem uses_measure {wr wq w1 : World} {it pos : Nat} {rd : ByteArray} {v : Value} {X : Int} {xs : List Value} (hqi : wq.heap[it]? = some (.stringIter rd (pos + 1))) (hown : (wq.alloc (.cells #[.int .i64 X] 3)).ownsRow (it + 1) 3 1 v pos xs) (hgrow : (wq.alloc (.cells #[.int .i64 X] 3)).grownBy w1 v.ownBlock) (hit : wr.heap[it]? = some (.stringIter rd pos)) (hlt : pos < rd.size) :
    rd.size - w1.iterPos it < rd.size - wr.iterPos it := by
  have hne : some it ≠ v.ownBlock := fun e => by have := own_base hown it e.symm; omega
  rw [iterPos_of hit, iterPos_of (blk_grown (blk_alloc hqi _) hgrow hne)]
  omega
set_option maxHeartbeats 4000000 in
theorem uses_yes (k r s t vk vn : Int) (x : S66) (rd : ByteArray) (w : World) (hx : Aside0 (x = howR k)) (hy : Aside0 (opB k r s t vk vn = true)) (hr : Aside0 (x.f2 = rd)) (hsz : rd.size ≤ 2) (ha : Aside0 (∀ i (h : i < rd.size), rd[i] = 82 ∨ rd[i] = 83)) :
    Calls Try.prog 27 #[.agg #[.int .i64 k, .int .i64 r, .int .i64 s, .int .i64 t, .int .i64 vk, .int .i64 vn]] w fun e w' => ∃ v0_ : Value, e = .returned v0_ ∧ w'.ownsRow w.heap.size 3 1 v0_ rd.size ((pickL r s rd.data.toList).map (Value.int .i64)) ∧ Below w.heap.size w w' := by
  have hOk := fun W : World => impl_OpOk.calls k r s t vk vn true W (by rw [← hy.out]; rfl)
  have hHow := fun W : World => impl_Op_how.calls k r s t vk vn x.f0 x.f1 rd x.f3 W (by rw [← hr.out, hx.out]; rfl)
  have hfd : ∀ (a b c d : Value) (W : World), Sem.run Try.prog (Instr.field 66 (.agg #[a, b, c, d]) 2) W = .ok c W := fun _ _ _ _ _ => by kernel_rfl
  obtain ⟨i0, hi, hz0, hz1, hz2⟩ := info_parts info3
  have BK : Aside0 ((w.alloc (.cells #[.int .i64 k, .int .i64 r, .int .i64 s, .int .i64 t, .int .i64 vk, .int .i64 vn] 29)).heap[w.heap.size]? = some (.cells #[.int .i64 k, .int .i64 r, .int .i64 s, .int .i64 t, .int .i64 vk, .int .i64 vn] 29 (0, 0))) := ⟨blk_new _ _⟩
  have HB := Aside0.mk (Below.refl w.heap.size w)
  go_enter Try.func27, Try.ntmps27
  go_wp2_with (first | (go_at_call 25; refine (hOk _).mono ?_; rintro e w' ⟨rfl, hb⟩; obtain ⟨b1, b2⟩ := bcell hb; have hz := hb.size; have HB := Aside0.mk (below_step (below_alloc HB.out _) hb); have BK := Aside0.mk (blk_below BK.out hb)) | (go_at_call 67; refine (hHow _).mono ?_; rintro e w'2 ⟨rfl, hb2⟩; have HB := Aside0.mk (below_step HB.out hb2); have BK := Aside0.mk (blk_below BK.out hb2); clear b1 b2 hz hb hb2))
  go_loopw [3] (fun v wr => UsesRel w w'2.heap.size rd k r s t vk vn v wr) (fun _ wr => rd.size - wr.iterPos w'2.heap.size)
  case atStart =>
    exact ⟨0, Nat.zero_le _, World.iter_heap _ _ _, blk_alloc BK.out _, World.ownsRow_nil _ _ _ _, below_alloc HB.out _⟩
  case round =>
    obtain ⟨pos, hp, hit0, hbk0, hown0, hbl0⟩ := hrel
    have hit := Aside0.mk hit0; have hbk := Aside0.mk hbk0; have hbl := Aside0.mk hbl0; have hownA := Aside0.mk hown0
    have hw2 : w.heap.size < w'2.heap.size := by have := blk_lt BK.out; exact this
    clear hit0 hbk0 hbl0 hown0
    by_cases hlt : pos < rd.size
    · have hnx := fun ty => Lib.run_next_ascii_at (P := Try.prog) wr w'2.heap.size rd pos ty hit.out hlt (by rcases ha.out pos hlt with h | h <;> rw [h] <;> decide)
      have hqi : Aside0 ((wr.iterAt w'2.heap.size rd (pos + 1)).heap[w'2.heap.size]? = some (.stringIter rd (pos + 1))) := ⟨Lib.iterAt_heap _ _ _ _ _ hit.out⟩
      have hqb : Aside0 ((wr.iterAt w'2.heap.size rd (pos + 1)).heap[w.heap.size]? = some (.cells #[.int .i64 k, .int .i64 r, .int .i64 s, .int .i64 t, .int .i64 vk, .int .i64 vn] 29 (0, 0))) := ⟨(Lib.iterAt_other _ _ _ _ _ (Nat.ne_of_lt hw2)).trans hbk.out⟩
      have hqbl : Aside0 (Below w.heap.size w (wr.iterAt w'2.heap.size rd (pos + 1))) := ⟨Lib.below_iterAt hbl.out (Nat.le_of_lt hw2) _ _⟩
      have hown := ownsRow_iterAt hownA.out (Nat.lt_succ_self w'2.heap.size) rd (pos + 1)
      have hsize : w'2.heap.size < (wr.iterAt w'2.heap.size rd (pos + 1)).heap.size := blk_lt hqi.out
      generalize wr.iterAt w'2.heap.size rd (pos + 1) = wq at hnx hqi hqb hqbl hown hsize
      rcases ha.out pos hlt with hc | hc
      all_goals rw [hc] at hnx
      · have hcv : Aside0 ((if rd[pos] = 82 then r else s) = r) := ⟨by rw [hc]; rfl⟩
        clear hc
        obtain ⟨hq1, hq2⟩ : wq.cell? ⟨w.heap.size, 1, none⟩ = some (.int .i64 r) ∧ wq.cell? ⟨w.heap.size, 2, none⟩ = some (.int .i64 s) := ⟨(blk_cell hqb.out 1).trans rfl, (blk_cell hqb.out 2).trans rfl⟩
        go_wp2_with (first | (at_builtin; refine wpList_append_own _ rfl _ _ 32 rfl (w'2.heap.size + 1) 3 i0 (.int .i64 0) 1 8 Try.underlying32 hi hz0 hz1 hz2 rfl (by decide) _ _ _ rfl (hown.alloc _) ⟨wq.heap.size, 0, none⟩ 1 1 [.int .i64 r] rfl rfl (cell_one_new _ _ _) (by simp [Value.oneCell']) (by unfold maxLen; omega) (by omega) (by simp; omega) ?_; intro v' w1 hown' hgrow _))
        go_roundw
        case rel => exact uses_step r hw2 hqi.out hqb.out hqbl.out (by rw [take_snoc rd pos hlt, pickL_snoc, hcv.out]; simp) hlt (hown.alloc _) hown' hgrow
        case measure => exact uses_measure hqi.out (hown.alloc _) hgrow hit.out hlt
      · have hcv : Aside0 ((if rd[pos] = 82 then r else s) = s) := ⟨by rw [hc]; rfl⟩
        clear hc
        obtain ⟨hq1, hq2⟩ : wq.cell? ⟨w.heap.size, 1, none⟩ = some (.int .i64 r) ∧ wq.cell? ⟨w.heap.size, 2, none⟩ = some (.int .i64 s) := ⟨(blk_cell hqb.out 1).trans rfl, (blk_cell hqb.out 2).trans rfl⟩
        go_wp2_with (first | (at_builtin; refine wpList_append_own _ rfl _ _ 32 rfl (w'2.heap.size + 1) 3 i0 (.int .i64 0) 1 8 Try.underlying32 hi hz0 hz1 hz2 rfl (by decide) _ _ _ rfl (hown.alloc _) ⟨wq.heap.size, 0, none⟩ 1 1 [.int .i64 s] rfl rfl (cell_one_new _ _ _) (by simp [Value.oneCell']) (by unfold maxLen; omega) (by omega) (by simp; omega) ?_; intro v' w1 hown' hgrow _))
        go_roundw
        case rel => exact uses_step s hw2 hqi.out hqb.out hqbl.out (by rw [take_snoc rd pos hlt, pickL_snoc, hcv.out]; simp) hlt (hown.alloc _) hown' hgrow
        case measure => exact uses_measure hqi.out (hown.alloc _) hgrow hit.out hlt
    · have hnx := fun ty => Lib.run_next_end_at (P := Try.prog) wr w'2.heap.size rd pos ty hit.out hlt
      obtain rfl : pos = rd.size := by omega
      go_wp2
      go_ret
      refine ⟨_, rfl, ?_, hbl.out⟩
      have := hownA.out
      rw [List.take_of_length_le (by simp)] at this
      exact own_weaken this (by omega)
def readsB (k : Int) : ByteArray := (howR k).f2
theorem reads_ok (k : Int) : (readsB k).size ≤ 2 ∧ (∀ i (h : i < (readsB k).size), (readsB k)[i] = 82 ∨ (readsB k)[i] = 83) := by
  refine kinds (P := fun k => (readsB k).size ≤ 2 ∧ (∀ i (h : i < (readsB k).size), (readsB k)[i] = 82 ∨ (readsB k)[i] = 83)) (fun k hk => ?_) (by decide) (by decide) (by decide) (by decide) (by decide) (by decide) (by decide) (by decide) (by decide) (by decide) (by decide) (by decide) (by decide) (by decide) k
  unfold readsB howR
  rw [if_neg hk]
  exact ⟨by decide, by decide⟩
theorem reads_eq (k r s : Int) : pickL r s (readsB k).data.toList = usesL k r s := by
  refine kinds (P := fun k => pickL r s (readsB k).data.toList = usesL k r s) (fun k hk => ?_) rfl rfl rfl rfl rfl rfl rfl rfl rfl rfl rfl rfl rfl rfl k
  unfold readsB howR usesL
  rw [if_neg hk, if_neg (by omega), if_neg (by omega), if_neg (by omega)]; rfl
theorem impl_OpUses.calls (k r s t vk vn : Int) (l : List Int) (w : World) (h : usesV.f k r s t vk vn = some l) :
    Calls Try.prog 27 #[.agg #[.int .i64 k, .int .i64 r, .int .i64 s, .int .i64 t, .int .i64 vk, .int .i64 vn]] w fun e w' => ∃ v0_ : Value, e = .returned (v0_) ∧ Kd.R (Kd.int .i64) 3 w' w.heap.size (fun _ => True) v0_ l ∧ Below w.heap.size w w' := by
  have h := Option.some.inj h
  by_cases ho : opB k r s t vk vn = true
  · rw [if_pos ho] at h
    obtain ⟨h1, h2⟩ := reads_ok k
    refine (uses_yes k r s t vk vn (howR k) (readsB k) w ⟨rfl⟩ ⟨ho⟩ ⟨rfl⟩ h1 ⟨h2⟩).mono ?_
    rintro e w' ⟨v, rfl, hown, hb⟩
    refine ⟨v, rfl, ?_, hb⟩
    rw [reads_eq, h] at hown
    have hl : (readsB k).size = l.length := by rw [← h, ← reads_eq k r s]; simp [pickL]
    rw [hl] at hown
    exact Kd.R_of_own hown (fun _ _ => trivial)
  · rw [if_neg ho] at h
    subst h
    refine (uses_no k r s t vk vn w ⟨by simpa using ho⟩).mono ?_
    rintro e w' ⟨rfl, hb⟩
    exact ⟨_, rfl, Kd.R_nil _ _ _ _ _, hb⟩
end Go.Proofs.Ytmklpbmlgjkbiaa.PS
end
