/- What the row of JK rests on, part 2. -/
import Derived.Test.YtmklpbmlgjkbiaaProg
import Derived.Below
import Derived.Deep.Draws
import Derived.Deep.AppendLies
import Derived.Maps.AppendAt
import Derived.OwnWalk
import Derived.Laws.BytesArg
import Derived.Laws.MakeOwn
import Derived.Laws.OwnMore
import Derived.Deep.OwnRows
import Derived.Tactics
import Derived.Lib.ConvBytes
import Derived.Laws.Slices
import Derived.WalkKit
import Derived.KernelRfl
import Derived.RowKit3
import Derived.Deep.LoopGhost
import Derived.Deep.QuietTactic
import Derived.BigQuiet
import Derived.WideLaws
import Derived.Deep.DeepCutAuto
import Derived.Deep.CutBlock
import Derived.Deep.RegionHeld3
import Derived.Laws.Rows
import Derived.Lib.AppendStr
import Derived.ArgAppend
import Derived.Laws.IdiomCopy
import Derived.OrdersHeld
import Derived.Laws.BitsLemmas
import Derived.RowKit
import Derived.Laws.StructEq
import Derived.Deep.RegionWith
import Derived.Lib.Bytealg
import Derived.Shelf.Strings.Search3
import Derived.WalkSpells
import Derived.Test.YtmklpbmlgjkbiaaQJK0
set_option linter.unusedVariables false
set_option linter.unusedSimpArgs false
set_option maxHeartbeats 8000000
set_option maxRecDepth 100000
section
namespace Go.Proofs.Ytmklpbmlgjkbiaa.PS
open Go.RowKit Go.Proofs.YtmklpbmlgjkbiaaW.PrintWords Go.Proofs.YtmklpbmlgjkbiaaW.PrintLast Go.Proofs.YtmklpbmlgjkbiaaW.PrintMore
attribute [local go_sem] max2_int min2_int max_two min_two max_three min_three max_four min_four   -- for this text's walks alone
def errW : Option Int → Value
  | none => .nilIface
  | some c => .iface 0 (.int .i64 c)
theorem errW_none : errW none = .nilIface := rfl
theorem errW_some (c : Int) : errW (some c) = .iface 0 (.int .i64 c) := rfl
theorem info3 : (Try.prog.info? 3).map (fun i => (i.zero, i.size, i.bytes)) = some (some (.int .i64 0), 1, 8) := by kernel_rfl
theorem info5 : (Try.prog.info? 5).map (fun i => (i.zero, i.size, i.bytes)) = some (some (.int .u8 0), 1, 1) := by kernel_rfl
theorem info9 : (Try.prog.info? 9).map (fun i => (i.zero, i.size, i.bytes)) = some (some (.string ⟨#[]⟩), 1, 16) := by kernel_rfl
theorem info29 : (Try.prog.info? 29).map (fun i => (i.zero, i.size, i.bytes)) = some (some (.agg #[(.int .i64 0), (.int .i64 0), (.int .i64 0), (.int .i64 0), (.int .i64 0), (.int .i64 0)]), 6, 48) := by kernel_rfl
structure S27 where
  f0 : Int
  f1 : Int
def z27 : S27 := ⟨(0 : Int), (0 : Int)⟩
def k27 : Kd S27 := Kd.iso (Kd.pair (Kd.int .i64) (Kd.int .i64)) (fun x : S27 => (x.f0, x.f1))
theorem k27_heap : Kd.Heap k27 := Kd.heap_iso _ (Kd.heap_pair (Kd.heap_int .i64) (Kd.heap_int .i64))
theorem k27_open {w : World} {x : S27} {cs : List Value} (h : k27.K w x cs) : cs = [.int .i64 x.f0, .int .i64 x.f1] := by
  obtain ⟨_, _, rfl, rfl, rfl⟩ := h
  exact rfl
theorem k27_openM {w : World} {base : Nat} {ok : Nat → Prop} {x : S27} {cs : List Value} (h : k27.M w base ok x cs) : cs = [.int .i64 x.f0, .int .i64 x.f1] := by
  obtain ⟨_, _, rfl, rfl, rfl⟩ := h
  exact rfl
theorem k27_mkM (w : World) (base : Nat) (ok : Nat → Prop) (x : S27)  : k27.M w base ok x [.int .i64 x.f0, .int .i64 x.f1] := ⟨[.int .i64 x.f0], [.int .i64 x.f1], rfl, rfl, rfl⟩
structure S29 where
  f0 : Int
  f1 : Int
  f2 : Int
  f3 : Int
  f4 : S27
def z29 : S29 := ⟨(0 : Int), (0 : Int), (0 : Int), (0 : Int), z27⟩
def k29 : Kd S29 := Kd.iso (Kd.pair (Kd.int .i64) (Kd.pair (Kd.int .i64) (Kd.pair (Kd.int .i64) (Kd.pair (Kd.int .i64) k27)))) (fun x : S29 => (x.f0, x.f1, x.f2, x.f3, x.f4))
theorem k29_heap : Kd.Heap k29 := Kd.heap_iso _ (Kd.heap_pair (Kd.heap_int .i64) (Kd.heap_pair (Kd.heap_int .i64) (Kd.heap_pair (Kd.heap_int .i64) (Kd.heap_pair (Kd.heap_int .i64) k27_heap))))
theorem k29_open {w : World} {x : S29} {cs : List Value} (h : k29.K w x cs) : cs = [.int .i64 x.f0, .int .i64 x.f1, .int .i64 x.f2, .int .i64 x.f3, .int .i64 x.f4.f0, .int .i64 x.f4.f1] := by
  obtain ⟨_, _, rfl, rfl, ⟨_, _, rfl, rfl, ⟨_, _, rfl, rfl, ⟨_, _, rfl, rfl, s4⟩⟩⟩⟩ := h
  obtain rfl := k27_open s4
  exact rfl
theorem k29_openM {w : World} {base : Nat} {ok : Nat → Prop} {x : S29} {cs : List Value} (h : k29.M w base ok x cs) : cs = [.int .i64 x.f0, .int .i64 x.f1, .int .i64 x.f2, .int .i64 x.f3, .int .i64 x.f4.f0, .int .i64 x.f4.f1] := by
  obtain ⟨_, _, rfl, rfl, ⟨_, _, rfl, rfl, ⟨_, _, rfl, rfl, ⟨_, _, rfl, rfl, s4⟩⟩⟩⟩ := h
  obtain rfl := k27_openM s4
  exact rfl
theorem k29_mkM (w : World) (base : Nat) (ok : Nat → Prop) (x : S29)  : k29.M w base ok x [.int .i64 x.f0, .int .i64 x.f1, .int .i64 x.f2, .int .i64 x.f3, .int .i64 x.f4.f0, .int .i64 x.f4.f1] := ⟨[.int .i64 x.f0], [.int .i64 x.f1, .int .i64 x.f2, .int .i64 x.f3, .int .i64 x.f4.f0, .int .i64 x.f4.f1], rfl, rfl, ⟨[.int .i64 x.f1], [.int .i64 x.f2, .int .i64 x.f3, .int .i64 x.f4.f0, .int .i64 x.f4.f1], rfl, rfl, ⟨[.int .i64 x.f2], [.int .i64 x.f3, .int .i64 x.f4.f0, .int .i64 x.f4.f1], rfl, rfl, ⟨[.int .i64 x.f3], [.int .i64 x.f4.f0, .int .i64 x.f4.f1], rfl, rfl, (k27_mkM w base ok x.f4 )⟩⟩⟩⟩
def rd_T29 (xs : List S29) (i : Int) : S29 := xs.getD i.toNat z29
theorem at_T29 {w : World} {A : Option Addr} {n : Nat} {xs : List S29} (h : Kd.C k29 w A n xs) (i : Int) (h0 : 0 ≤ i) (h1 : i < n) : ∃ ad , A = some ad ∧ w.cell? (ad.add (i.toNat * 6)) = some (.int .i64 (rd_T29 xs i).f0) ∧ w.cell? ⟨(ad.add (i.toNat * 6)).block, (ad.add (i.toNat * 6)).off + 1, none⟩ = some (.int .i64 (rd_T29 xs i).f1) ∧ w.cell? ⟨(ad.add (i.toNat * 6)).block, (ad.add (i.toNat * 6)).off + 2, none⟩ = some (.int .i64 (rd_T29 xs i).f2) ∧ w.cell? ⟨(ad.add (i.toNat * 6)).block, (ad.add (i.toNat * 6)).off + 3, none⟩ = some (.int .i64 (rd_T29 xs i).f3) ∧ w.cell? ⟨(ad.add (i.toNat * 6)).block, (ad.add (i.toNat * 6)).off + 4, none⟩ = some (.int .i64 (rd_T29 xs i).f4.f0) ∧ w.cell? ⟨(ad.add (i.toNat * 6)).block, (ad.add (i.toNat * 6)).off + 5, none⟩ = some (.int .i64 (rd_T29 xs i).f4.f1) := by
  obtain ⟨ad, c, e, _, hK, hc0⟩ := Kd.C_get h z29 i h0 h1
  have hc : ∀ j u, c[j]? = some u → w.cell? (ad.add (i.toNat * 6 + j)) = some u := hc0
  obtain rfl := k29_open hK
  exact ⟨ad, e, hc 0 _ rfl, by rw [← add_field _ _ 1 (by omega)]; exact hc 1 _ rfl, by rw [← add_field _ _ 2 (by omega)]; exact hc 2 _ rfl, by rw [← add_field _ _ 3 (by omega)]; exact hc 3 _ rfl, by rw [← add_field _ _ 4 (by omega)]; exact hc 4 _ rfl, by rw [← add_field _ _ 5 (by omega)]; exact hc 5 _ rfl⟩
structure S8 where
  f0 : Int
  f1 : Int
  f2 : Bool
  f3 : Int
def z8 : S8 := ⟨(0 : Int), (0 : Int), false, (0 : Int)⟩
structure S66 where
  f0 : ByteArray
  f1 : ByteArray
  f2 : ByteArray
  f3 : Bool
def z66 : S66 := ⟨(⟨#[]⟩ : ByteArray), (⟨#[]⟩ : ByteArray), (⟨#[]⟩ : ByteArray), false⟩
theorem bA {w W : World} (h : Below w.heap.size w W) (o : Obj) : Below w.heap.size w (W.alloc o) := below_alloc h o
theorem bN {B : Nat} {w W : World} (h : Below B w W) (n : Nat) : Below B w (W.drewN n) := pw_below_drewN h n
theorem b1 {B : Nat} {w W : World} (h : Below B w W) : Below B w W.drew := below_drew1 h
theorem kA {w : World} {g : Nat} {o : Obj} (h : w.heap[g]? = some o) (o' : Obj) : (w.alloc o').heap[g]? = some o := blk_alloc h o'
theorem kD {w : World} {g : Nat} {o : Obj} (h : w.heap[g]? = some o) : w.drew.heap[g]? = some o := h
theorem kN {w : World} {g : Nat} {o : Obj} (h : w.heap[g]? = some o) (n : Nat) : (w.drewN n).heap[g]? = some o := h
section
variable {α : Type} {d : Kd α} {e : Nat} {w : World} {base : Nat} {ok : Nat → Prop} {v : Value} {xs : List α}
theorem rA (h : Kd.R d e w base ok v xs) (o : Obj) : Kd.R d e (w.alloc o) base ok v xs := Kd.R_alloc h o
theorem rD (h : Kd.R d e w base ok v xs) : Kd.R d e w.drew base ok v xs := Kd.R_drew h
theorem rN (h : Kd.R d e w base ok v xs) (m : Nat) : Kd.R d e (w.drewN m) base ok v xs := Kd.R_drewN h m
end
inductive Up : World → World → Type
  | refl (w : World) : Up w w
  | alloc {w W : World} (h : Up w W) (o : Obj) : Up w (W.alloc o)
  | drew {w W : World} (h : Up w W) : Up w W.drew
  | drewN {w W : World} (h : Up w W) (n : Nat) : Up w (W.drewN n)
instance upR (w : World) : Nonempty (Up w w) := ⟨.refl w⟩
instance upA {w W : World} [h : Nonempty (Up w W)] (o : Obj) : Nonempty (Up w (W.alloc o)) := h.elim fun h => ⟨.alloc h o⟩
instance upD {w W : World} [h : Nonempty (Up w W)] : Nonempty (Up w W.drew) := h.elim fun h => ⟨.drew h⟩
instance upN {w W : World} [h : Nonempty (Up w W)] (n : Nat) : Nonempty (Up w (W.drewN n)) := h.elim fun h => ⟨.drewN h n⟩
theorem bU {w V W : World} [u : Nonempty (Up V W)] (k : Below w.heap.size w V) : Below w.heap.size w W := by
  obtain ⟨u⟩ := u
  induction u with
  | refl => exact k
  | alloc _ o ih => exact below_alloc ih o
  | drew _ ih => exact below_drew1 ih
  | drewN _ n ih => exact pw_below_drewN ih n
theorem blkU {V W : World} {g : Nat} {o : Obj} [u : Nonempty (Up V W)] (k : V.heap[g]? = some o) : W.heap[g]? = some o := by
  obtain ⟨u⟩ := u
  induction u with
  | refl => exact k
  | alloc _ o ih => exact blk_alloc ih o
  | drew _ ih => exact blk_drew ih
  | drewN _ n ih => exact blk_drewN ih n
theorem rU {α : Type} {d : Kd α} {e base : Nat} {ok : Nat → Prop} {v : Value} {xs : List α} {V W : World} [u : Nonempty (Up V W)] (k : Kd.R d e V base ok v xs) : Kd.R d e W base ok v xs := by
  obtain ⟨u⟩ := u
  induction u with
  | refl => exact k
  | alloc _ o ih => exact Kd.R_alloc ih o
  | drew _ ih => exact Kd.R_drew ih
  | drewN _ n ih => exact Kd.R_drewN ih n
theorem six_cells {w : World} {g : Nat} {t : TypeId} {a b c d e f : Value} (h : w.heap[g]? = some (.cells #[a, b, c, d, e, f] t (0, 0))) : w.cell? ⟨g, 0, none⟩ = some a ∧ w.cell? ⟨g, 1, none⟩ = some b ∧ w.cell? ⟨g, 2, none⟩ = some c ∧ w.cell? ⟨g, 3, none⟩ = some d ∧ w.cell? ⟨g, 4, none⟩ = some e ∧ w.cell? ⟨g, 5, none⟩ = some f := ⟨(blk_cell h 0).trans rfl, (blk_cell h 1).trans rfl, (blk_cell h 2).trans rfl, (blk_cell h 3).trans rfl, (blk_cell h 4).trans rfl, (blk_cell h 5).trans rfl⟩
theorem six_marks {w : World} {g : Nat} {t : TypeId} {cs : Array Value} (h : w.heap[g]? = some (.cells cs t (0, 0))) : w.frozen? ⟨g, 0, none⟩ = false ∧ w.frozen? ⟨g, 1, none⟩ = false ∧ w.frozen? ⟨g, 2, none⟩ = false ∧ w.frozen? ⟨g, 3, none⟩ = false ∧ w.frozen? ⟨g, 4, none⟩ = false ∧ w.frozen? ⟨g, 5, none⟩ = false := ⟨blk_frozen h 0, blk_frozen h 1, blk_frozen h 2, blk_frozen h 3, blk_frozen h 4, blk_frozen h 5⟩
theorem pS {w w1 : World} {g : Nat} {row : Option Nat} (h : KeepBut w w1 g row) (j : Nat) (u : Value) : KeepBut w (w1.setCell ⟨g, j, none⟩ u) g row := h.set_ j u
theorem pN {w W : World} {g : Nat} {row : Option Nat} (h : KeepBut w W g row) (m : Nat) : KeepBut w (W.drewN m) g row := keep_drewN h m
theorem pD {w W : World} {g : Nat} {row : Option Nat} (h : KeepBut w W g row) : KeepBut w W.drew g row := keep_drew h
theorem pA {w W : World} {g : Nat} (h : KeepBut w W g none) (o : Obj) : KeepBut w (W.alloc o) g none := keep_alloc h o
end Go.Proofs.Ytmklpbmlgjkbiaa.PS
end
section
namespace Go.Proofs.Ytmklpbmlgjkbiaa.PJK
open Go.RowKit Go.Proofs.YtmklpbmlgjkbiaaW.PrintWords Go.Proofs.YtmklpbmlgjkbiaaW.PrintLast Go.Proofs.YtmklpbmlgjkbiaaW.PrintMore Go.Proofs.Ytmklpbmlgjkbiaa.PS
attribute [local go_sem] max2_int min2_int max_two min_two max_three min_three max_four min_four   -- for this text's walks alone
def errW : Option Int → Value
 | none => .nilIface
 | some c => .iface 0 (.int .i64 c)
theorem errW_none : errW none = .nilIface := rfl
theorem errW_some (c : Int) : errW (some c) = .iface 0 (.int .i64 c) := rfl
theorem info29 : (Try.prog.info? 29).map (fun i => (i.zero, i.size, i.bytes)) = some (some (.agg #[(.int .i64 0), (.int .i64 0), (.int .i64 0), (.int .i64 0), (.int .i64 0), (.int .i64 0)]), 6, 48) := by kernel_rfl
end Go.Proofs.Ytmklpbmlgjkbiaa.PJK
end
section
namespace Go.Proofs.Ytmklpbmlgjkbiaa.PS
open Go.RowKit Go.Proofs.YtmklpbmlgjkbiaaW.PrintWords Go.Proofs.YtmklpbmlgjkbiaaW.PrintLast
def okP (k n : Int) : Prop := (k = 0 ∧ n = 0) ∨ (k = 1 ∧ -99 ≤ n ∧ n ≤ 99) ∨ (k = 2 ∧ 0 ≤ n ∧ n ≤ 9) ∨ (k = 3 ∧ 1 ≤ n ∧ n ≤ 6)
instance (k n : Int) : Decidable (okP k n) := by unfold okP; infer_instance
def okB (k n : Int) : Bool := decide (okP k n)
theorem okB_true {k n : Int} : okB k n = true ↔ okP k n := by simp [okB]
theorem okB_false {k n : Int} : okB k n = false ↔ ¬ okP k n := by simp [okB]
def hasR (k : Int) : Bool := decide (1 ≤ k ∧ k ≤ 14 ∧ k ≠ 9 ∧ k ≠ 13)
def hasS (k : Int) : Bool := decide (k = 2 ∨ k = 3 ∨ k = 6 ∨ k = 7 ∨ k = 8)
def hasT (k : Int) : Bool := decide (k = 5 ∨ k = 8 ∨ k = 9 ∨ k = 10)
def hasV (k : Int) : Bool := decide (k = 1 ∨ k = 8 ∨ k = 10 ∨ k = 13)
def formL (k : Int) : List Bool := if 1 ≤ k ∧ k ≤ 14 then [hasR k, hasS k, hasT k, hasV k] else []
def valP (k vk vn : Int) : Prop := okP vk vn ∧ (k = 8 → vk = 1 ∧ 1 ≤ vn) ∧ (k = 13 → vk = 1 ∧ 0 ≤ vn ∧ vn ≤ 1)
instance (k vk vn : Int) : Decidable (valP k vk vn) := by unfold valP; infer_instance
def opP (k r s t vk vn : Int) : Prop :=
  (1 ≤ k ∧ k ≤ 14) ∧ valP k vk vn ∧ (r = 0 ∨ (hasR k = true ∧ 0 ≤ r ∧ r ≤ 3)) ∧ (s = 0 ∨ (hasS k = true ∧ 0 ≤ s ∧ s ≤ 3)) ∧
    (t = 0 ∨ (hasT k = true ∧ 0 ≤ t ∧ t ≤ 15)) ∧ (hasV k = true ∨ (vk = 0 ∧ vn = 0))
instance (k r s t vk vn : Int) : Decidable (opP k r s t vk vn) := by unfold opP; infer_instance
def opB (k r s t vk vn : Int) : Bool := decide (opP k r s t vk vn)
theorem opB_true {k r s t vk vn : Int} : opB k r s t vk vn = true ↔ opP k r s t vk vn := by simp [opB]
theorem opB_false {k r s t vk vn : Int} : opB k r s t vk vn = false ↔ ¬ opP k r s t vk vn := by simp [opB]
def opV.f (k r s t vk vn : Int) : Option Bool := some (opB k r s t vk vn)
def usesL (k r s : Int) : List Int :=
  if k = 2 then [s] else if k = 3 ∨ k = 6 then [r, s] else if k = 10 ∨ k = 11 ∨ k = 12 ∨ k = 14 then [r] else []
def mannersL : List S66 :=
  [⟨⟨#[]⟩, ⟨#[]⟩, ⟨#[]⟩, false⟩,
   ⟨⟨#[115, 101, 116]⟩, ⟨#[82, 86]⟩, ⟨#[]⟩, true⟩,
   ⟨⟨#[109, 111, 118, 101]⟩, ⟨#[82, 83]⟩, ⟨#[83]⟩, true⟩,
   ⟨⟨#[97, 100, 100]⟩, ⟨#[82, 83]⟩, ⟨#[82, 83]⟩, false⟩,
   ⟨⟨#[115, 101, 108, 102]⟩, ⟨#[82]⟩, ⟨#[]⟩, true⟩,
   ⟨⟨#[98, 101, 103, 105, 110]⟩, ⟨#[82, 84]⟩, ⟨#[]⟩, true⟩,
   ⟨⟨#[115, 101, 110, 100]⟩, ⟨#[82, 83]⟩, ⟨#[82, 83]⟩, false⟩,
   ⟨⟨#[116, 97, 107, 101]⟩, ⟨#[82, 83]⟩, ⟨#[]⟩, true⟩,
   ⟨⟨#[97, 102, 116, 101, 114]⟩, ⟨#[82, 83, 84, 86]⟩, ⟨#[]⟩, true⟩,
   ⟨⟨#[103, 111]⟩, ⟨#[84]⟩, ⟨#[]⟩, false⟩,
   ⟨⟨#[105, 102]⟩, ⟨#[82, 84, 86]⟩, ⟨#[82]⟩, false⟩,
   ⟨⟨#[108, 105, 110, 107]⟩, ⟨#[82]⟩, ⟨#[82]⟩, false⟩,
   ⟨⟨#[119, 97, 116, 99, 104]⟩, ⟨#[82]⟩, ⟨#[82]⟩, false⟩,
   ⟨⟨#[116, 114, 97, 112]⟩, ⟨#[86]⟩, ⟨#[]⟩, false⟩,
   ⟨⟨#[101, 110, 100]⟩, ⟨#[82]⟩, ⟨#[82]⟩, false⟩]
def howR (k : Int) : S66 := if 1 ≤ k ∧ k ≤ 14 then mannersL.getD k.toNat z66 else z66
def howV.f (k _r _s _t _vk _vn : Int) : Option (ByteArray × ByteArray × ByteArray × Bool) := some ((howR k).f0, (howR k).f1, (howR k).f2, (howR k).f3)
theorem kinds {P : Int → Prop} (h : ∀ k : Int, ¬ (1 ≤ k ∧ k ≤ 14) → P k) (h1 : P 1) (h2 : P 2) (h3 : P 3) (h4 : P 4) (h5 : P 5) (h6 : P 6) (h7 : P 7) (h8 : P 8) (h9 : P 9)
    (h10 : P 10) (h11 : P 11) (h12 : P 12) (h13 : P 13) (h14 : P 14) (k : Int) : P k := by
  by_cases hk : 1 ≤ k ∧ k ≤ 14
  · have : k = 1 ∨ k = 2 ∨ k = 3 ∨ k = 4 ∨ k = 5 ∨ k = 6 ∨ k = 7 ∨ k = 8 ∨ k = 9 ∨ k = 10 ∨ k = 11 ∨ k = 12 ∨ k = 13 ∨ k = 14 := by omega
    rcases this with rfl | rfl | rfl | rfl | rfl | rfl | rfl | rfl | rfl | rfl | rfl | rfl | rfl | rfl <;> assumption
  · exact h k hk
theorem in_any (a b c : Int) (w : World) : Calls Try.prog 65 #[.int .i64 a, .int .i64 b, .int .i64 c] w fun e w' => e = .returned (.bool (decide (b ≤ a ∧ a ≤ c))) ∧ w = w' := by
  by_cases h1 : b ≤ a <;> by_cases h2 : a ≤ c <;> (go_enter Try.func65, Try.ntmps65; go_wp2; go_ret; exact ⟨by simp [h1, h2], rfl⟩)
def cellsOf : List S66 → List Value
  | [] => []
  | x :: xs => .string x.f0 :: .string x.f1 :: .string x.f2 :: .bool x.f3 :: cellsOf xs
def IsManners (w w' : World) (g : Nat) : Prop := Below w.heap.size w w' ∧ w.heap.size ≤ g ∧ ∀ i, w'.cell? ⟨g, i, none⟩ = (cellsOf mannersL)[i]?
theorem manners_any (w : World) : Calls Try.prog 89 #[] w fun e w' => ∃ g, e = .returned (.slice (some ⟨g, 0, none⟩) 15 15) ∧ IsManners w w' g := by
  go_enter Try.func89, Try.ntmps89
  go_wp2
  go_ret
  refine ⟨_, rfl, (Below.refl _ _).alloc (Nat.le_refl _) _, Nat.le_refl _, fun i => ?_⟩
  rw [World.cell?_alloc_new]
  show (cellsOf mannersL).toArray[i]? = _
  exact List.getElem?_toArray
theorem bcell {W w1 : World} (hb : Below W.heap.size W w1) : (∀ b o, b < W.heap.size → w1.cell? ⟨b, o, none⟩ = W.cell? ⟨b, o, none⟩) ∧ (∀ b o, b < W.heap.size → w1.frozen? ⟨b, o, none⟩ = W.frozen? ⟨b, o, none⟩) :=
  ⟨fun b o h => hb.cell (p := ⟨b, o, none⟩) h, fun b o h => hb.frozen (p := ⟨b, o, none⟩) h⟩
theorem blk2 (w : World) (A B : Obj) : ((w.alloc A).alloc B).drew.heap[w.heap.size + 1]? = some B := by
  have := blk_new (w.alloc A) B
  rwa [World.size_alloc] at this
theorem end4 {w W w' : World} {g t : Nat} {z0 z1 z2 z3 : Value} (hW : Below w.heap.size w W) (hge : w.heap.size ≤ g) (h0 : W.heap[g]? = some (.cells #[z0, z1, z2, z3] t (0, 0))) (hb : Below W.heap.size W w') (a b c d : Value) :
    Below w.heap.size w ((((w'.setCell ⟨g, 0, none⟩ a).setCell ⟨g, 1, none⟩ b).setCell ⟨g, 2, none⟩ c).setCell ⟨g, 3, none⟩ d) ∧
    ((((w'.setCell ⟨g, 0, none⟩ a).setCell ⟨g, 1, none⟩ b).setCell ⟨g, 2, none⟩ c).setCell ⟨g, 3, none⟩ d).heap[g]? = some (.cells #[a, b, c, d] t (0, 0)) :=
  ⟨below_set (below_set (below_set (below_set (below_step hW hb) hge) hge) hge) hge, blk_set (blk_set (blk_set (blk_set (blk_below h0 hb) 0 a) 1 b) 2 c) 3 d⟩
theorem how_kind (k : Int) (r s t vk vn : Int) (x : S66) (w : World) (hk : 1 ≤ k ∧ k ≤ 14) (hx : x = mannersL.getD k.toNat z66) :
    Calls Try.prog 67 #[.agg #[.int .i64 k, .int .i64 r, .int .i64 s, .int .i64 t, .int .i64 vk, .int .i64 vn]] w fun e w' => e = .returned (.agg #[.string x.f0, .string x.f1, .string x.f2, .bool x.f3]) ∧ Below w.heap.size w w' := by
  have hm : ∀ (W : World) (g : Nat), (∀ i, W.cell? ⟨g, i, none⟩ = (cellsOf mannersL)[i]?) → W.cell? ⟨g, k.toNat * 4, none⟩ = some (.string x.f0) ∧ W.cell? ⟨g, k.toNat * 4 + 1, none⟩ = some (.string x.f1) ∧ W.cell? ⟨g, k.toNat * 4 + 2, none⟩ = some (.string x.f2) ∧ W.cell? ⟨g, k.toNat * 4 + 3, none⟩ = some (.bool x.f3) := by
    intro W g h
    have : k = 1 ∨ k = 2 ∨ k = 3 ∨ k = 4 ∨ k = 5 ∨ k = 6 ∨ k = 7 ∨ k = 8 ∨ k = 9 ∨ k = 10 ∨ k = 11 ∨ k = 12 ∨ k = 13 ∨ k = 14 := by omega
    rcases this with rfl | rfl | rfl | rfl | rfl | rfl | rfl | rfl | rfl | rfl | rfl | rfl | rfl | rfl <;> (subst hx; exact ⟨h _, h _, h _, h _⟩)
  clear hx
  obtain ⟨hk1, hk2⟩ := hk
  go_enter Try.func67, Try.ntmps67
  go_wp2_with (go_at_call 65; refine (in_any _ _ _ _).mono ?_; rintro e w' ⟨rfl, rfl⟩)
  go_region_with (go_at_call 89; refine (manners_any _).mono ?_; rintro e w' ⟨g, rfl, hb, hg, hc⟩; obtain ⟨m0, m1, m2, m3⟩ := hm _ _ hc; obtain ⟨b1, b2⟩ := bcell hb; clear hc; have hgs := hb.size; have sz := b1 w.heap.size)
  all_goals go_wp2
  all_goals
    obtain ⟨E0, E1⟩ := end4 (w := w) (g := w.heap.size + 1) (t := 66) (below_drew1 (below_alloc (below_alloc (Below.refl _ _) _) _)) (Nat.le_succ _) (blk2 _ _ _) hb (.string x.f0) (.string x.f1) (.string x.f2) (.bool x.f3)
    have q0 := blk_cell E1 0; have q1 := blk_cell E1 1; have q2 := blk_cell E1 2; have q3 := blk_cell E1 3
    exact bodyPost_ret (v := .agg #[.string x.f0, .string x.f1, .string x.f2, .bool x.f3]) (by simp [results, Try.results67, go_sem, q0, q1, q2, q3]) rfl ⟨rfl, E0⟩
theorem how_none (k : Int) (r s t vk vn : Int) (w : World) (hk : decide (1 ≤ k ∧ k ≤ 14) = false) :
    Calls Try.prog 67 #[.agg #[.int .i64 k, .int .i64 r, .int .i64 s, .int .i64 t, .int .i64 vk, .int .i64 vn]] w fun e w' => e = .returned (.agg #[.string ⟨#[]⟩, .string ⟨#[]⟩, .string ⟨#[]⟩, .bool false]) ∧ Below w.heap.size w w' := by
  go_enter Try.func67, Try.ntmps67
  go_wp2_with (go_at_call 65; refine (in_any _ _ _ _).mono ?_; rintro e w' ⟨rfl, rfl⟩; rw [hk])
  exact bodyPost_ret (v := .agg #[.string ⟨#[]⟩, .string ⟨#[]⟩, .string ⟨#[]⟩, .bool false]) (by simp [results, Try.results67, go_sem]) rfl ⟨rfl, by repeat (first | exact Below.refl _ _ | apply below_alloc | apply below_drew1 | refine below_set ?_ (Nat.le_succ _))⟩
theorem impl_Op_how.calls (k r s t vk vn : Int) (r1 r2 r3 : ByteArray) (r4 : Bool) (w : World) (h : howV.f k r s t vk vn = some (r1, r2, r3, r4)) :
    Calls Try.prog 67 #[.agg #[.int .i64 k, .int .i64 r, .int .i64 s, .int .i64 t, .int .i64 vk, .int .i64 vn]] w fun e w' => e = .returned (.agg #[.string r1, .string r2, .string r3, .bool r4]) ∧ Below w.heap.size w w' := by
  unfold howV.f at h
  have h := Option.some.inj h
  simp only [Prod.mk.injEq] at h
  obtain ⟨rfl, rfl, rfl, rfl⟩ := h
  by_cases hk : 1 ≤ k ∧ k ≤ 14
  · have e : howR k = mannersL.getD k.toNat z66 := if_pos hk
    rw [e]
    exact how_kind k r s t vk vn _ w hk rfl
  · have e : howR k = z66 := if_neg hk
    rw [e]
    exact how_none k r s t vk vn w (decide_eq_false hk)
end Go.Proofs.Ytmklpbmlgjkbiaa.PS
end
section
namespace Go.Proofs.Ytmklpbmlgjkbiaa.PS
open Go.RowKit
theorem indexByte_any (s : ByteArray) (c : Int) (w : World) :
    Calls Try.prog 114 #[.string s, .int .u8 c] w fun e w' => e = .returned (.int .i64 (Lib.indexByte s.data.toList c.toNat.toUInt8)) ∧ w = w' := by
  go_enter Try.func114, Try.ntmps114
  go_wp2
  rw [run_callFunc_extern Try.func122 (by kernel_rfl) (by kernel_rfl) (by kernel_rfl) (e := Extern.BytealgIndexByte.indexByte) (by kernel_rfl), Lib.run_indexByteString]
  simp only [Result.andThen]
  rw [Oper.upon_value]
  go_wp2
  go_ret
  exact ⟨rfl, rfl⟩
theorem index_one (s : ByteArray) (c : UInt8) (w : World) :
    Calls Try.prog 110 #[.string s, .string ⟨#[c]⟩] w fun e w' => e = .returned (.int .i64 (Lib.indexByte s.data.toList c)) ∧ w = w' := by
  go_enter Try.func110, Try.ntmps110
  go_wp2_with (go_at_call 114; refine (indexByte_any _ _ _).mono ?_; rintro e w' ⟨rfl, rfl⟩)
  · have h : ([c] == s.toList) = true := by assumption
    go_ret
    refine ⟨?_, rfl⟩
    have e : s.data.toList = [c] := by rw [← Lib.toList_data]; exact (beq_iff_eq.1 h).symm
    rw [e]
    simp [Lib.indexByte]
  · go_ret
    exact ⟨rfl, rfl⟩
theorem sindex_one (s : ByteArray) (c : UInt8) (w : World) :
    Calls Try.prog 102 #[.string s, .string ⟨#[c]⟩] w fun e w' => e = .returned (.int .i64 (Lib.indexByte s.data.toList c)) ∧ w = w' := by
  go_enter Try.func102, Try.ntmps102
  go_wp2_with (go_at_call 110; refine (index_one _ _ _).mono ?_; rintro e w' ⟨rfl, rfl⟩)
  go_ret
  exact ⟨rfl, rfl⟩
theorem contains_one (s : ByteArray) (c : UInt8) (w : World) :
    Calls Try.prog 87 #[.string s, .string ⟨#[c]⟩] w fun e w' => e = .returned (.bool (decide (0 ≤ Lib.indexByte s.data.toList c))) ∧ w = w' := by
  go_enter Try.func87, Try.ntmps87
  go_wp2_with (go_at_call 102; refine (sindex_one _ _ _).mono ?_; rintro e w' ⟨rfl, rfl⟩)
  go_ret
  exact ⟨rfl, rfl⟩
end Go.Proofs.Ytmklpbmlgjkbiaa.PS
end
section
namespace Go.Proofs.Ytmklpbmlgjkbiaa.PS
open Go.RowKit Go.Proofs.YtmklpbmlgjkbiaaW.PrintWords Go.Proofs.YtmklpbmlgjkbiaaW.PrintLast
def hasC (k : Int) (c : UInt8) : Bool := decide (0 ≤ Lib.indexByte (howR k).f1.data.toList c)
theorem hasC_R (k : Int) : hasC k 82 = hasR k := by
  refine kinds (P := fun k => hasC k 82 = hasR k) (fun k hk => ?_) (by decide) (by decide) (by decide) (by decide) (by decide) (by decide) (by decide) (by decide) (by decide) (by decide) (by decide) (by decide) (by decide) (by decide) k
  unfold hasC howR
  rw [if_neg hk]
  have : hasR k = false := by unfold hasR; exact decide_eq_false (by omega)
  rw [this]; decide
theorem hasC_S (k : Int) : hasC k 83 = hasS k := by
  refine kinds (P := fun k => hasC k 83 = hasS k) (fun k hk => ?_) (by decide) (by decide) (by decide) (by decide) (by decide) (by decide) (by decide) (by decide) (by decide) (by decide) (by decide) (by decide) (by decide) (by decide) k
  unfold hasC howR
  rw [if_neg hk]
  have : hasS k = false := by unfold hasS; exact decide_eq_false (by omega)
  rw [this]; decide
theorem hasC_T (k : Int) : hasC k 84 = hasT k := by
  refine kinds (P := fun k => hasC k 84 = hasT k) (fun k hk => ?_) (by decide) (by decide) (by decide) (by decide) (by decide) (by decide) (by decide) (by decide) (by decide) (by decide) (by decide) (by decide) (by decide) (by decide) k
  unfold hasC howR
  rw [if_neg hk]
  have : hasT k = false := by unfold hasT; exact decide_eq_false (by omega)
  rw [this]; decide
theorem hasC_V (k : Int) : hasC k 86 = hasV k := by
  refine kinds (P := fun k => hasC k 86 = hasV k) (fun k hk => ?_) (by decide) (by decide) (by decide) (by decide) (by decide) (by decide) (by decide) (by decide) (by decide) (by decide) (by decide) (by decide) (by decide) (by decide) k
  unfold hasC howR
  rw [if_neg hk]
  have : hasV k = false := by unfold hasV; exact decide_eq_false (by omega)
  rw [this]; decide
theorem has_any (k r s t vk vn : Int) (c : UInt8) (w : World) :
    Calls Try.prog 64 #[.agg #[.int .i64 k, .int .i64 r, .int .i64 s, .int .i64 t, .int .i64 vk, .int .i64 vn], .string ⟨#[c]⟩] w fun e w' => e = .returned (.bool (hasC k c)) ∧ Below w.heap.size w w' := by
  have hw := fun W : World => impl_Op_how.calls k r s t vk vn (howR k).f0 (howR k).f1 (howR k).f2 (howR k).f3 W rfl
  obtain ⟨x, hx⟩ : ∃ x, x = howR k := ⟨_, rfl⟩
  unfold hasC
  rw [← hx] at hw ⊢
  clear hx
  have hu66 := Try.underlying66
  have hfd : ∀ (a b c d : Value) (W : World), Sem.run Try.prog (Instr.field 66 (.agg #[a, b, c, d]) 1) W = .ok b W := fun _ _ _ _ _ => by kernel_rfl
  go_enter Try.func64, Try.ntmps64
  go_wp2_with (first | (go_at_call 67; refine (hw _).mono ?_; rintro e w' ⟨rfl, hb⟩) | (go_at_call 87; refine (contains_one _ _ _).mono ?_; rintro e w' ⟨rfl, rfl⟩))
  go_ret
  exact ⟨rfl, below_step (below_alloc (Below.refl _ _) _) hb⟩
theorem eqA27 (d : Nat) (w : World) (x0 y0 : Int) (x1 y1 : Int) :
    (Op.equalIn (d + 2) 27 (.agg #[.int .i64 x0, .int .i64 x1]) (.agg #[.int .i64 y0, .int .i64 y1])).run Try.prog w = .ok (x0 == y0 && (x1 == y1)) w := by
  refine eqA_of Try.underlying27 (by kernel_rfl) ?_
  refine eqf_cons (by rfl) (by go_simp; rfl) (by go_simp; rfl) (by go_simp) ?_
  exact eqf_last (by rfl) (by go_simp; rfl) (by go_simp; rfl) (by go_simp)
def fieldB (h : Bool) (n m : Int) : Bool := if h = true then decide (0 ≤ n ∧ n ≤ m) else decide (n = 0)
theorem field_any (B : Nat) (k r s t vk vn : Int) (c : UInt8) (n m : Int) (w : World) (hB : w.heap[B]? = some (.cells #[.int .i64 k, .int .i64 r, .int .i64 s, .int .i64 t, .int .i64 vk, .int .i64 vn] 29 (0, 0))) :
    Calls Try.prog 63 #[.string ⟨#[c]⟩, .int .i64 n, .int .i64 m, .pointer (some ⟨B, 0, none⟩)] w fun e w' => e = .returned (.bool (fieldB (hasC k c) n m)) ∧ Below w.heap.size w w' := by
  have q0 := blk_cell hB 0; have q1 := blk_cell hB 1; have q2 := blk_cell hB 2; have q3 := blk_cell hB 3; have q4 := blk_cell hB 4; have q5 := blk_cell hB 5
  simp at q0 q1 q2 q3 q4 q5
  clear hB
  have hw := fun W : World => has_any k r s t vk vn c W
  obtain ⟨h, hh⟩ : ∃ h, h = hasC k c := ⟨_, rfl⟩
  rw [← hh] at hw ⊢
  clear hh
  unfold fieldB
  cases h
  · go_enter Try.func63, Try.ntmps63
    go_wp2_with (first | (go_at_call 64; refine (hw _).mono ?_; rintro e w' ⟨rfl, hb⟩) | (go_at_call 65; refine (in_any _ _ _ _).mono ?_; rintro e w' ⟨rfl, rfl⟩))
    go_ret
    exact ⟨by by_cases hn : n = 0 <;> simp [hn], hb⟩
  · go_enter Try.func63, Try.ntmps63
    go_wp2_with (first | (go_at_call 64; refine (hw _).mono ?_; rintro e w' ⟨rfl, hb⟩) | (go_at_call 65; refine (in_any _ _ _ _).mono ?_; rintro e w' ⟨rfl, rfl⟩))
    go_ret
    exact ⟨by simp, hb⟩
theorem valok_any (a b : Int) (w : World) : Calls Try.prog 88 #[.agg #[.int .i64 a, .int .i64 b]] w fun e w' => e = .returned (.bool (okB a b)) ∧ Below w.heap.size w w' := by
  by_cases h0 : a = 0
  · subst h0
    have e : okB 0 b = (b == 0) := by
      unfold okB okP
      by_cases hb : b = 0 <;> simp [hb]
    rw [e]
    go_enter Try.func88, Try.ntmps88
    go_wp2
    go_ret
    exact ⟨by first | rfl | simp, below_alloc (Below.refl _ _) _⟩
  by_cases h1 : a = 1
  · subst h1
    have e : okB 1 b = decide (-99 ≤ b ∧ b ≤ 99) := by unfold okB okP; simp
    rw [e]
    go_enter Try.func88, Try.ntmps88
    go_wp2_with (go_at_call 65; refine (in_any _ _ _ _).mono ?_; rintro e w' ⟨rfl, rfl⟩)
    go_ret
    exact ⟨by first | rfl | simp, below_alloc (Below.refl _ _) _⟩
  by_cases h2 : a = 2
  · subst h2
    have e : okB 2 b = decide (0 ≤ b ∧ b ≤ 9) := by unfold okB okP; simp
    rw [e]
    go_enter Try.func88, Try.ntmps88
    go_wp2_with (go_at_call 65; refine (in_any _ _ _ _).mono ?_; rintro e w' ⟨rfl, rfl⟩)
    go_ret
    exact ⟨by first | rfl | simp, below_alloc (Below.refl _ _) _⟩
  by_cases h3 : a = 3
  · subst h3
    have e : okB 3 b = decide (1 ≤ b ∧ b ≤ 6) := by unfold okB okP; simp
    rw [e]
    go_enter Try.func88, Try.ntmps88
    go_wp2_with (go_at_call 65; refine (in_any _ _ _ _).mono ?_; rintro e w' ⟨rfl, rfl⟩)
    go_ret
    exact ⟨by first | rfl | simp, below_alloc (Below.refl _ _) _⟩
  have e : okB a b = false := by unfold okB okP; simp [h0, h1, h2, h3]
  rw [e]
  have b0 : (a == 0) = false := by simpa using h0
  have b1 : (a == 1) = false := by simpa using h1
  have b2 : (a == 2) = false := by simpa using h2
  have b3 : (a == 3) = false := by simpa using h3
  go_enter Try.func88, Try.ntmps88
  go_wp2
  go_ret
  exact ⟨rfl, below_alloc (Below.refl _ _) _⟩
end Go.Proofs.Ytmklpbmlgjkbiaa.PS
end
section
namespace Go.Proofs.Ytmklpbmlgjkbiaa.PS
open Go.RowKit Go.Proofs.YtmklpbmlgjkbiaaW.PrintWords Go.Proofs.YtmklpbmlgjkbiaaW.PrintLast
attribute [local go_sem high] eqA27
theorem ends_bool {w w' : World} {a b : Bool} (h : Aside0 (b = a)) (hb : Below w.heap.size w w') : Ending.returned (Value.bool a) = .returned (.bool b) ∧ Below w.heap.size w w' := ⟨by rw [h.out], hb⟩
def valB (k vk vn : Int) : Bool := decide (valP k vk vn)
theorem valB_8 (vk vn : Int) : valB 8 vk vn = (okB vk vn && ((vk == 1) && decide (1 ≤ vn))) := by
  unfold valB valP okB; by_cases a : vk = 1 <;> by_cases b : 1 ≤ vn <;> by_cases c : okP vk vn <;> simp [a, b, c]
theorem valB_13 (vk vn : Int) : valB 13 vk vn = ((vk == 1) && decide (0 ≤ vn ∧ vn ≤ 1)) := by
  unfold valB valP okP; by_cases a : vk = 1 <;> by_cases b : 0 ≤ vn ∧ vn ≤ 1 <;> simp [a, b] <;> omega
theorem valB_other (k vk vn : Int) (h8 : k ≠ 8) (h13 : k ≠ 13) : valB k vk vn = okB vk vn := by
  unfold valB valP okB; simp [h8, h13]
theorem valOp_any (k r s t vk vn : Int) (w : World) :
    Calls Try.prog 66 #[.agg #[.int .i64 k, .int .i64 r, .int .i64 s, .int .i64 t, .int .i64 vk, .int .i64 vn]] w fun e w' => e = .returned (.bool (valB k vk vn)) ∧ Below w.heap.size w w' := by
  by_cases h8 : k = 8
  · subst h8
    have hw := fun W : World => valok_any vk vn W
    obtain ⟨g, hg⟩ : ∃ g, g = valB 8 vk vn := ⟨_, rfl⟩
    obtain ⟨h, hh⟩ : ∃ h, h = okB vk vn := ⟨_, rfl⟩
    have HH := Aside0.mk (hg.trans (valB_8 vk vn))
    rw [← hg]
    rw [← hh] at hw HH
    clear hg hh
    by_cases h1 : vk = 1
    · subst h1
      simp only [beq_self_eq_true, Bool.true_and] at HH
      cases h
      · go_enter Try.func66, Try.ntmps66
        go_wp2_with (go_at_call 88; refine (hw _).mono ?_; rintro e w' ⟨rfl, hb⟩; obtain ⟨b1, b2⟩ := bcell hb)
        go_ret
        exact ends_bool HH (below_step (below_alloc (Below.refl _ _) _) hb)
      · go_enter Try.func66, Try.ntmps66
        go_wp2_with (go_at_call 88; refine (hw _).mono ?_; rintro e w' ⟨rfl, hb⟩; obtain ⟨b1, b2⟩ := bcell hb)
        go_ret
        exact ends_bool HH (below_step (below_alloc (Below.refl _ _) _) hb)
    · have c1 : (vk == 1) = false := by simpa using h1
      rw [c1, Bool.false_and, Bool.and_false] at HH
      cases h
      · go_enter Try.func66, Try.ntmps66
        go_wp2_with (go_at_call 88; refine (hw _).mono ?_; rintro e w' ⟨rfl, hb⟩; obtain ⟨b1, b2⟩ := bcell hb)
        go_ret
        exact ends_bool HH (below_step (below_alloc (Below.refl _ _) _) hb)
      · go_enter Try.func66, Try.ntmps66
        go_wp2_with (go_at_call 88; refine (hw _).mono ?_; rintro e w' ⟨rfl, hb⟩; obtain ⟨b1, b2⟩ := bcell hb)
        go_ret
        exact ends_bool HH (below_step (below_alloc (Below.refl _ _) _) hb)
  by_cases h13 : k = 13
  · subst h13
    obtain ⟨g, hg⟩ : ∃ g, g = valB 13 vk vn := ⟨_, rfl⟩
    have HH := Aside0.mk (hg.trans (valB_13 vk vn))
    rw [← hg]
    clear hg
    by_cases h1 : vk = 1
    · subst h1
      simp only [beq_self_eq_true, Bool.true_and] at HH
      have hw := fun W : World => in_any vn 0 1 W
      obtain ⟨h, hh⟩ : ∃ h, h = decide (0 ≤ vn ∧ vn ≤ 1) := ⟨_, rfl⟩
      rw [← hh] at hw HH
      clear hh
      go_enter Try.func66, Try.ntmps66
      go_wp2_with (go_at_call 65; refine (hw _).mono ?_; rintro e w' ⟨rfl, rfl⟩)
      go_ret
      exact ends_bool HH (below_alloc (Below.refl _ _) _)
    · have c1 : (vk == 1) = false := by simpa using h1
      rw [c1, Bool.false_and] at HH
      go_enter Try.func66, Try.ntmps66
      go_wp2
      go_ret
      exact ends_bool HH (below_alloc (Below.refl _ _) _)
  have HH := Aside0.mk (valB_other k vk vn h8 h13)
  have c8 : (k == 8) = false := by simpa using h8
  have c13 : (k == 13) = false := by simpa using h13
  have hw := fun W : World => valok_any vk vn W
  obtain ⟨g, hg⟩ : ∃ g, g = valB k vk vn := ⟨_, rfl⟩
  obtain ⟨h, hh⟩ : ∃ h, h = okB vk vn := ⟨_, rfl⟩
  rw [← hg]
  rw [← hg, ← hh] at HH
  rw [← hh] at hw
  clear hg hh
  go_enter Try.func66, Try.ntmps66
  go_wp2_with (go_at_call 88; refine (hw _).mono ?_; rintro e w' ⟨rfl, hb⟩; obtain ⟨b1, b2⟩ := bcell hb)
  go_ret
  exact ends_bool HH (below_step (below_alloc (Below.refl _ _) _) hb)
theorem implOp_walk (k r s t vk vn : Int) (w : World) (g hv vb : Bool) (F : UInt8 → Int → Int → Bool) (x : S66)
    (hHow : ∀ W, Calls Try.prog 67 #[.agg #[.int .i64 k, .int .i64 r, .int .i64 s, .int .i64 t, .int .i64 vk, .int .i64 vn]] W fun e w' => e = .returned (.agg #[.string x.f0, .string x.f1, .string x.f2, .bool x.f3]) ∧ Below W.heap.size W w')
    (hHas : ∀ W, Calls Try.prog 64 #[.agg #[.int .i64 k, .int .i64 r, .int .i64 s, .int .i64 t, .int .i64 vk, .int .i64 vn], .string ⟨#[86]⟩] W fun e w' => e = .returned (.bool hv) ∧ Below W.heap.size W w')
    (hVal : ∀ W, Calls Try.prog 66 #[.agg #[.int .i64 k, .int .i64 r, .int .i64 s, .int .i64 t, .int .i64 vk, .int .i64 vn]] W fun e w' => e = .returned (.bool vb) ∧ Below W.heap.size W w')
    (hF : ∀ (c : UInt8) (n m : Int) (W : World) (hB : W.heap[w.heap.size]? = some (.cells #[.int .i64 k, .int .i64 r, .int .i64 s, .int .i64 t, .int .i64 vk, .int .i64 vn] 29 (0, 0))),
      Calls Try.prog 63 #[.string ⟨#[c]⟩, .int .i64 n, .int .i64 m, .pointer (some ⟨w.heap.size, 0, none⟩)] W fun e w' => e = .returned (.bool (F c n m)) ∧ Below W.heap.size W w')
    (hg : Aside0 (g = (!x.f0.toList.isEmpty && (F 82 r 3 && (F 83 s 3 && (F 84 t 15 && if hv = true then vb else (vk == 0 && (vn == 0)))))))) :
    Calls Try.prog 25 #[.agg #[.int .i64 k, .int .i64 r, .int .i64 s, .int .i64 t, .int .i64 vk, .int .i64 vn]] w fun e w' => e = .returned (.bool g) ∧ Below w.heap.size w w' := by
  have BK : Aside0 ((w.alloc (.cells #[.int .i64 k, .int .i64 r, .int .i64 s, .int .i64 t, .int .i64 vk, .int .i64 vn] 29)).heap[w.heap.size]? = some (.cells #[.int .i64 k, .int .i64 r, .int .i64 s, .int .i64 t, .int .i64 vk, .int .i64 vn] 29 (0, 0))) := ⟨blk_new _ _⟩
  have HB := Aside0.mk (Below.refl w.heap.size w)
  have hu27 := Try.underlying27
  have hu29 := Try.underlying29
  have hfd : ∀ (a b c d : Value) (W : World), Sem.run Try.prog (Instr.field 66 (.agg #[a, b, c, d]) 0) W = .ok a W := fun _ _ _ _ _ => by kernel_rfl
  cases hv
  · go_enter Try.func25, Try.ntmps25
    go_wp2_with (first | (go_at_call 64; refine (hHas _).mono ?_; rintro e w' ⟨rfl, hb⟩; have BK := Aside0.mk (blk_below (by (with_reducible repeat (first | refine blk_drewN ?_ _ | refine blk_drew ?_ | refine blk_alloc ?_ _)); exact BK.out) hb); have HB := Aside0.mk (below_step (by repeat (first | (with_reducible first | exact HB.out | apply below_alloc | apply pw_below_drewN | apply below_drew1) | exact HB.out)) hb); have q0 : w'.cell? ⟨w.heap.size, 0, none⟩ = some (.int .i64 k) := (blk_cell BK.out 0).trans rfl; have q1 : w'.cell? ⟨w.heap.size, 1, none⟩ = some (.int .i64 r) := (blk_cell BK.out 1).trans rfl; have q2 : w'.cell? ⟨w.heap.size, 2, none⟩ = some (.int .i64 s) := (blk_cell BK.out 2).trans rfl; have q3 : w'.cell? ⟨w.heap.size, 3, none⟩ = some (.int .i64 t) := (blk_cell BK.out 3).trans rfl; have q4 : w'.cell? ⟨w.heap.size, 4, none⟩ = some (.int .i64 vk) := (blk_cell BK.out 4).trans rfl; have q5 : w'.cell? ⟨w.heap.size, 5, none⟩ = some (.int .i64 vn) := (blk_cell BK.out 5).trans rfl; clear hb) | (go_at_call 66; refine (hVal _).mono ?_; rintro e w' ⟨rfl, hb⟩; have BK := Aside0.mk (blk_below (by (with_reducible repeat (first | refine blk_drewN ?_ _ | refine blk_drew ?_ | refine blk_alloc ?_ _)); exact BK.out) hb); have HB := Aside0.mk (below_step (by repeat (first | (with_reducible first | exact HB.out | apply below_alloc | apply pw_below_drewN | apply below_drew1) | exact HB.out)) hb); have q0 : w'.cell? ⟨w.heap.size, 0, none⟩ = some (.int .i64 k) := (blk_cell BK.out 0).trans rfl; have q1 : w'.cell? ⟨w.heap.size, 1, none⟩ = some (.int .i64 r) := (blk_cell BK.out 1).trans rfl; have q2 : w'.cell? ⟨w.heap.size, 2, none⟩ = some (.int .i64 s) := (blk_cell BK.out 2).trans rfl; have q3 : w'.cell? ⟨w.heap.size, 3, none⟩ = some (.int .i64 t) := (blk_cell BK.out 3).trans rfl; have q4 : w'.cell? ⟨w.heap.size, 4, none⟩ = some (.int .i64 vk) := (blk_cell BK.out 4).trans rfl; have q5 : w'.cell? ⟨w.heap.size, 5, none⟩ = some (.int .i64 vn) := (blk_cell BK.out 5).trans rfl; clear hb) | (go_at_call 67; refine (hHow _).mono ?_; rintro e w' ⟨rfl, hb⟩; have BK := Aside0.mk (blk_below (by (with_reducible repeat (first | refine blk_drewN ?_ _ | refine blk_drew ?_ | refine blk_alloc ?_ _)); exact BK.out) hb); have HB := Aside0.mk (below_step (by repeat (first | (with_reducible first | exact HB.out | apply below_alloc | apply pw_below_drewN | apply below_drew1) | exact HB.out)) hb); have q0 : w'.cell? ⟨w.heap.size, 0, none⟩ = some (.int .i64 k) := (blk_cell BK.out 0).trans rfl; have q1 : w'.cell? ⟨w.heap.size, 1, none⟩ = some (.int .i64 r) := (blk_cell BK.out 1).trans rfl; have q2 : w'.cell? ⟨w.heap.size, 2, none⟩ = some (.int .i64 s) := (blk_cell BK.out 2).trans rfl; have q3 : w'.cell? ⟨w.heap.size, 3, none⟩ = some (.int .i64 t) := (blk_cell BK.out 3).trans rfl; have q4 : w'.cell? ⟨w.heap.size, 4, none⟩ = some (.int .i64 vk) := (blk_cell BK.out 4).trans rfl; have q5 : w'.cell? ⟨w.heap.size, 5, none⟩ = some (.int .i64 vn) := (blk_cell BK.out 5).trans rfl; clear hb) | (go_at_call 63; refine (hF _ _ _ _ (by (with_reducible repeat (first | refine blk_drewN ?_ _ | refine blk_drew ?_ | refine blk_alloc ?_ _)); exact BK.out)).mono ?_; rintro e w' ⟨rfl, hb⟩; have BK := Aside0.mk (blk_below (by (with_reducible repeat (first | refine blk_drewN ?_ _ | refine blk_drew ?_ | refine blk_alloc ?_ _)); exact BK.out) hb); have HB := Aside0.mk (below_step (by repeat (first | (with_reducible first | exact HB.out | apply below_alloc | apply pw_below_drewN | apply below_drew1) | exact HB.out)) hb); have q0 : w'.cell? ⟨w.heap.size, 0, none⟩ = some (.int .i64 k) := (blk_cell BK.out 0).trans rfl; have q1 : w'.cell? ⟨w.heap.size, 1, none⟩ = some (.int .i64 r) := (blk_cell BK.out 1).trans rfl; have q2 : w'.cell? ⟨w.heap.size, 2, none⟩ = some (.int .i64 s) := (blk_cell BK.out 2).trans rfl; have q3 : w'.cell? ⟨w.heap.size, 3, none⟩ = some (.int .i64 t) := (blk_cell BK.out 3).trans rfl; have q4 : w'.cell? ⟨w.heap.size, 4, none⟩ = some (.int .i64 vk) := (blk_cell BK.out 4).trans rfl; have q5 : w'.cell? ⟨w.heap.size, 5, none⟩ = some (.int .i64 vn) := (blk_cell BK.out 5).trans rfl; clear hb))
    all_goals go_ret
    all_goals refine ⟨?_, HB.out⟩
    all_goals (rw [hg.out]; simp [*])
  · go_enter Try.func25, Try.ntmps25
    go_wp2_with (first | (go_at_call 64; refine (hHas _).mono ?_; rintro e w' ⟨rfl, hb⟩; have BK := Aside0.mk (blk_below (by (with_reducible repeat (first | refine blk_drewN ?_ _ | refine blk_drew ?_ | refine blk_alloc ?_ _)); exact BK.out) hb); have HB := Aside0.mk (below_step (by repeat (first | (with_reducible first | exact HB.out | apply below_alloc | apply pw_below_drewN | apply below_drew1) | exact HB.out)) hb); have q0 : w'.cell? ⟨w.heap.size, 0, none⟩ = some (.int .i64 k) := (blk_cell BK.out 0).trans rfl; have q1 : w'.cell? ⟨w.heap.size, 1, none⟩ = some (.int .i64 r) := (blk_cell BK.out 1).trans rfl; have q2 : w'.cell? ⟨w.heap.size, 2, none⟩ = some (.int .i64 s) := (blk_cell BK.out 2).trans rfl; have q3 : w'.cell? ⟨w.heap.size, 3, none⟩ = some (.int .i64 t) := (blk_cell BK.out 3).trans rfl; have q4 : w'.cell? ⟨w.heap.size, 4, none⟩ = some (.int .i64 vk) := (blk_cell BK.out 4).trans rfl; have q5 : w'.cell? ⟨w.heap.size, 5, none⟩ = some (.int .i64 vn) := (blk_cell BK.out 5).trans rfl; clear hb) | (go_at_call 66; refine (hVal _).mono ?_; rintro e w' ⟨rfl, hb⟩; have BK := Aside0.mk (blk_below (by (with_reducible repeat (first | refine blk_drewN ?_ _ | refine blk_drew ?_ | refine blk_alloc ?_ _)); exact BK.out) hb); have HB := Aside0.mk (below_step (by repeat (first | (with_reducible first | exact HB.out | apply below_alloc | apply pw_below_drewN | apply below_drew1) | exact HB.out)) hb); have q0 : w'.cell? ⟨w.heap.size, 0, none⟩ = some (.int .i64 k) := (blk_cell BK.out 0).trans rfl; have q1 : w'.cell? ⟨w.heap.size, 1, none⟩ = some (.int .i64 r) := (blk_cell BK.out 1).trans rfl; have q2 : w'.cell? ⟨w.heap.size, 2, none⟩ = some (.int .i64 s) := (blk_cell BK.out 2).trans rfl; have q3 : w'.cell? ⟨w.heap.size, 3, none⟩ = some (.int .i64 t) := (blk_cell BK.out 3).trans rfl; have q4 : w'.cell? ⟨w.heap.size, 4, none⟩ = some (.int .i64 vk) := (blk_cell BK.out 4).trans rfl; have q5 : w'.cell? ⟨w.heap.size, 5, none⟩ = some (.int .i64 vn) := (blk_cell BK.out 5).trans rfl; clear hb) | (go_at_call 67; refine (hHow _).mono ?_; rintro e w' ⟨rfl, hb⟩; have BK := Aside0.mk (blk_below (by (with_reducible repeat (first | refine blk_drewN ?_ _ | refine blk_drew ?_ | refine blk_alloc ?_ _)); exact BK.out) hb); have HB := Aside0.mk (below_step (by repeat (first | (with_reducible first | exact HB.out | apply below_alloc | apply pw_below_drewN | apply below_drew1) | exact HB.out)) hb); have q0 : w'.cell? ⟨w.heap.size, 0, none⟩ = some (.int .i64 k) := (blk_cell BK.out 0).trans rfl; have q1 : w'.cell? ⟨w.heap.size, 1, none⟩ = some (.int .i64 r) := (blk_cell BK.out 1).trans rfl; have q2 : w'.cell? ⟨w.heap.size, 2, none⟩ = some (.int .i64 s) := (blk_cell BK.out 2).trans rfl; have q3 : w'.cell? ⟨w.heap.size, 3, none⟩ = some (.int .i64 t) := (blk_cell BK.out 3).trans rfl; have q4 : w'.cell? ⟨w.heap.size, 4, none⟩ = some (.int .i64 vk) := (blk_cell BK.out 4).trans rfl; have q5 : w'.cell? ⟨w.heap.size, 5, none⟩ = some (.int .i64 vn) := (blk_cell BK.out 5).trans rfl; clear hb) | (go_at_call 63; refine (hF _ _ _ _ (by (with_reducible repeat (first | refine blk_drewN ?_ _ | refine blk_drew ?_ | refine blk_alloc ?_ _)); exact BK.out)).mono ?_; rintro e w' ⟨rfl, hb⟩; have BK := Aside0.mk (blk_below (by (with_reducible repeat (first | refine blk_drewN ?_ _ | refine blk_drew ?_ | refine blk_alloc ?_ _)); exact BK.out) hb); have HB := Aside0.mk (below_step (by repeat (first | (with_reducible first | exact HB.out | apply below_alloc | apply pw_below_drewN | apply below_drew1) | exact HB.out)) hb); have q0 : w'.cell? ⟨w.heap.size, 0, none⟩ = some (.int .i64 k) := (blk_cell BK.out 0).trans rfl; have q1 : w'.cell? ⟨w.heap.size, 1, none⟩ = some (.int .i64 r) := (blk_cell BK.out 1).trans rfl; have q2 : w'.cell? ⟨w.heap.size, 2, none⟩ = some (.int .i64 s) := (blk_cell BK.out 2).trans rfl; have q3 : w'.cell? ⟨w.heap.size, 3, none⟩ = some (.int .i64 t) := (blk_cell BK.out 3).trans rfl; have q4 : w'.cell? ⟨w.heap.size, 4, none⟩ = some (.int .i64 vk) := (blk_cell BK.out 4).trans rfl; have q5 : w'.cell? ⟨w.heap.size, 5, none⟩ = some (.int .i64 vn) := (blk_cell BK.out 5).trans rfl; clear hb))
    all_goals go_ret
    all_goals refine ⟨?_, HB.out⟩
    all_goals (rw [hg.out]; simp [*])
end Go.Proofs.Ytmklpbmlgjkbiaa.PS
end
section
namespace Go.Proofs.Ytmklpbmlgjkbiaa.PS
open Go.RowKit Go.Proofs.YtmklpbmlgjkbiaaW.PrintWords Go.Proofs.YtmklpbmlgjkbiaaW.PrintLast
theorem fieldB_eq (h : Bool) (n m : Int) (hm : 0 ≤ m) : fieldB h n m = decide (n = 0 ∨ (h = true ∧ 0 ≤ n ∧ n ≤ m)) := by
  unfold fieldB
  cases h
  · simp
  · simp; omega
theorem word_some (k : Int) : (!(howR k).f0.toList.isEmpty) = decide (1 ≤ k ∧ k ≤ 14) := by
  rw [Lib.toList_data]
  refine kinds (P := fun k => (!(howR k).f0.data.toList.isEmpty) = decide (1 ≤ k ∧ k ≤ 14)) (fun k hk => ?_) (by decide) (by decide) (by decide) (by decide) (by decide) (by decide) (by decide) (by decide) (by decide) (by decide) (by decide) (by decide) (by decide) (by decide) k
  unfold howR
  rw [if_neg hk, decide_eq_false hk]; decide
theorem opB_eq (k r s t vk vn : Int) : opB k r s t vk vn = (!(howR k).f0.toList.isEmpty && (fieldB (hasC k 82) r 3 && (fieldB (hasC k 83) s 3 && (fieldB (hasC k 84) t 15 && if hasC k 86 = true then valB k vk vn else (vk == 0 && (vn == 0)))))) := by
  rw [word_some, hasC_R, hasC_S, hasC_T, hasC_V, fieldB_eq _ _ _ (by omega), fieldB_eq _ _ _ (by omega), fieldB_eq _ _ _ (by omega)]
  have hv : (if hasV k = true then valB k vk vn else (vk == 0 && (vn == 0))) = decide (valP k vk vn ∧ (hasV k = true ∨ (vk = 0 ∧ vn = 0))) := by
    by_cases h : hasV k = true
    · rw [if_pos h]; unfold valB; simp [h]
    · rw [if_neg h]
      have h8 : k ≠ 8 ∧ k ≠ 13 := by unfold hasV at h; simp at h; omega
      by_cases hz : vk = 0 ∧ vn = 0
      · obtain ⟨rfl, rfl⟩ := hz
        have : valP k 0 0 := ⟨Or.inl ⟨rfl, rfl⟩, fun e => absurd e h8.1, fun e => absurd e h8.2⟩
        simp [this]
      · have e1 : (vk == 0 && (vn == 0)) = false := by
          by_cases a : vk = 0 <;> by_cases b : vn = 0 <;> simp [a, b] <;> simp_all
        rw [e1]
        exact (decide_eq_false (fun ⟨_, g⟩ => g.elim h hz)).symm
  rw [hv]
  unfold opB
  simp only [← Bool.decide_and]
  apply decide_eq_decide.2
  unfold opP
  constructor
  · rintro ⟨a, b, c, d, e, f⟩; exact ⟨a, c, d, e, b, f⟩
  · rintro ⟨a, c, d, e, b, f⟩; exact ⟨a, b, c, d, e, f⟩
theorem impl_OpOk.calls (k r s t vk vn : Int) (b : Bool) (w : World) (h : opV.f k r s t vk vn = some b) :
    Calls Try.prog 25 #[.agg #[.int .i64 k, .int .i64 r, .int .i64 s, .int .i64 t, .int .i64 vk, .int .i64 vn]] w fun e w' => e = .returned (.bool b) ∧ Below w.heap.size w w' := by
  refine implOp_walk k r s t vk vn w b (hasC k 86) (valB k vk vn) (fun c n m => fieldB (hasC k c) n m) (howR k) (fun W => impl_Op_how.calls k r s t vk vn _ _ _ _ W rfl) (fun W => has_any k r s t vk vn 86 W)
    (fun W => valOp_any k r s t vk vn W) (fun c n m W hB => field_any w.heap.size k r s t vk vn c n m W hB) ⟨?_⟩
  rw [← opB_eq]
  exact (Option.some.inj h).symm
def opS (x : S29) : Bool := opB x.f0 x.f1 x.f2 x.f3 x.f4.f0 x.f4.f1
def wrongB (n : Nat) (x : S29) : Bool := !(opS x) || (hasT x.f0 && decide ((n : Int) ≤ x.f3))
def codeB (l : List S29) : Bool := decide (1 ≤ l.length ∧ l.length ≤ 16) && !(l.any (wrongB l.length))
def codeV.f (l : List S29) : Option Bool := some (codeB l)
theorem wrong_any (A0 : Option Addr) (n c0 B : Nat) (k r s t vk vn : Int) (w : World) (hB : w.heap[B]? = some (.cells #[.slice A0 n c0] 42 (0, 0))) :
    Calls Try.prog 73 #[.agg #[.int .i64 k, .int .i64 r, .int .i64 s, .int .i64 t, .int .i64 vk, .int .i64 vn], .pointer (some ⟨B, 0, none⟩)] w fun e w' => e = .returned (.bool (!(opB k r s t vk vn) || (hasT k && decide ((n : Int) ≤ t)))) ∧ Below w.heap.size w w' := by
  have hOk := fun W : World => impl_OpOk.calls k r s t vk vn (opB k r s t vk vn) W rfl
  have hHas := fun W : World => has_any k r s t vk vn 84 W
  rw [hasC_T] at hHas
  have ltB := blk_lt hB
  obtain ⟨g, hg⟩ : ∃ g, g = opB k r s t vk vn := ⟨_, rfl⟩
  obtain ⟨h, hh⟩ : ∃ h, h = hasT k := ⟨_, rfl⟩
  rw [← hg] at hOk ⊢
  rw [← hh] at hHas ⊢
  clear hg hh
  have BK : Aside0 ((w.alloc (.cells #[.int .i64 k, .int .i64 r, .int .i64 s, .int .i64 t, .int .i64 vk, .int .i64 vn] 29)).heap[w.heap.size]? = some (.cells #[.int .i64 k, .int .i64 r, .int .i64 s, .int .i64 t, .int .i64 vk, .int .i64 vn] 29 (0, 0))) := ⟨blk_new _ _⟩
  have BB : Aside0 ((w.alloc (.cells #[.int .i64 k, .int .i64 r, .int .i64 s, .int .i64 t, .int .i64 vk, .int .i64 vn] 29)).heap[B]? = some (.cells #[.slice A0 n c0] 42 (0, 0))) := ⟨blk_alloc hB _⟩
  have HB := Aside0.mk (below_alloc (Below.refl w.heap.size w) (.cells #[.int .i64 k, .int .i64 r, .int .i64 s, .int .i64 t, .int .i64 vk, .int .i64 vn] 29))
  clear hB ltB
  cases g <;> cases h
  all_goals go_enter Try.func73, Try.ntmps73
  all_goals go_wp2_with (first | (go_at_call 25; refine (hOk _).mono ?_; rintro e w' ⟨rfl, hb⟩; have BK1 := Aside0.mk (blk_below BK.out hb); have BB1 := Aside0.mk (blk_below BB.out hb); have HB1 := Aside0.mk (below_step HB.out hb); clear HB BK BB hb; have HB := HB1; have BK := BK1; have BB := BB1; clear HB1 BK1 BB1; obtain ⟨q0, q1, q2, q3, q4, q5⟩ : w'.cell? ⟨w.heap.size, 0, none⟩ = some (.int .i64 k) ∧ w'.cell? ⟨w.heap.size, 1, none⟩ = some (.int .i64 r) ∧ w'.cell? ⟨w.heap.size, 2, none⟩ = some (.int .i64 s) ∧ w'.cell? ⟨w.heap.size, 3, none⟩ = some (.int .i64 t) ∧ w'.cell? ⟨w.heap.size, 4, none⟩ = some (.int .i64 vk) ∧ w'.cell? ⟨w.heap.size, 5, none⟩ = some (.int .i64 vn) := ⟨(blk_cell BK.out 0).trans rfl, (blk_cell BK.out 1).trans rfl, (blk_cell BK.out 2).trans rfl, (blk_cell BK.out 3).trans rfl, (blk_cell BK.out 4).trans rfl, (blk_cell BK.out 5).trans rfl⟩) | (go_at_call 64; refine (hHas _).mono ?_; rintro e w'2 ⟨rfl, hb⟩; have BK1 := Aside0.mk (blk_below BK.out hb); have BB1 := Aside0.mk (blk_below BB.out hb); have HB1 := Aside0.mk (below_step HB.out hb); clear HB BK BB hb; have HB := HB1; have BK := BK1; have BB := BB1; clear HB1 BK1 BB1; have u3 : w'2.cell? ⟨w.heap.size, 3, none⟩ = some (.int .i64 t) := (blk_cell BK.out 3).trans rfl; have u0 : w'2.cell? ⟨B, 0, none⟩ = some (.slice A0 n c0) := (blk_cell BB.out 0).trans rfl))
  all_goals go_ret
  all_goals exact ⟨by simp, HB.out⟩
def aggS (x : S29) : Value := .agg #[.int .i64 x.f0, .int .i64 x.f1, .int .i64 x.f2, .int .i64 x.f3, .int .i64 x.f4.f0, .int .i64 x.f4.f1]
def FoundAt (p : S29 → Bool) (l : List S29) (i : Int) : Prop := (0 ≤ i ∧ l.any p = true) ∨ (i = -1 ∧ l.any p = false)
theorem found_yes {p : S29 → Bool} {l : List S29} {kk : Nat} (h : kk < l.length) (hp : p (rd_T29 l kk) = true) : FoundAt p l kk := by
  refine .inl ⟨by omega, List.any_eq_true.2 ⟨rd_T29 l kk, ?_, hp⟩⟩
  unfold rd_T29
  rw [List.getD_eq_getElem?_getD, Int.toNat_natCast, List.getElem?_eq_getElem h]
  exact List.getElem_mem h
theorem found_no {p : S29 → Bool} {l : List S29} (h : ∀ j, j < l.length → p (rd_T29 l (j : Nat)) = false) : FoundAt p l (-1) := by
  refine .inr ⟨rfl, List.any_eq_false.2 fun x hx => ?_⟩
  obtain ⟨j, hj, rfl⟩ := List.mem_iff_getElem.1 hx
  have := h j hj
  unfold rd_T29 at this
  rw [List.getD_eq_getElem?_getD, Int.toNat_natCast, List.getElem?_eq_getElem hj] at this
  simpa using this
theorem index_ops (p : S29 → Bool) (g : Nat) (lb : Array Value) (eg : ∀ args w, (callFunc g args).run Try.prog w = .ok (.enter g args) w) (A0 : Option Addr) (c0 : Nat) (l0 : List S29) (w : World)
    (hr0 : Kd.C k29 w A0 l0.length l0) (hl : l0.length ≤ 16)
    (hp : ∀ (W : World) (x : S29), Below w.heap.size w W → Calls Try.prog g (#[aggS x] ++ lb) W fun e w' => e = .returned (.bool (p x)) ∧ Below w.heap.size w w') :
    Calls Try.prog 92 #[.slice A0 l0.length c0, .func (.func g) #[] lb] w fun e w' => ∃ i, e = .returned (.int .i64 i) ∧ FoundAt p l0 i ∧ Below w.heap.size w w' := by
  have HR0 := Aside0.mk hr0
  clear hr0
  go_enter Try.func92, Try.ntmps92
  go_wp2
  go_loopg [5, 8] l0.length (fun gg _ s8 wr => ∃ kk : Nat, kk ≤ l0.length ∧ l0.length - kk ≤ gg ∧ s8 = .int .i64 kk ∧ Aside (Below w.heap.size w wr) ∧ Aside (∀ j, j < kk → p (rd_T29 l0 (j : Nat)) = false))
  case atStart => exact ⟨0, Nat.zero_le _, by omega, rfl, Below.refl _ w, fun j hj => absurd hj (Nat.not_lt_zero _)⟩
  case round =>
    obtain ⟨kk, hkk, hgg, rfl, BW, A⟩ := hrel
    by_cases hlt : kk < l0.length
    · have hltz : (kk : Int) < (l0.length : Int) := by omega
      have h0z : 0 ≤ (kk : Int) := by omega
      obtain ⟨ad, e, x0, x1, x2, x3, x4, x5⟩ := at_T29 HR0.out (kk : Int) h0z hltz
      subst e
      rw [Int.toNat_natCast] at x0 x1 x2 x3 x4 x5
      replace x0 := (BW.out.cell (World.block_lt_of_cell? w _ x0)).trans x0
      replace x1 := (BW.out.cell (World.block_lt_of_cell? w _ x1)).trans x1
      replace x2 := (BW.out.cell (World.block_lt_of_cell? w _ x2)).trans x2
      replace x3 := (BW.out.cell (World.block_lt_of_cell? w _ x3)).trans x3
      replace x4 := (BW.out.cell (World.block_lt_of_cell? w _ x4)).trans x4
      replace x5 := (BW.out.cell (World.block_lt_of_cell? w _ x5)).trans x5
      have hcall := hp wr (rd_T29 l0 (kk : Int)) BW.out
      unfold aggS at hcall
      clear hp
      obtain ⟨y, hy0⟩ : ∃ y, y = rd_T29 l0 (kk : Int) := ⟨_, rfl⟩
      rw [← hy0] at hcall x0 x1 x2 x3 x4 x5
      have hy := Aside0.mk hy0
      clear hy0
      cases hq : p y with
      | true =>
        rw [hq] at hcall
        go_wp2_with (go_at_fn g; refine hcall.mono ?_; rintro e w' ⟨rfl, hb'⟩)
        go_ret
        exact ⟨_, rfl, found_yes hlt (by rw [← hy.out]; exact hq), hb'⟩
      | false =>
        rw [hq] at hcall
        go_wp2_with (go_at_fn g; refine hcall.mono ?_; rintro e w' ⟨rfl, hb'⟩)
        go_roundg (l0.length - (kk + 1))
        case measure => omega
        case rel =>
          refine ⟨kk + 1, by omega, by omega, by go_num, hb', (show Aside _ from fun j hj => ?_)⟩
          by_cases e : j = kk
          · subst e
            rw [← hy.out]; exact hq
          · exact A.out j (by omega)
    · have hltz : ¬ (kk : Int) < (l0.length : Int) := by omega
      have : kk = l0.length := by omega
      subst this
      go_wp2
      go_ret
      exact ⟨_, rfl, found_no A.out, BW.out⟩
theorem contains_ops (p : S29 → Bool) (g : Nat) (lb : Array Value) (eg : ∀ args w, (callFunc g args).run Try.prog w = .ok (.enter g args) w) (A0 : Option Addr) (c0 : Nat) (l0 : List S29) (w : World)
    (hr0 : Kd.C k29 w A0 l0.length l0) (hl : l0.length ≤ 16)
    (hp : ∀ (W : World) (x : S29), Below w.heap.size w W → Calls Try.prog g (#[aggS x] ++ lb) W fun e w' => e = .returned (.bool (p x)) ∧ Below w.heap.size w w') :
    Calls Try.prog 74 #[.slice A0 l0.length c0, .func (.func g) #[] lb] w fun e w' => e = .returned (.bool (l0.any p)) ∧ Below w.heap.size w w' := by
  have hx := index_ops p g lb eg A0 c0 l0 w hr0 hl hp
  clear hr0 hp
  go_enter Try.func74, Try.ntmps74
  go_wp2_with (go_at_call 92; refine hx.mono ?_; rintro e w' ⟨i, rfl, hi, hb⟩)
  go_ret
  refine ⟨?_, hb⟩
  rcases hi with ⟨h0, h1⟩ | ⟨rfl, h1⟩
  · rw [h1]; simp [h0]
  · rw [h1]; rfl
theorem impl_CodeOk.calls (A0 : Option Addr) (c0 : Nat) (l0 : List S29) (r : Bool) (w : World) (hr0 : Kd.C k29 w A0 l0.length l0) (hc0 : l0.length ≤ c0) (h : codeV.f l0 = some r) :
    Calls Try.prog 35 #[.slice A0 l0.length c0] w fun e w' => e = .returned (.bool r) ∧ Below w.heap.size w w' := by
  have h := Aside0.mk (Option.some.inj h)
  have HR0 := Aside0.mk hr0
  clear hr0
  by_cases hl : 1 ≤ l0.length ∧ l0.length ≤ 16
  · have b1 : (decide (1 ≤ l0.length ∧ l0.length ≤ 16)) = true := decide_eq_true hl
    have b2 : (decide (1 ≤ (l0.length : Int) ∧ (l0.length : Int) ≤ 16)) = true := decide_eq_true (by omega)
    obtain ⟨w1, hw1⟩ : ∃ w1, w1 = w.alloc (.cells #[.slice A0 l0.length c0] 42) := ⟨_, rfl⟩
    have hx := contains_ops (wrongB l0.length) 73 #[.pointer (some ⟨w.heap.size, 0, none⟩)] (fun _ _ => by kernel_rfl) A0 c0 l0 w1 (by rw [hw1]; exact Kd.C_alloc HR0.out _) hl.2 (fun W x hb => by
      have hB : W.heap[w.heap.size]? = some (.cells #[.slice A0 l0.length c0] 42 (0, 0)) := by
        have := blk_new w (.cells #[.slice A0 l0.length c0] 42)
        rw [← hw1] at this
        exact blk_below this hb
      refine (wrong_any A0 l0.length c0 w.heap.size x.f0 x.f1 x.f2 x.f3 x.f4.f0 x.f4.f1 W hB).mono ?_
      rintro e w' ⟨rfl, hb'⟩
      exact ⟨rfl, below_step hb hb'⟩)
    rw [hw1] at hx
    go_enter Try.func35, Try.ntmps35
    go_wp2_with (first | (go_at_call 65; refine (in_any _ _ _ _).mono ?_; rintro e w' ⟨rfl, rfl⟩) | (go_at_call 74; refine hx.mono ?_; rintro e w' ⟨rfl, hb⟩))
    all_goals go_ret
    all_goals (refine ⟨by rw [← h.out]; unfold codeB; simp [b1], ?_⟩)
    all_goals exact below_step (below_alloc (Below.refl _ _) _) hb
  · have b1 : (decide (1 ≤ l0.length ∧ l0.length ≤ 16)) = false := decide_eq_false hl
    have b2 : (decide (1 ≤ (l0.length : Int) ∧ (l0.length : Int) ≤ 16)) = false := decide_eq_false (by omega)
    go_enter Try.func35, Try.ntmps35
    go_wp2_with (first | (go_at_call 65; refine (in_any _ _ _ _).mono ?_; rintro e w' ⟨rfl, rfl⟩))
    all_goals go_ret
    all_goals (refine ⟨by rw [← h.out]; unfold codeB; simp [b1], ?_⟩)
    all_goals exact below_alloc (Below.refl _ _) _
end Go.Proofs.Ytmklpbmlgjkbiaa.PS
end
section
namespace Go.Proofs.Ytmklpbmlgjkbiaa.PS
open Go.RowKit Go.Proofs.YtmklpbmlgjkbiaaW.PrintWords Go.Proofs.YtmklpbmlgjkbiaaW.PrintLast Go.Proofs.YtmklpbmlgjkbiaaW.PrintMore
attribute [local go_sem] max2_int min2_int max_two min_two max_three min_three max_four min_four   -- for this text's walks alone
def IsS84 (w0 W : World) (g : Nat) (f0 : List Int) (f1 : Int) : Prop := ∃ A0 c0, W.heap[g]? = some (.cells #[.slice A0 f0.length c0, .int .i64 f1] 84 (0, 0)) ∧ w0.heap.size ≤ g ∧ Kd.C (Kd.int .u8) w0 A0 f0.length f0
theorem IsS84.grown {w0 W : World} {g : Nat} {f0 : List Int} {f1 : Int} {W1 : World} {row : Option Nat} (h : IsS84 w0 W g f0 f1) (hw : W.grownBy W1 row) (hne : some g ≠ row) : IsS84 w0 W1 g f0 f1 := by
 obtain ⟨A0, c0, hb, hg, hr0⟩ := h
 exact ⟨A0, c0, blk_grown hb hw hne, hg, hr0⟩
theorem IsS84.kept {w0 W : World} {g : Nat} {f0 : List Int} {f1 : Int} {W1 : World} {S : Nat → Prop} (h : IsS84 w0 W g f0 f1) (hk : Kept W W1 S) (hne : ¬ S g) : IsS84 w0 W1 g f0 f1 := by
 obtain ⟨A0, c0, hb, hg, hr0⟩ := h
 exact ⟨A0, c0, blk_kept hb hk hne, hg, hr0⟩
theorem IsS84.below {w0 W : World} {g : Nat} {f0 : List Int} {f1 : Int} {W1 : World} (h : IsS84 w0 W g f0 f1) (hw : Below W.heap.size W W1) : IsS84 w0 W1 g f0 f1 := h.grown (grown_of_below hw none) (by simp)
theorem IsS84.alloc {w0 W : World} {g : Nat} {f0 : List Int} {f1 : Int} (h : IsS84 w0 W g f0 f1) (o : Obj) : IsS84 w0 (W.alloc o) g f0 f1 := h.below (below_alloc (Below.refl _ _) o)
theorem IsS84.drewN {w0 W : World} {g : Nat} {f0 : List Int} {f1 : Int} (h : IsS84 w0 W g f0 f1) (m : Nat) : IsS84 w0 (W.drewN m) g f0 f1 := h
theorem IsS84.drew {w0 W : World} {g : Nat} {f0 : List Int} {f1 : Int} (h : IsS84 w0 W g f0 f1) : IsS84 w0 W.drew g f0 f1 := h
theorem IsS84.apart {w0 W : World} {g : Nat} {f0 : List Int} {f1 : Int} {α : Type} {d : Kd α} {e : Nat} {base : Nat} {ok : Nat → Prop} {v : Value} {xs : List α} (h : IsS84 w0 W g f0 f1) (ho : d.R e W base ok v xs) (ht : ∀ q, q ∈ e :: d.E → q ≠ 84) : d.R e W base (fun k => ok k ∧ k ≠ g) v xs := by
 obtain ⟨A0, c0, hb, hg, hr0⟩ := h
 exact Kd.R_types ho hb ht
theorem IsS84.own_ne {w0 W : World} {g : Nat} {f0 : List Int} {f1 : Int} {α : Type} {d : Kd α} {e : Nat} {base : Nat} {ok : Nat → Prop} {v : Value} {xs : List α} (h : IsS84 w0 W g f0 f1) (ho : d.R e W base ok v xs) (ht : e ≠ 84) : some g ≠ v.ownBlock := by
 obtain ⟨A0, c0, hb, hg, hr0⟩ := h
 exact Kd.R_ne ho hb ht
theorem IsS84.lt {w0 W : World} {g : Nat} {f0 : List Int} {f1 : Int} (h : IsS84 w0 W g f0 f1) : g < W.heap.size := by
 obtain ⟨A0, c0, hb, hg, hr0⟩ := h
 exact blk_lt hb
theorem IsS84.ge {w0 W : World} {g : Nat} {f0 : List Int} {f1 : Int} (h : IsS84 w0 W g f0 f1) : w0.heap.size ≤ g := by
 obtain ⟨A0, c0, hb, hg, hr0⟩ := h
 exact hg
theorem IsS84.far {w0 W : World} {g : Nat} {f0 : List Int} {f1 : Int} {p : Addr} (h : IsS84 w0 W g f0 f1) (hne : g ≠ p.block) (u : Value) : IsS84 w0 (W.setCell p u) g f0 f1 := by
 obtain ⟨A0, c0, hb, hg, hr0⟩ := h
 exact ⟨A0, c0, blk_far hb hne u, hg, hr0⟩
theorem cellS84_0 {W : World} {g : Nat} {A0 : Option Addr} {c0 : Nat} {f0 : List Int} {f1 : Int} (h : W.heap[g]? = some (.cells #[.slice A0 f0.length c0, .int .i64 f1] 84 (0, 0))) : W.cell? ⟨g, 0, none⟩ = some (.slice A0 f0.length c0) := (blk_cell h 0).trans rfl
theorem cellS84_1 {W : World} {g : Nat} {A0 : Option Addr} {c0 : Nat} {f0 : List Int} {f1 : Int} (h : W.heap[g]? = some (.cells #[.slice A0 f0.length c0, .int .i64 f1] 84 (0, 0))) : W.cell? ⟨g, 1, none⟩ = some (.int .i64 f1) := (blk_cell h 1).trans rfl
theorem IsS84.set_1 {w0 W : World} {g : Nat} {f0 : List Int} {f1 : Int} (h : IsS84 w0 W g f0 f1) (x : Int) : IsS84 w0 (W.setCell ⟨g, 1, none⟩ (.int .i64 x)) g f0 x := by
 obtain ⟨A0, c0, hb, hg, hr0⟩ := h
 exact ⟨A0, c0, by simpa using blk_set hb 1 (.int .i64 x), hg, hr0⟩
theorem sA {w0 W : World} {g : Nat} {f0 : List Int} {f1 : Int} (h : IsS84 w0 W g f0 f1) (o : Obj) : IsS84 w0 (W.alloc o) g f0 f1 := IsS84.alloc h o
theorem sN {w0 W : World} {g : Nat} {f0 : List Int} {f1 : Int} (h : IsS84 w0 W g f0 f1) (m : Nat) : IsS84 w0 (W.drewN m) g f0 f1 := h
theorem sD {w0 W : World} {g : Nat} {f0 : List Int} {f1 : Int} (h : IsS84 w0 W g f0 f1) : IsS84 w0 W.drew g f0 f1 := h
theorem sS {w0 W : World} {g : Nat} {f0 : List Int} {f1 : Int} (h : IsS84 w0 W g f0 f1) (x : Int) : IsS84 w0 (W.setCell ⟨g, 1, none⟩ (.int .i64 x)) g f0 x := IsS84.set_1 h x
def spec_l6Open.f (l0 : List Int) : Option (List Int × Int) := if (l0.length : Int) > 2000 then (if 2000 ≤ (l0.length : Int) then (some (l0.take 2000, 0)) else (none)) else (some (l0, 0))
theorem spec_l6Open.calls (A0 : Option Addr) (c0 : Nat) (l0 : List Int) (r1 : List Int) (r2 : Int) (w0 w : World) (hB : Below w0.heap.size w0 w) (hr0 : Kd.C (Kd.int .u8) w0 A0 l0.length l0) (hc0 : l0.length ≤ c0) (h : spec_l6Open.f l0 = some (r1, r2)) :
  Calls Try.prog 69 #[.slice A0 l0.length c0] w fun e w' => ∃ g_ : Nat, e = .returned (.pointer (some ⟨g_, 0, none⟩)) ∧ IsS84 w0 w' g_ r1 r2 ∧ Below w0.heap.size w0 w' ∧ Below w.heap.size w w' := by
 have hu84 := Try.underlying84
 have HR0 := Aside0.mk hr0
 have HC0 := Aside0.mk hc0
 clear hr0 hc0
 have HBW := Aside0.mk (Below.refl w.heap.size w)
 have HW0 := Aside0.mk hB.size
 have HB := Aside0.mk hB
 clear hB
 have H : (if (l0.length : Int) > 2000 then (if 2000 ≤ (l0.length : Int) then (some (l0.take 2000, 0)) else (none)) else (some (l0, 0))) = some (r1, r2) := h
 clear h
 by_cases c2 : (l0.length : Int) > 2000
 ·rw [if_pos c2] at H
  have c2b0 : decide (2000 < (l0.length : Int)) = true := decide_eq_true c2
  have c2b1 : decide (2000 < l0.length) = true := decide_eq_true (by omega)
  clear c2
  by_cases c3 : 2000 ≤ (l0.length : Int)
  ·rw [if_pos c3] at H
   have c3b0 := eq_true c3
   have c3b1 : decide (2000 ≤ (l0.length : Int)) = true := decide_eq_true c3
   clear c3
   simp only [Option.some.injEq, Prod.mk.injEq] at H
   obtain ⟨rfl, rfl⟩ := H
   obtain ⟨i04, hi04, _, hsz4, _⟩ := info_parts info5
   obtain ⟨hcut4, hA4, hC4⟩ := print_take_of (P := Try.prog) (Value.int .u8) 0 36 5 .i64 Try.underlying36 hi04 hsz4 A0 c0 l0 2000 (by omega) (of_decide_eq_true (by assumption)) HC0.out
   have HR134 := Aside0.mk (Kd.C_of_reads (h1 := fun _ => rfl) (hA4 _ (Kd.reads_of_C HR0.out)))
   have HC134 := Aside0.mk hC4
   clear hA4 hC4 hi04 hsz4
   go_enter Try.func69, Try.ntmps69
   go_wp2_with (first | ((with_reducible refine gate_dst (N := 10) rfl ?_); refine box_event ?hg (N := 10) ?hd (cs := #[.slice A0 (l0.take 2000).length c0, .int .i64 0]) (t := 84) ?hr ?_; (case hd => rfl); (case hg => rfl); (case hr => first | (go_simp; done) | (go_simp; rfl)); intro gb135 hg w5 hbox hb; have n0_ := Aside0.mk (below_step HBW.out hb); have n1_ := Aside0.mk (below_step (by exact bU HB.out) hb); have n2_ := Aside0.mk (hbox); have n3_ := Aside0.mk ((by rw [hg]; exact (below_size (by repeat (with_reducible first | exact HBW.out | apply bA | apply bN | apply b1))) : w.heap.size ≤ gb135)); have n4_ := Aside0.mk ((Nat.le_trans HW0.out (by rw [hg]; exact (below_size (by repeat (with_reducible first | exact HBW.out | apply bA | apply bN | apply b1))) : w.heap.size ≤ gb135) : w0.heap.size ≤ gb135)); clear HBW; clear HB; have HBW := n0_; have HB := n1_; have BK135 := n2_; have GW135 := n3_; have GE135 := n4_; clear n0_ n1_ n2_ n3_ n4_; clear hb hbox hg))
   go_ret
   exact ⟨_, rfl, (show IsS84 w0 _ gb135 (l0.take 2000) 0 from ⟨_, _, by exact blkU BK135.out, GE135.out, HR134.out⟩), by repeat (with_reducible first | exact HB.out | apply bA | apply bN | apply b1 | refine below_set ?_ GE135.out), by repeat (with_reducible first | exact HBW.out | apply bA | apply bN | apply b1 | refine below_set ?_ GW135.out)⟩
  ·rw [if_neg c3] at H
   exact absurd H (by simp)
 ·rw [if_neg c2] at H
  have c2b0 : decide (2000 < (l0.length : Int)) = false := decide_eq_false c2
  have c2b1 : decide (2000 < l0.length) = false := decide_eq_false (by omega)
  clear c2
  simp only [Option.some.injEq, Prod.mk.injEq] at H
  obtain ⟨rfl, rfl⟩ := H
  go_enter Try.func69, Try.ntmps69
  go_wp2_with (first | ((with_reducible refine gate_dst (N := 10) rfl ?_); refine box_event ?hg (N := 10) ?hd (cs := #[.slice A0 l0.length c0, .int .i64 0]) (t := 84) ?hr ?_; (case hd => rfl); (case hg => rfl); (case hr => first | (go_simp; done) | (go_simp; rfl)); intro gb136 hg w6 hbox hb; have n0_ := Aside0.mk (below_step HBW.out hb); have n1_ := Aside0.mk (below_step (by exact bU HB.out) hb); have n2_ := Aside0.mk (hbox); have n3_ := Aside0.mk ((by rw [hg]; exact (below_size (by repeat (with_reducible first | exact HBW.out | apply bA | apply bN | apply b1))) : w.heap.size ≤ gb136)); have n4_ := Aside0.mk ((Nat.le_trans HW0.out (by rw [hg]; exact (below_size (by repeat (with_reducible first | exact HBW.out | apply bA | apply bN | apply b1))) : w.heap.size ≤ gb136) : w0.heap.size ≤ gb136)); clear HBW; clear HB; have HBW := n0_; have HB := n1_; have BK136 := n2_; have GW136 := n3_; have GE136 := n4_; clear n0_ n1_ n2_ n3_ n4_; clear hb hbox hg))
  go_ret
  exact ⟨_, rfl, (show IsS84 w0 _ gb136 l0 0 from ⟨_, _, by exact blkU BK136.out, GE136.out, HR0.out⟩), by repeat (with_reducible first | exact HB.out | apply bA | apply bN | apply b1 | refine below_set ?_ GE136.out), by repeat (with_reducible first | exact HBW.out | apply bA | apply bN | apply b1 | refine below_set ?_ GW136.out)⟩
def spec_l6Rd_pick.j0 : Nat → Int → Bool → List Int → Int → Option (Int × Int)
 | 0, _, _, _, _ => none
 | k + 1, x1, x24, x1000, x1001 => if x24 = true then (some (0, x1001)) else (if (wrap64 (x1001 - 1)) < (x1000.length : Int) then (if 0 ≤ (wrap64 (x1001 - 1)) then (if x1 = 0 then (none) else (some (Int.tmod (wrap64 (rd x1000 (wrap64 (x1001 - 1)))) x1, x1001))) else (none)) else (if (x1000.length : Int) = 0 then (none) else (if 0 ≤ (Int.tmod (wrap64 (x1001 - 1)) (x1000.length : Int)) then (if (Int.tmod (wrap64 (x1001 - 1)) (x1000.length : Int)) < (x1000.length : Int) then (if 0 ≤ (Int.tmod (wrap64 ((wrap64 ((wrap64 (x1001 - 1)) * 7)) + 3)) (x1000.length : Int)) then (if (Int.tmod (wrap64 ((wrap64 ((wrap64 (x1001 - 1)) * 7)) + 3)) (x1000.length : Int)) < (x1000.length : Int) then (if x1 = 0 then (none) else (some (Int.tmod (Go.bits .xor .i64 (wrap64 ((wrap64 ((wrap64 ((wrap64 ((wrap64 (rd x1000 (Int.tmod (wrap64 (x1001 - 1)) (x1000.length : Int)))) * 131)) + (wrap64 ((wrap64 (rd x1000 (Int.tmod (wrap64 ((wrap64 ((wrap64 (x1001 - 1)) * 7)) + 3)) (x1000.length : Int)))) * 1117)))) + (wrap64 ((wrap64 (x1001 - 1)) * 29)))) + (wrap64 ((wrap64 (Int.tdiv (wrap64 (x1001 - 1)) (x1000.length : Int))) * 53)))) (wrap64 (Int.tdiv (wrap64 ((wrap64 ((wrap64 ((wrap64 ((wrap64 (rd x1000 (Int.tmod (wrap64 (x1001 - 1)) (x1000.length : Int)))) * 131)) + (wrap64 ((wrap64 (rd x1000 (Int.tmod (wrap64 ((wrap64 ((wrap64 (x1001 - 1)) * 7)) + 3)) (x1000.length : Int)))) * 1117)))) + (wrap64 ((wrap64 (x1001 - 1)) * 29)))) + (wrap64 ((wrap64 (Int.tdiv (wrap64 (x1001 - 1)) (x1000.length : Int))) * 53)))) 64))) x1, x1001))) else (none)) else (none)) else (none)) else (none))))
def spec_l6Rd_pick.f (k : Nat) (s0_0 : List Int) (s0_1 : Int) (a1 : Int) : Option (Int × Int) := if a1 < 1 then (spec_l6Rd_pick.j0 k a1 true s0_0 (wrap64 (s0_1 + 1))) else (spec_l6Rd_pick.j0 k a1 ((s0_0.length : Int) == 0) s0_0 (wrap64 (s0_1 + 1)))
theorem spec_l6Rd_pick.mono_l : ∀ k, (∀ y0 y1 y2 y3, LeO (spec_l6Rd_pick.j0 k y0 y1 y2 y3) (spec_l6Rd_pick.j0 (k + 1) y0 y1 y2 y3))
 | 0 => fun _ _ _ _ r h => by simp [spec_l6Rd_pick.j0] at h
 | k + 1 => by
  have ih0 := spec_l6Rd_pick.mono_l k
  ·intro y0 y1 y2 y3
   unfold spec_l6Rd_pick.j0
   repeat' first
   | (with_reducible exact ih0 _ _ _ _)
   | (with_reducible exact LeO.refl _)
   | (with_reducible exact LeO.none _)
   | (with_reducible refine LeO.ite ?_ ?_)
   | (with_reducible refine LeO.bind ?_ (fun _ => ?_))
   | exact ih0 _ _ _ _
   | exact LeO.none _
   | refine LeO.ite ?_ ?_
   | refine LeO.bind ?_ (fun _ => ?_)
theorem spec_l6Rd_pick.mono : ∀ a0 a1 a2 k, LeO (spec_l6Rd_pick.f k a0 a1 a2) (spec_l6Rd_pick.f (k + 1) a0 a1 a2) := by
 intro a0 a1 a2 k
 have ih0 := spec_l6Rd_pick.mono_l k
 unfold spec_l6Rd_pick.f
 repeat' first
   | (with_reducible exact ih0 _ _ _ _)
   | (with_reducible exact LeO.refl _)
   | (with_reducible exact LeO.none _)
   | (with_reducible refine LeO.ite ?_ ?_)
   | (with_reducible refine LeO.bind ?_ (fun _ => ?_))
   | exact ih0 _ _ _ _
   | exact LeO.none _
   | refine LeO.ite ?_ ?_
   | refine LeO.bind ?_ (fun _ => ?_)
theorem spec_l6Rd_pick.calls (k : Nat) (g : Nat) (s0_0 : List Int) (s0_1 : Int) (a1 : Int) (r1 : Int) (r2 : Int) (w0 w : World) (hI : IsS84 w0 w g s0_0 s0_1) (hB : Below w0.heap.size w0 w) (h : spec_l6Rd_pick.f k s0_0 s0_1 a1 = some (r1, r2)) :
  Calls Try.prog 71 #[.pointer (some ⟨g, 0, none⟩), .int .i64 a1] w fun e w' => e = .returned (.int .i64 r1) ∧ IsS84 w0 w' g s0_0 r2 ∧ Below w0.heap.size w0 w' ∧ KeepBut w w' g none := by
 have HI0 := Aside0.mk hI
 have HK := Aside0.mk (KeepBut.refl w g none)
 have HL := Aside0.mk hB.size
 clear hI
 have HW0 := Aside0.mk hB.size
 have HB := Aside0.mk hB
 clear hB
 have H : (if a1 < 1 then (spec_l6Rd_pick.j0 k a1 true s0_0 (wrap64 (s0_1 + 1))) else (spec_l6Rd_pick.j0 k a1 ((s0_0.length : Int) == 0) s0_0 (wrap64 (s0_1 + 1)))) = some (r1, r2) := h
 clear h
 have HC3 := Aside0.mk H
 clear H
 obtain ⟨ASz4_0, cSz4_0, HGz4, hgz4, HSz4_0⟩ := HI0.out
 have hcz4_0 := cellS84_0 HGz4
 have hcz4_1 := cellS84_1 HGz4
 have hfz4_1 := blk_frozen HGz4 1
 clear HGz4 hgz4
 go_enter Try.func71, Try.ntmps71
 go_upto_region 2 with (fail)
 go_cut [24] (fun v24 wc => ∃ (kq : Nat) (x24_2 : Bool), v24 = .bool x24_2 ∧ Aside0 (spec_l6Rd_pick.j0 kq a1 x24_2 s0_0 (wrap64 (s0_1 + 1)) = some (r1, r2)) ∧ Aside0 (kq ≤ k) ∧ Aside0 (IsS84 w0 wc g s0_0 (wrap64 (s0_1 + 1))) ∧ Aside0 (KeepBut w wc g none) ∧ Aside0 (Below w0.heap.size w0 wc))
 case first =>
  have H := HC3.out
  clear HC3
  by_cases c5 : a1 < 1
  ·rw [if_pos c5] at H
   have c5b0 : decide (a1 < 1) = true := decide_eq_true c5
   clear c5
   (first | rw [c5b0] | (simp only [i64_w, i32_w]; rw [c5b0]) | skip)
   have H' := Aside0.mk H
   clear H
   go_wp2
   go_meet
   case rel => exact ⟨_, (true), (by first | rfl | (simp; done) | (simp [*]; done)), H', ⟨by first | omega | exact Nat.le_refl _⟩, ⟨by repeat (with_reducible first | exact HI0.out | apply sA | apply sN | apply sD | apply sS)⟩, ⟨by repeat (with_reducible first | exact HK.out | apply pS | apply pN | apply pD | apply pA)⟩, ⟨by repeat (with_reducible first | exact HB.out | apply bA | apply bN | apply b1 | refine below_set ?_ (IsS84.ge HI0.out))⟩⟩
  ·rw [if_neg c5] at H
   have c5b0 : decide (a1 < 1) = false := decide_eq_false c5
   clear c5
   (first | rw [c5b0] | (simp only [i64_w, i32_w]; rw [c5b0]) | skip)
   have H' := Aside0.mk H
   clear H
   obtain ⟨ASz6_0, cSz6_0, HGz6, hgz6, HSz6_0⟩ := HI0.out
   have hcz6_0 := cellS84_0 HGz6
   have hcz6_1 := cellS84_1 HGz6
   have hfz6_1 := blk_frozen HGz6 1
   clear HGz6 hgz6
   go_wp2
   go_meet
   case rel => exact ⟨_, (((s0_0.length : Int) == 0)), (by first | rfl | (simp; done) | (simp [*]; done)), H', ⟨by first | omega | exact Nat.le_refl _⟩, ⟨by repeat (with_reducible first | exact HI0.out | apply sA | apply sN | apply sD | apply sS)⟩, ⟨by repeat (with_reducible first | exact HK.out | apply pS | apply pN | apply pD | apply pA)⟩, ⟨by repeat (with_reducible first | exact HB.out | apply bA | apply bN | apply b1 | refine below_set ?_ (IsS84.ge HI0.out))⟩⟩
 case rest =>
  clear HC3
  (try clear p2); (try clear c5); (try clear c5b0); (try clear p6); (try clear hcz4_0); (try clear hcz4_1); (try clear hcz6_0); (try clear hcz6_1); (try clear hfz4_1); (try clear hfz6_1)
  obtain ⟨kq, x24_2, rfl, HA, HJ2, HI0, HK, HB⟩ := hcut
  cases kq with
  | zero => exact absurd HA.out (by simp [spec_l6Rd_pick.j0])
  | succ kj2 =>
   have H := HA.out
   clear HA
   simp only [spec_l6Rd_pick.j0] at H
   by_cases c7 : x24_2 = true
   ·subst c7
    have H1 : (some (0, (wrap64 (s0_1 + 1)))) = some (r1, r2) := by rw [if_pos rfl] at H; exact H
    clear H
    have H := H1
    clear H1
    simp only [Option.some.injEq, Prod.mk.injEq] at H
    obtain ⟨rfl, rfl⟩ := H
    go_wp2
    go_ret
    exact ⟨by first | rfl | (simp [errW_none, errW_some] <;> rfl) | (simp [*, errW_none, errW_some] <;> rfl), by repeat (with_reducible first | exact HI0.out | apply sA | apply sN | apply sD | apply sS), by repeat (with_reducible first | exact HB.out | apply bA | apply bN | apply b1 | refine below_set ?_ (IsS84.ge HI0.out)), by repeat (with_reducible first | exact HK.out | apply pS | apply pN | apply pD | apply pA)⟩
   ·replace c7 := Bool.eq_false_iff.mpr c7
    subst c7
    have H1 : (if (wrap64 ((wrap64 (s0_1 + 1)) - 1)) < (s0_0.length : Int) then (if 0 ≤ (wrap64 ((wrap64 (s0_1 + 1)) - 1)) then (if a1 = 0 then (none) else (some (Int.tmod (wrap64 (rd s0_0 (wrap64 ((wrap64 (s0_1 + 1)) - 1)))) a1, (wrap64 (s0_1 + 1))))) else (none)) else (if (s0_0.length : Int) = 0 then (none) else (if 0 ≤ (Int.tmod (wrap64 ((wrap64 (s0_1 + 1)) - 1)) (s0_0.length : Int)) then (if (Int.tmod (wrap64 ((wrap64 (s0_1 + 1)) - 1)) (s0_0.length : Int)) < (s0_0.length : Int) then (if 0 ≤ (Int.tmod (wrap64 ((wrap64 ((wrap64 ((wrap64 (s0_1 + 1)) - 1)) * 7)) + 3)) (s0_0.length : Int)) then (if (Int.tmod (wrap64 ((wrap64 ((wrap64 ((wrap64 (s0_1 + 1)) - 1)) * 7)) + 3)) (s0_0.length : Int)) < (s0_0.length : Int) then (if a1 = 0 then (none) else (some (Int.tmod (Go.bits .xor .i64 (wrap64 ((wrap64 ((wrap64 ((wrap64 ((wrap64 (rd s0_0 (Int.tmod (wrap64 ((wrap64 (s0_1 + 1)) - 1)) (s0_0.length : Int)))) * 131)) + (wrap64 ((wrap64 (rd s0_0 (Int.tmod (wrap64 ((wrap64 ((wrap64 ((wrap64 (s0_1 + 1)) - 1)) * 7)) + 3)) (s0_0.length : Int)))) * 1117)))) + (wrap64 ((wrap64 ((wrap64 (s0_1 + 1)) - 1)) * 29)))) + (wrap64 ((wrap64 (Int.tdiv (wrap64 ((wrap64 (s0_1 + 1)) - 1)) (s0_0.length : Int))) * 53)))) (wrap64 (Int.tdiv (wrap64 ((wrap64 ((wrap64 ((wrap64 ((wrap64 (rd s0_0 (Int.tmod (wrap64 ((wrap64 (s0_1 + 1)) - 1)) (s0_0.length : Int)))) * 131)) + (wrap64 ((wrap64 (rd s0_0 (Int.tmod (wrap64 ((wrap64 ((wrap64 ((wrap64 (s0_1 + 1)) - 1)) * 7)) + 3)) (s0_0.length : Int)))) * 1117)))) + (wrap64 ((wrap64 ((wrap64 (s0_1 + 1)) - 1)) * 29)))) + (wrap64 ((wrap64 (Int.tdiv (wrap64 ((wrap64 (s0_1 + 1)) - 1)) (s0_0.length : Int))) * 53)))) 64))) a1, (wrap64 (s0_1 + 1))))) else (none)) else (none)) else (none)) else (none)))) = some (r1, r2) := by rw [if_neg (show ¬ (false = true) by decide)] at H; exact H
    clear H
    have H := H1
    clear H1
    by_cases c8 : (wrap64 ((wrap64 (s0_1 + 1)) - 1)) < (s0_0.length : Int)
    ·rw [if_pos c8] at H
     have c8b0 : decide ((wrap64 ((wrap64 (s0_1 + 1)) - 1)) < (s0_0.length : Int)) = true := decide_eq_true c8
     clear c8
     obtain ⟨ji9, hji9⟩ : ∃ j_ : Int, (wrap64 ((wrap64 (s0_1 + 1)) - 1)) = j_ := ⟨_, rfl⟩
     replace H : (if 0 ≤ (ji9) then (if a1 = 0 then (none) else (some (Int.tmod (wrap64 (rd s0_0 (ji9))) a1, (wrap64 (s0_1 + 1))))) else (none)) = some (r1, r2) := by first | (rw [hji9] at H; exact H) | (simp only [hji9] at H ⊢; exact H)
     (try rw [hji9] at c8b0)
     have hji9w : (IntKind.i64.wrap ((wrap64 (s0_1 + 1)) - 1)) = ji9 := (i64_w _).trans hji9
     by_cases c10 : 0 ≤ (ji9)
     ·rw [if_pos c10] at H
      have c10b0 : decide (0 ≤ (ji9)) = true := decide_eq_true c10
      clear c10
      by_cases c11 : a1 = 0
      ·rw [if_pos c11] at H
       exact absurd H (by simp)
      ·rw [if_neg c11] at H
       have c11b0 : (a1 == 0) = false := beq_eq_false_iff_ne.mpr c11
       have c11b1 : (a1 != 0) = true := bne_iff_ne.mpr c11
       simp only [Option.some.injEq, Prod.mk.injEq] at H
       obtain ⟨rfl, rfl⟩ := H
       obtain ⟨ASz12_0, cSz12_0, HGz12, hgz12, HSz12_0⟩ := HI0.out
       have hcz12_0 := cellS84_0 HGz12
       have hcz12_1 := cellS84_1 HGz12
       have hfz12_1 := blk_frozen HGz12 1
       clear HGz12 hgz12
       have p137 : 0 ≤ ((ji9) : Int) := of_decide_eq_true (by assumption)
       have q137 : (ji9) < (s0_0.length : Int) := of_decide_eq_true (by assumption)
       obtain ⟨ad137, e137, hx137_0⟩ := Kd.at_int HSz12_0 (ji9) p137 q137
       cases e137
       replace hx137_0 := pw_cell_below HB.out hx137_0
       replace p137 := eq_true p137
       replace q137 := eq_true q137
       go_wp2
       go_ret
       exact ⟨by first | rfl | (simp [errW_none, errW_some] <;> rfl) | (simp only [← hji9]; first | rfl | (simp [errW_none, errW_some] <;> rfl)) | (simp [*, errW_none, errW_some] <;> rfl), by repeat (with_reducible first | exact HI0.out | apply sA | apply sN | apply sD | apply sS), by repeat (with_reducible first | exact HB.out | apply bA | apply bN | apply b1 | refine below_set ?_ (IsS84.ge HI0.out)), by repeat (with_reducible first | exact HK.out | apply pS | apply pN | apply pD | apply pA)⟩
     ·rw [if_neg c10] at H
      exact absurd H (by simp)
    ·rw [if_neg c8] at H
     have c8b0 : decide ((wrap64 ((wrap64 (s0_1 + 1)) - 1)) < (s0_0.length : Int)) = false := decide_eq_false c8
     clear c8
     by_cases c13 : (s0_0.length : Int) = 0
     ·rw [if_pos c13] at H
      exact absurd H (by simp)
     ·rw [if_neg c13] at H
      have c13b0 : ((s0_0.length : Int) == 0) = false := beq_eq_false_iff_ne.mpr c13
      have c13b1 : ((s0_0.length : Int) != 0) = true := bne_iff_ne.mpr c13
      have c13b2 : ¬ (s0_0 = []) := fun h_ => c13 (by rw [h_]; rfl)
      obtain ⟨ji14, hji14⟩ : ∃ j_ : Int, (Int.tmod (wrap64 ((wrap64 (s0_1 + 1)) - 1)) (s0_0.length : Int)) = j_ := ⟨_, rfl⟩
      replace H : (if 0 ≤ (ji14) then (if (ji14) < (s0_0.length : Int) then (if 0 ≤ (Int.tmod (wrap64 ((wrap64 ((wrap64 ((wrap64 (s0_1 + 1)) - 1)) * 7)) + 3)) (s0_0.length : Int)) then (if (Int.tmod (wrap64 ((wrap64 ((wrap64 ((wrap64 (s0_1 + 1)) - 1)) * 7)) + 3)) (s0_0.length : Int)) < (s0_0.length : Int) then (if a1 = 0 then (none) else (some (Int.tmod (Go.bits .xor .i64 (wrap64 ((wrap64 ((wrap64 ((wrap64 ((wrap64 (rd s0_0 (ji14))) * 131)) + (wrap64 ((wrap64 (rd s0_0 (Int.tmod (wrap64 ((wrap64 ((wrap64 ((wrap64 (s0_1 + 1)) - 1)) * 7)) + 3)) (s0_0.length : Int)))) * 1117)))) + (wrap64 ((wrap64 ((wrap64 (s0_1 + 1)) - 1)) * 29)))) + (wrap64 ((wrap64 (Int.tdiv (wrap64 ((wrap64 (s0_1 + 1)) - 1)) (s0_0.length : Int))) * 53)))) (wrap64 (Int.tdiv (wrap64 ((wrap64 ((wrap64 ((wrap64 ((wrap64 (rd s0_0 (ji14))) * 131)) + (wrap64 ((wrap64 (rd s0_0 (Int.tmod (wrap64 ((wrap64 ((wrap64 ((wrap64 (s0_1 + 1)) - 1)) * 7)) + 3)) (s0_0.length : Int)))) * 1117)))) + (wrap64 ((wrap64 ((wrap64 (s0_1 + 1)) - 1)) * 29)))) + (wrap64 ((wrap64 (Int.tdiv (wrap64 ((wrap64 (s0_1 + 1)) - 1)) (s0_0.length : Int))) * 53)))) 64))) a1, (wrap64 (s0_1 + 1))))) else (none)) else (none)) else (none)) else (none)) = some (r1, r2) := by first | (rw [hji14] at H; exact H) | (simp only [hji14] at H ⊢; exact H)
      by_cases c15 : 0 ≤ (ji14)
      ·rw [if_pos c15] at H
       have c15b0 : decide (0 ≤ (ji14)) = true := decide_eq_true c15
       clear c15
       by_cases c16 : (ji14) < (s0_0.length : Int)
       ·rw [if_pos c16] at H
        have c16b0 : decide ((ji14) < (s0_0.length : Int)) = true := decide_eq_true c16
        clear c16
        obtain ⟨ji17, hji17⟩ : ∃ j_ : Int, (Int.tmod (wrap64 ((wrap64 ((wrap64 ((wrap64 (s0_1 + 1)) - 1)) * 7)) + 3)) (s0_0.length : Int)) = j_ := ⟨_, rfl⟩
        replace H : (if 0 ≤ (ji17) then (if (ji17) < (s0_0.length : Int) then (if a1 = 0 then (none) else (some (Int.tmod (Go.bits .xor .i64 (wrap64 ((wrap64 ((wrap64 ((wrap64 ((wrap64 (rd s0_0 (ji14))) * 131)) + (wrap64 ((wrap64 (rd s0_0 (ji17))) * 1117)))) + (wrap64 ((wrap64 ((wrap64 (s0_1 + 1)) - 1)) * 29)))) + (wrap64 ((wrap64 (Int.tdiv (wrap64 ((wrap64 (s0_1 + 1)) - 1)) (s0_0.length : Int))) * 53)))) (wrap64 (Int.tdiv (wrap64 ((wrap64 ((wrap64 ((wrap64 ((wrap64 (rd s0_0 (ji14))) * 131)) + (wrap64 ((wrap64 (rd s0_0 (ji17))) * 1117)))) + (wrap64 ((wrap64 ((wrap64 (s0_1 + 1)) - 1)) * 29)))) + (wrap64 ((wrap64 (Int.tdiv (wrap64 ((wrap64 (s0_1 + 1)) - 1)) (s0_0.length : Int))) * 53)))) 64))) a1, (wrap64 (s0_1 + 1))))) else (none)) else (none)) = some (r1, r2) := by first | (rw [hji17] at H; exact H) | (simp only [hji17] at H ⊢; exact H)
        by_cases c18 : 0 ≤ (ji17)
        ·rw [if_pos c18] at H
         have c18b0 : decide (0 ≤ (ji17)) = true := decide_eq_true c18
         clear c18
         by_cases c19 : (ji17) < (s0_0.length : Int)
         ·rw [if_pos c19] at H
          have c19b0 : decide ((ji17) < (s0_0.length : Int)) = true := decide_eq_true c19
          clear c19
          by_cases c20 : a1 = 0
          ·rw [if_pos c20] at H
           exact absurd H (by simp)
          ·rw [if_neg c20] at H
           have c20b0 : (a1 == 0) = false := beq_eq_false_iff_ne.mpr c20
           have c20b1 : (a1 != 0) = true := bne_iff_ne.mpr c20
           simp only [Option.some.injEq, Prod.mk.injEq] at H
           obtain ⟨rfl, rfl⟩ := H
           obtain ⟨ASz21_0, cSz21_0, HGz21, hgz21, HSz21_0⟩ := HI0.out
           have hcz21_0 := cellS84_0 HGz21
           have hcz21_1 := cellS84_1 HGz21
           have hfz21_1 := blk_frozen HGz21 1
           clear HGz21 hgz21
           have p138 : 0 ≤ ((ji14) : Int) := of_decide_eq_true (by assumption)
           have q138 : (ji14) < (s0_0.length : Int) := of_decide_eq_true (by assumption)
           obtain ⟨ad138, e138, hx138_0⟩ := Kd.at_int HSz21_0 (ji14) p138 q138
           cases e138
           replace hx138_0 := pw_cell_below HB.out hx138_0
           replace p138 := eq_true p138
           replace q138 := eq_true q138
           have p139 : 0 ≤ ((ji17) : Int) := of_decide_eq_true (by assumption)
           have q139 : (ji17) < (s0_0.length : Int) := of_decide_eq_true (by assumption)
           obtain ⟨ad139, e139, hx139_0⟩ := Kd.at_int HSz21_0 (ji17) p139 q139
           obtain rfl : ad138 = ad139 := (by injection e139)
           replace hx139_0 := pw_cell_below HB.out hx139_0
           replace p139 := eq_true p139
           replace q139 := eq_true q139
           go_wp2
           repeat (go_quiet (fail); try go_wp2)
           go_ret
           exact ⟨by first | rfl | (simp [errW_none, errW_some] <;> rfl) | (simp only [← hji14, ← hji17]; first | rfl | (simp [errW_none, errW_some] <;> rfl)) | (simp [*, errW_none, errW_some] <;> rfl), by repeat (with_reducible first | exact HI0.out | apply sA | apply sN | apply sD | apply sS), by repeat (with_reducible first | exact HB.out | apply bA | apply bN | apply b1 | refine below_set ?_ (IsS84.ge HI0.out)), by repeat (with_reducible first | exact HK.out | apply pS | apply pN | apply pD | apply pA)⟩
         ·rw [if_neg c19] at H
          exact absurd H (by simp)
        ·rw [if_neg c18] at H
         exact absurd H (by simp)
       ·rw [if_neg c16] at H
        exact absurd H (by simp)
      ·rw [if_neg c15] at H
       exact absurd H (by simp)
mutual
def spec_l2Form.j0 : Nat → Int → Bool → Option (List Bool)
 | 0, _, _ => none
 | k + 1, x3, x7 => if x7 = true then (some (([true, true, false, false] : List Bool))) else (if x3 = 4 then (spec_l2Form.j1 k x3 (x3 == 4)) else (if x3 = 11 then (spec_l2Form.j1 k x3 (x3 == 11)) else (if x3 = 12 then (spec_l2Form.j1 k x3 (x3 == 12)) else (spec_l2Form.j1 k x3 (x3 == 14)))))
def spec_l2Form.j1 : Nat → Int → Bool → Option (List Bool)
 | 0, _, _ => none
 | k + 1, x3, x13 => if x13 = true then (some (([true, false, false, false] : List Bool))) else (if x3 = 5 then (some (([true, false, true, false] : List Bool))) else (if x3 = 8 then (some (([true, true, true, true] : List Bool))) else (if x3 = 9 then (some (([false, false, true, false] : List Bool))) else (if x3 = 10 then (some (([true, false, true, true] : List Bool))) else (if x3 = 13 then (some (([false, false, false, true] : List Bool))) else (some (([] : List Bool))))))))
end
def spec_l2Form.f (k : Nat) (a0 : Int) : Option (List Bool) := if a0 = 1 then (some (([true, false, false, true] : List Bool))) else (if a0 = 2 then (spec_l2Form.j0 k a0 (a0 == 2)) else (if a0 = 3 then (spec_l2Form.j0 k a0 (a0 == 3)) else (if a0 = 6 then (spec_l2Form.j0 k a0 (a0 == 6)) else (spec_l2Form.j0 k a0 (a0 == 7)))))
theorem spec_l2Form.mono_l : ∀ k, (∀ y0 y1, LeO (spec_l2Form.j0 k y0 y1) (spec_l2Form.j0 (k + 1) y0 y1)) ∧ (∀ y0 y1, LeO (spec_l2Form.j1 k y0 y1) (spec_l2Form.j1 (k + 1) y0 y1))
 | 0 => ⟨fun _ _ r h => by simp [spec_l2Form.j0] at h, fun _ _ r h => by simp [spec_l2Form.j1] at h⟩
 | k + 1 => by
  obtain ⟨ih0, ih1⟩ := spec_l2Form.mono_l k
  refine ⟨?_, ?_⟩
  ·intro y0 y1
   unfold spec_l2Form.j0
   repeat' first
   | (with_reducible exact ih0 _ _)
   | (with_reducible exact ih1 _ _)
   | (with_reducible exact LeO.refl _)
   | (with_reducible exact LeO.none _)
   | (with_reducible refine LeO.ite ?_ ?_)
   | (with_reducible refine LeO.bind ?_ (fun _ => ?_))
   | exact ih0 _ _
   | exact ih1 _ _
   | exact LeO.none _
   | refine LeO.ite ?_ ?_
   | refine LeO.bind ?_ (fun _ => ?_)
  ·intro y0 y1
   unfold spec_l2Form.j1
   repeat' first
   | (with_reducible exact ih0 _ _)
   | (with_reducible exact ih1 _ _)
   | (with_reducible exact LeO.refl _)
   | (with_reducible exact LeO.none _)
   | (with_reducible refine LeO.ite ?_ ?_)
   | (with_reducible refine LeO.bind ?_ (fun _ => ?_))
   | exact ih0 _ _
   | exact ih1 _ _
   | exact LeO.none _
   | refine LeO.ite ?_ ?_
   | refine LeO.bind ?_ (fun _ => ?_)
theorem spec_l2Form.mono : ∀ a0 k, LeO (spec_l2Form.f k a0) (spec_l2Form.f (k + 1) a0) := by
 intro a0 k
 obtain ⟨ih0, ih1⟩ := spec_l2Form.mono_l k
 unfold spec_l2Form.f
 repeat' first
   | (with_reducible exact ih0 _ _)
   | (with_reducible exact ih1 _ _)
   | (with_reducible exact LeO.refl _)
   | (with_reducible exact LeO.none _)
   | (with_reducible refine LeO.ite ?_ ?_)
   | (with_reducible refine LeO.bind ?_ (fun _ => ?_))
   | exact ih0 _ _
   | exact ih1 _ _
   | exact LeO.none _
   | refine LeO.ite ?_ ?_
   | refine LeO.bind ?_ (fun _ => ?_)
theorem spec_l2Form.calls (k : Nat) (a0 : Int) (r : List Bool) (w : World) (h : spec_l2Form.f k a0 = some r) :
  Calls Try.prog 57 #[.int .i64 a0] w fun e w' => ∃ v0_ : Value, e = .returned (v0_) ∧ Kd.R Kd.bool 4 w' w.heap.size (fun _ => True) v0_ r ∧ Below w.heap.size w w' := by
 have HB := Aside0.mk (Below.refl w.heap.size w)
 have H : (if a0 = 1 then (some (([true, false, false, true] : List Bool))) else (if a0 = 2 then (spec_l2Form.j0 k a0 (a0 == 2)) else (if a0 = 3 then (spec_l2Form.j0 k a0 (a0 == 3)) else (if a0 = 6 then (spec_l2Form.j0 k a0 (a0 == 6)) else (spec_l2Form.j0 k a0 (a0 == 7)))))) = some r := h
 clear h
 by_cases c2 : a0 = 1
 ·rw [if_pos c2] at H
  have c2b0 : (a0 == 1) = true := beq_iff_eq.mpr c2
  have c2b1 : (a0 != 1) = false := bne_eq_false_iff_eq.mpr c2
  clear c2
  obtain ⟨y140, hy140⟩ : ∃ y_ : List Bool, y_ = (([true, false, false, true] : List Bool)) := ⟨_, rfl⟩
  replace H : (some y140) = some r := by first | (rw [hy140]; with_reducible exact H) | (have H2_ := (Option.bind_some _ _).symm.trans H; rw [hy140]; with_reducible exact H2_) | (have H2_ := (Option.bind_some _ _).symm.trans H; with_reducible exact H2_) | with_reducible exact H | (rw [hy140]; exact H) | exact H
  have Ny140 := Aside0.mk hy140
  clear hy140
  obtain rfl := Option.some.inj H
  go_enter Try.func57, Try.ntmps57
  go_wp2_with (first | ((with_reducible refine gate_dst (N := 6) rfl ?_); refine Kd.R_lit Kd.bool _ 4 ?hg (N := 6) ?hd (xs := ([true, false, false, true] : List Bool)) (inner := [.bool true, .bool false, .bool false, .bool true]) (ok := fun _ => True) (okp := fun _ => True) ?hr ?hp (fun _ hk => hk) trivial (Below.refl _ _) (Nat.le_refl _) (by simp) ?_; (case hd => rfl); (case hg => rfl); (case hr => first | (go_simp; done) | (go_simp; rfl)); (case hp => exact (Reps.one (show Kd.M Kd.bool _ _ _ true [.bool true] from rfl) (Reps.one (show Kd.M Kd.bool _ _ _ false [.bool false] from rfl) (Reps.one (show Kd.M Kd.bool _ _ _ false [.bool false] from rfl) (Reps.one (show Kd.M Kd.bool _ _ _ true [.bool true] from rfl) (Reps.none _ _)))))); intro v141 w3 ho4 hb hg_ hnew_; clear hg_ hnew_; (first | rw [← Ny140.out] at ho4 | (simp only [Int.reduceToNat] at ho4; rw [← Ny140.out] at ho4)); have HO142 := Aside0.mk (Kd.R_lower ho4 (below_size (by exact bU HB.out))); replace HB := Aside0.mk (below_step (by exact bU HB.out) hb); clear hb ho4))
  go_ret
  exact ⟨_, by first | rfl | (simp [errW_none, errW_some] <;> rfl) | (simp [*, errW_none, errW_some] <;> rfl), by exact rU HO142.out, by exact bU HB.out⟩
 ·rw [if_neg c2] at H
  have c2b0 : (a0 == 1) = false := beq_eq_false_iff_ne.mpr c2
  have c2b1 : (a0 != 1) = true := bne_iff_ne.mpr c2
  have HC5 := Aside0.mk H
  clear H
  go_enter Try.func57, Try.ntmps57
  go_upto_if 7 with (fail)
  go_cut [7] (fun v7 wc => ∃ (kq : Nat) (x7_4 : Bool), v7 = .bool x7_4 ∧ Aside0 (spec_l2Form.j0 kq a0 x7_4 = some r) ∧ Aside0 (kq ≤ k) ∧ Aside0 (Below w.heap.size w wc))
  case first =>
   have H := HC5.out
   clear HC5
   by_cases c6 : a0 = 2
   ·rw [if_pos c6] at H
    have c6b0 : (a0 == 2) = true := beq_iff_eq.mpr c6
    have c6b1 : (a0 != 2) = false := bne_eq_false_iff_eq.mpr c6
    clear c6
    (first | rw [c6b0] | (simp only [i64_w, i32_w]; rw [c6b0]) | skip)
    have H' := Aside0.mk H
    clear H
    go_wp2
    go_meet
    case rel => exact ⟨_, ((a0 == 2)), (by first | rfl | (simp; done) | (simp [*]; done)), H', ⟨by first | omega | exact Nat.le_refl _⟩, ⟨by exact bU HB.out⟩⟩
   ·rw [if_neg c6] at H
    have c6b0 : (a0 == 2) = false := beq_eq_false_iff_ne.mpr c6
    have c6b1 : (a0 != 2) = true := bne_iff_ne.mpr c6
    (first | rw [c6b0] | (simp only [i64_w, i32_w]; rw [c6b0]) | skip)
    by_cases c7 : a0 = 3
    ·rw [if_pos c7] at H
     have c7b0 : (a0 == 3) = true := beq_iff_eq.mpr c7
     have c7b1 : (a0 != 3) = false := bne_eq_false_iff_eq.mpr c7
     clear c7
     have H' := Aside0.mk H
     clear H
     go_wp2
     go_meet
     case rel => exact ⟨_, ((a0 == 3)), (by first | rfl | (simp; done) | (simp [*]; done)), H', ⟨by first | omega | exact Nat.le_refl _⟩, ⟨by exact bU HB.out⟩⟩
    ·rw [if_neg c7] at H
     have c7b0 : (a0 == 3) = false := beq_eq_false_iff_ne.mpr c7
     have c7b1 : (a0 != 3) = true := bne_iff_ne.mpr c7
     by_cases c8 : a0 = 6
     ·rw [if_pos c8] at H
      have c8b0 : (a0 == 6) = true := beq_iff_eq.mpr c8
      have c8b1 : (a0 != 6) = false := bne_eq_false_iff_eq.mpr c8
      clear c8
      have H' := Aside0.mk H
      clear H
      go_wp2
      go_meet
      case rel => exact ⟨_, ((a0 == 6)), (by first | rfl | (simp; done) | (simp [*]; done)), H', ⟨by first | omega | exact Nat.le_refl _⟩, ⟨by exact bU HB.out⟩⟩
     ·rw [if_neg c8] at H
      have c8b0 : (a0 == 6) = false := beq_eq_false_iff_ne.mpr c8
      have c8b1 : (a0 != 6) = true := bne_iff_ne.mpr c8
      have H' := Aside0.mk H
      clear H
      go_wp2
      go_meet
      case rel => exact ⟨_, ((a0 == 7)), (by first | rfl | (simp; done) | (simp [*]; done)), H', ⟨by first | omega | exact Nat.le_refl _⟩, ⟨by exact bU HB.out⟩⟩
  case rest =>
   clear HC5
   (try clear c2); (try clear c2b0); (try clear c2b1); (try clear p2); (try clear c5); (try clear c6); (try clear c6b0); (try clear c6b1); (try clear c7); (try clear c7b0); (try clear c7b1); (try clear c8); (try clear c8b0); (try clear c8b1)
   obtain ⟨kq, x7_4, rfl, HA, HJ4, HB⟩ := hcut
   cases kq with
   | zero => exact absurd HA.out (by simp [spec_l2Form.j0])
   | succ kj4 =>
    have H := HA.out
    clear HA
    simp only [spec_l2Form.j0] at H
    by_cases c9 : x7_4 = true
    ·subst c9
     have H1 : (some (([true, true, false, false] : List Bool))) = some r := by rw [if_pos rfl] at H; exact H
     clear H
     have H := H1
     clear H1
     obtain ⟨y143, hy143⟩ : ∃ y_ : List Bool, y_ = (([true, true, false, false] : List Bool)) := ⟨_, rfl⟩
     replace H : (some y143) = some r := by first | (rw [hy143]; with_reducible exact H) | (have H2_ := (Option.bind_some _ _).symm.trans H; rw [hy143]; with_reducible exact H2_) | (have H2_ := (Option.bind_some _ _).symm.trans H; with_reducible exact H2_) | with_reducible exact H | (rw [hy143]; exact H) | exact H
     have Ny143 := Aside0.mk hy143
     clear hy143
     obtain rfl := Option.some.inj H
     go_wp2_with (first | ((with_reducible refine gate_dst (N := 12) rfl ?_); refine Kd.R_lit Kd.bool _ 4 ?hg (N := 12) ?hd (xs := ([true, true, false, false] : List Bool)) (inner := [.bool true, .bool true, .bool false, .bool false]) (ok := fun _ => True) (okp := fun _ => True) ?hr ?hp (fun _ hk => hk) trivial (Below.refl _ _) (Nat.le_refl _) (by simp) ?_; (case hd => rfl); (case hg => rfl); (case hr => first | (go_simp; done) | (go_simp; rfl)); (case hp => exact (Reps.one (show Kd.M Kd.bool _ _ _ true [.bool true] from rfl) (Reps.one (show Kd.M Kd.bool _ _ _ true [.bool true] from rfl) (Reps.one (show Kd.M Kd.bool _ _ _ false [.bool false] from rfl) (Reps.one (show Kd.M Kd.bool _ _ _ false [.bool false] from rfl) (Reps.none _ _)))))); intro v144 w10 ho11 hb hg_ hnew_; clear hg_ hnew_; (first | rw [← Ny143.out] at ho11 | (simp only [Int.reduceToNat] at ho11; rw [← Ny143.out] at ho11)); have HO145 := Aside0.mk (Kd.R_lower ho11 (below_size (by exact bU HB.out))); replace HB := Aside0.mk (below_step (by exact bU HB.out) hb); clear hb ho11))
     go_ret
     exact ⟨_, by first | rfl | (simp [errW_none, errW_some] <;> rfl) | (simp [*, errW_none, errW_some] <;> rfl), by exact rU HO145.out, by exact bU HB.out⟩
    ·replace c9 := Bool.eq_false_iff.mpr c9
     subst c9
     have H1 : (if a0 = 4 then (spec_l2Form.j1 kj4 a0 (a0 == 4)) else (if a0 = 11 then (spec_l2Form.j1 kj4 a0 (a0 == 11)) else (if a0 = 12 then (spec_l2Form.j1 kj4 a0 (a0 == 12)) else (spec_l2Form.j1 kj4 a0 (a0 == 14))))) = some r := by rw [if_neg (show ¬ (false = true) by decide)] at H; exact H
     clear H
     have H := H1
     clear H1
     have HC12 := Aside0.mk H
     clear H
     go_upto_if 13 with (fail)
     go_cut [13] (fun v13 wc => ∃ (kq : Nat) (x13_11 : Bool), v13 = .bool x13_11 ∧ Aside0 (spec_l2Form.j1 kq a0 x13_11 = some r) ∧ Aside0 (kq ≤ kj4) ∧ Aside0 (Below w.heap.size w wc))
     case first =>
      have H := HC12.out
      clear HC12
      by_cases c13 : a0 = 4
      ·rw [if_pos c13] at H
       have c13b0 : (a0 == 4) = true := beq_iff_eq.mpr c13
       have c13b1 : (a0 != 4) = false := bne_eq_false_iff_eq.mpr c13
       clear c13
       (first | rw [c13b0] | (simp only [i64_w, i32_w]; rw [c13b0]) | skip)
       have H' := Aside0.mk H
       clear H
       go_wp2
       go_meet
       case rel => exact ⟨_, ((a0 == 4)), (by first | rfl | (simp; done) | (simp [*]; done)), H', ⟨by have := HJ4.out; first | omega | exact Nat.le_refl _⟩, ⟨by exact bU HB.out⟩⟩
      ·rw [if_neg c13] at H
       have c13b0 : (a0 == 4) = false := beq_eq_false_iff_ne.mpr c13
       have c13b1 : (a0 != 4) = true := bne_iff_ne.mpr c13
       (first | rw [c13b0] | (simp only [i64_w, i32_w]; rw [c13b0]) | skip)
       by_cases c14 : a0 = 11
       ·rw [if_pos c14] at H
        have c14b0 : (a0 == 11) = true := beq_iff_eq.mpr c14
        have c14b1 : (a0 != 11) = false := bne_eq_false_iff_eq.mpr c14
        clear c14
        have H' := Aside0.mk H
        clear H
        go_wp2
        go_meet
        case rel => exact ⟨_, ((a0 == 11)), (by first | rfl | (simp; done) | (simp [*]; done)), H', ⟨by have := HJ4.out; first | omega | exact Nat.le_refl _⟩, ⟨by exact bU HB.out⟩⟩
       ·rw [if_neg c14] at H
        have c14b0 : (a0 == 11) = false := beq_eq_false_iff_ne.mpr c14
        have c14b1 : (a0 != 11) = true := bne_iff_ne.mpr c14
        by_cases c15 : a0 = 12
        ·rw [if_pos c15] at H
         have c15b0 : (a0 == 12) = true := beq_iff_eq.mpr c15
         have c15b1 : (a0 != 12) = false := bne_eq_false_iff_eq.mpr c15
         clear c15
         have H' := Aside0.mk H
         clear H
         go_wp2
         go_meet
         case rel => exact ⟨_, ((a0 == 12)), (by first | rfl | (simp; done) | (simp [*]; done)), H', ⟨by have := HJ4.out; first | omega | exact Nat.le_refl _⟩, ⟨by exact bU HB.out⟩⟩
        ·rw [if_neg c15] at H
         have c15b0 : (a0 == 12) = false := beq_eq_false_iff_ne.mpr c15
         have c15b1 : (a0 != 12) = true := bne_iff_ne.mpr c15
         have H' := Aside0.mk H
         clear H
         go_wp2
         go_meet
         case rel => exact ⟨_, ((a0 == 14)), (by first | rfl | (simp; done) | (simp [*]; done)), H', ⟨by have := HJ4.out; first | omega | exact Nat.le_refl _⟩, ⟨by exact bU HB.out⟩⟩
     case rest =>
      clear HC12
      (try clear c1); (try clear c2); (try clear c2b0); (try clear c2b1); (try clear p2); (try clear c5); (try clear c6); (try clear c6b0); (try clear c6b1); (try clear c7); (try clear c7b0); (try clear c7b1); (try clear c8); (try clear c8b0); (try clear c8b1); (try clear c9); (try clear c13); (try clear c13b0); (try clear c13b1); (try clear c14); (try clear c14b0); (try clear c14b1); (try clear c15); (try clear c15b0); (try clear c15b1); (try clear p2)
      obtain ⟨kq, x13_11, rfl, HA, HJ11, HB⟩ := hcut
      cases kq with
      | zero => exact absurd HA.out (by simp [spec_l2Form.j1])
      | succ kj11 =>
       have H := HA.out
       clear HA
       simp only [spec_l2Form.j1] at H
       by_cases c16 : x13_11 = true
       ·subst c16
        have H1 : (some (([true, false, false, false] : List Bool))) = some r := by rw [if_pos rfl] at H; exact H
        clear H
        have H := H1
        clear H1
        obtain ⟨y146, hy146⟩ : ∃ y_ : List Bool, y_ = (([true, false, false, false] : List Bool)) := ⟨_, rfl⟩
        replace H : (some y146) = some r := by first | (rw [hy146]; with_reducible exact H) | (have H2_ := (Option.bind_some _ _).symm.trans H; rw [hy146]; with_reducible exact H2_) | (have H2_ := (Option.bind_some _ _).symm.trans H; with_reducible exact H2_) | with_reducible exact H | (rw [hy146]; exact H) | exact H
        have Ny146 := Aside0.mk hy146
        clear hy146
        obtain rfl := Option.some.inj H
        go_wp2_with (first | ((with_reducible refine gate_dst (N := 18) rfl ?_); refine Kd.R_lit Kd.bool _ 4 ?hg (N := 18) ?hd (xs := ([true, false, false, false] : List Bool)) (inner := [.bool true, .bool false, .bool false, .bool false]) (ok := fun _ => True) (okp := fun _ => True) ?hr ?hp (fun _ hk => hk) trivial (Below.refl _ _) (Nat.le_refl _) (by simp) ?_; (case hd => rfl); (case hg => rfl); (case hr => first | (go_simp; done) | (go_simp; rfl)); (case hp => exact (Reps.one (show Kd.M Kd.bool _ _ _ true [.bool true] from rfl) (Reps.one (show Kd.M Kd.bool _ _ _ false [.bool false] from rfl) (Reps.one (show Kd.M Kd.bool _ _ _ false [.bool false] from rfl) (Reps.one (show Kd.M Kd.bool _ _ _ false [.bool false] from rfl) (Reps.none _ _)))))); intro v147 w17 ho18 hb hg_ hnew_; clear hg_ hnew_; (first | rw [← Ny146.out] at ho18 | (simp only [Int.reduceToNat] at ho18; rw [← Ny146.out] at ho18)); have HO148 := Aside0.mk (Kd.R_lower ho18 (below_size (by exact bU HB.out))); replace HB := Aside0.mk (below_step (by exact bU HB.out) hb); clear hb ho18))
        go_ret
        exact ⟨_, by first | rfl | (simp [errW_none, errW_some] <;> rfl) | (simp [*, errW_none, errW_some] <;> rfl), by exact rU HO148.out, by exact bU HB.out⟩
       ·replace c16 := Bool.eq_false_iff.mpr c16
        subst c16
        have H1 : (if a0 = 5 then (some (([true, false, true, false] : List Bool))) else (if a0 = 8 then (some (([true, true, true, true] : List Bool))) else (if a0 = 9 then (some (([false, false, true, false] : List Bool))) else (if a0 = 10 then (some (([true, false, true, true] : List Bool))) else (if a0 = 13 then (some (([false, false, false, true] : List Bool))) else (some (([] : List Bool)))))))) = some r := by rw [if_neg (show ¬ (false = true) by decide)] at H; exact H
        clear H
        have H := H1
        clear H1
        by_cases c19 : a0 = 5
        ·rw [if_pos c19] at H
         have c19b0 : (a0 == 5) = true := beq_iff_eq.mpr c19
         have c19b1 : (a0 != 5) = false := bne_eq_false_iff_eq.mpr c19
         clear c19
         obtain ⟨y149, hy149⟩ : ∃ y_ : List Bool, y_ = (([true, false, true, false] : List Bool)) := ⟨_, rfl⟩
         replace H : (some y149) = some r := by first | (rw [hy149]; with_reducible exact H) | (have H2_ := (Option.bind_some _ _).symm.trans H; rw [hy149]; with_reducible exact H2_) | (have H2_ := (Option.bind_some _ _).symm.trans H; with_reducible exact H2_) | with_reducible exact H | (rw [hy149]; exact H) | exact H
         have Ny149 := Aside0.mk hy149
         clear hy149
         obtain rfl := Option.some.inj H
         go_wp2_with (first | ((with_reducible refine gate_dst (N := 21) rfl ?_); refine Kd.R_lit Kd.bool _ 4 ?hg (N := 21) ?hd (xs := ([true, false, true, false] : List Bool)) (inner := [.bool true, .bool false, .bool true, .bool false]) (ok := fun _ => True) (okp := fun _ => True) ?hr ?hp (fun _ hk => hk) trivial (Below.refl _ _) (Nat.le_refl _) (by simp) ?_; (case hd => rfl); (case hg => rfl); (case hr => first | (go_simp; done) | (go_simp; rfl)); (case hp => exact (Reps.one (show Kd.M Kd.bool _ _ _ true [.bool true] from rfl) (Reps.one (show Kd.M Kd.bool _ _ _ false [.bool false] from rfl) (Reps.one (show Kd.M Kd.bool _ _ _ true [.bool true] from rfl) (Reps.one (show Kd.M Kd.bool _ _ _ false [.bool false] from rfl) (Reps.none _ _)))))); intro v150 w20 ho21 hb hg_ hnew_; clear hg_ hnew_; (first | rw [← Ny149.out] at ho21 | (simp only [Int.reduceToNat] at ho21; rw [← Ny149.out] at ho21)); have HO151 := Aside0.mk (Kd.R_lower ho21 (below_size (by exact bU HB.out))); replace HB := Aside0.mk (below_step (by exact bU HB.out) hb); clear hb ho21))
         go_ret
         exact ⟨_, by first | rfl | (simp [errW_none, errW_some] <;> rfl) | (simp [*, errW_none, errW_some] <;> rfl), by exact rU HO151.out, by exact bU HB.out⟩
        ·rw [if_neg c19] at H
         have c19b0 : (a0 == 5) = false := beq_eq_false_iff_ne.mpr c19
         have c19b1 : (a0 != 5) = true := bne_iff_ne.mpr c19
         by_cases c22 : a0 = 8
         ·rw [if_pos c22] at H
          have c22b0 : (a0 == 8) = true := beq_iff_eq.mpr c22
          have c22b1 : (a0 != 8) = false := bne_eq_false_iff_eq.mpr c22
          clear c22
          obtain ⟨y152, hy152⟩ : ∃ y_ : List Bool, y_ = (([true, true, true, true] : List Bool)) := ⟨_, rfl⟩
          replace H : (some y152) = some r := by first | (rw [hy152]; with_reducible exact H) | (have H2_ := (Option.bind_some _ _).symm.trans H; rw [hy152]; with_reducible exact H2_) | (have H2_ := (Option.bind_some _ _).symm.trans H; with_reducible exact H2_) | with_reducible exact H | (rw [hy152]; exact H) | exact H
          have Ny152 := Aside0.mk hy152
          clear hy152
          obtain rfl := Option.some.inj H
          go_wp2_with (first | ((with_reducible refine gate_dst (N := 24) rfl ?_); refine Kd.R_lit Kd.bool _ 4 ?hg (N := 24) ?hd (xs := ([true, true, true, true] : List Bool)) (inner := [.bool true, .bool true, .bool true, .bool true]) (ok := fun _ => True) (okp := fun _ => True) ?hr ?hp (fun _ hk => hk) trivial (Below.refl _ _) (Nat.le_refl _) (by simp) ?_; (case hd => rfl); (case hg => rfl); (case hr => first | (go_simp; done) | (go_simp; rfl)); (case hp => exact (Reps.one (show Kd.M Kd.bool _ _ _ true [.bool true] from rfl) (Reps.one (show Kd.M Kd.bool _ _ _ true [.bool true] from rfl) (Reps.one (show Kd.M Kd.bool _ _ _ true [.bool true] from rfl) (Reps.one (show Kd.M Kd.bool _ _ _ true [.bool true] from rfl) (Reps.none _ _)))))); intro v153 w23 ho24 hb hg_ hnew_; clear hg_ hnew_; (first | rw [← Ny152.out] at ho24 | (simp only [Int.reduceToNat] at ho24; rw [← Ny152.out] at ho24)); have HO154 := Aside0.mk (Kd.R_lower ho24 (below_size (by exact bU HB.out))); replace HB := Aside0.mk (below_step (by exact bU HB.out) hb); clear hb ho24))
          go_ret
          exact ⟨_, by first | rfl | (simp [errW_none, errW_some] <;> rfl) | (simp [*, errW_none, errW_some] <;> rfl), by exact rU HO154.out, by exact bU HB.out⟩
         ·rw [if_neg c22] at H
          have c22b0 : (a0 == 8) = false := beq_eq_false_iff_ne.mpr c22
          have c22b1 : (a0 != 8) = true := bne_iff_ne.mpr c22
          by_cases c25 : a0 = 9
          ·rw [if_pos c25] at H
           have c25b0 : (a0 == 9) = true := beq_iff_eq.mpr c25
           have c25b1 : (a0 != 9) = false := bne_eq_false_iff_eq.mpr c25
           clear c25
           obtain ⟨y155, hy155⟩ : ∃ y_ : List Bool, y_ = (([false, false, true, false] : List Bool)) := ⟨_, rfl⟩
           replace H : (some y155) = some r := by first | (rw [hy155]; with_reducible exact H) | (have H2_ := (Option.bind_some _ _).symm.trans H; rw [hy155]; with_reducible exact H2_) | (have H2_ := (Option.bind_some _ _).symm.trans H; with_reducible exact H2_) | with_reducible exact H | (rw [hy155]; exact H) | exact H
           have Ny155 := Aside0.mk hy155
           clear hy155
           obtain rfl := Option.some.inj H
           go_wp2_with (first | ((with_reducible refine gate_dst (N := 27) rfl ?_); refine Kd.R_lit Kd.bool _ 4 ?hg (N := 27) ?hd (xs := ([false, false, true, false] : List Bool)) (inner := [.bool false, .bool false, .bool true, .bool false]) (ok := fun _ => True) (okp := fun _ => True) ?hr ?hp (fun _ hk => hk) trivial (Below.refl _ _) (Nat.le_refl _) (by simp) ?_; (case hd => rfl); (case hg => rfl); (case hr => first | (go_simp; done) | (go_simp; rfl)); (case hp => exact (Reps.one (show Kd.M Kd.bool _ _ _ false [.bool false] from rfl) (Reps.one (show Kd.M Kd.bool _ _ _ false [.bool false] from rfl) (Reps.one (show Kd.M Kd.bool _ _ _ true [.bool true] from rfl) (Reps.one (show Kd.M Kd.bool _ _ _ false [.bool false] from rfl) (Reps.none _ _)))))); intro v156 w26 ho27 hb hg_ hnew_; clear hg_ hnew_; (first | rw [← Ny155.out] at ho27 | (simp only [Int.reduceToNat] at ho27; rw [← Ny155.out] at ho27)); have HO157 := Aside0.mk (Kd.R_lower ho27 (below_size (by exact bU HB.out))); replace HB := Aside0.mk (below_step (by exact bU HB.out) hb); clear hb ho27))
           go_ret
           exact ⟨_, by first | rfl | (simp [errW_none, errW_some] <;> rfl) | (simp [*, errW_none, errW_some] <;> rfl), by exact rU HO157.out, by exact bU HB.out⟩
          ·rw [if_neg c25] at H
           have c25b0 : (a0 == 9) = false := beq_eq_false_iff_ne.mpr c25
           have c25b1 : (a0 != 9) = true := bne_iff_ne.mpr c25
           by_cases c28 : a0 = 10
           ·rw [if_pos c28] at H
            have c28b0 : (a0 == 10) = true := beq_iff_eq.mpr c28
            have c28b1 : (a0 != 10) = false := bne_eq_false_iff_eq.mpr c28
            clear c28
            obtain ⟨y158, hy158⟩ : ∃ y_ : List Bool, y_ = (([true, false, true, true] : List Bool)) := ⟨_, rfl⟩
            replace H : (some y158) = some r := by first | (rw [hy158]; with_reducible exact H) | (have H2_ := (Option.bind_some _ _).symm.trans H; rw [hy158]; with_reducible exact H2_) | (have H2_ := (Option.bind_some _ _).symm.trans H; with_reducible exact H2_) | with_reducible exact H | (rw [hy158]; exact H) | exact H
            have Ny158 := Aside0.mk hy158
            clear hy158
            obtain rfl := Option.some.inj H
            go_wp2_with (first | ((with_reducible refine gate_dst (N := 30) rfl ?_); refine Kd.R_lit Kd.bool _ 4 ?hg (N := 30) ?hd (xs := ([true, false, true, true] : List Bool)) (inner := [.bool true, .bool false, .bool true, .bool true]) (ok := fun _ => True) (okp := fun _ => True) ?hr ?hp (fun _ hk => hk) trivial (Below.refl _ _) (Nat.le_refl _) (by simp) ?_; (case hd => rfl); (case hg => rfl); (case hr => first | (go_simp; done) | (go_simp; rfl)); (case hp => exact (Reps.one (show Kd.M Kd.bool _ _ _ true [.bool true] from rfl) (Reps.one (show Kd.M Kd.bool _ _ _ false [.bool false] from rfl) (Reps.one (show Kd.M Kd.bool _ _ _ true [.bool true] from rfl) (Reps.one (show Kd.M Kd.bool _ _ _ true [.bool true] from rfl) (Reps.none _ _)))))); intro v159 w29 ho30 hb hg_ hnew_; clear hg_ hnew_; (first | rw [← Ny158.out] at ho30 | (simp only [Int.reduceToNat] at ho30; rw [← Ny158.out] at ho30)); have HO160 := Aside0.mk (Kd.R_lower ho30 (below_size (by exact bU HB.out))); replace HB := Aside0.mk (below_step (by exact bU HB.out) hb); clear hb ho30))
            go_ret
            exact ⟨_, by first | rfl | (simp [errW_none, errW_some] <;> rfl) | (simp [*, errW_none, errW_some] <;> rfl), by exact rU HO160.out, by exact bU HB.out⟩
           ·rw [if_neg c28] at H
            have c28b0 : (a0 == 10) = false := beq_eq_false_iff_ne.mpr c28
            have c28b1 : (a0 != 10) = true := bne_iff_ne.mpr c28
            by_cases c31 : a0 = 13
            ·rw [if_pos c31] at H
             have c31b0 : (a0 == 13) = true := beq_iff_eq.mpr c31
             have c31b1 : (a0 != 13) = false := bne_eq_false_iff_eq.mpr c31
             clear c31
             obtain ⟨y161, hy161⟩ : ∃ y_ : List Bool, y_ = (([false, false, false, true] : List Bool)) := ⟨_, rfl⟩
             replace H : (some y161) = some r := by first | (rw [hy161]; with_reducible exact H) | (have H2_ := (Option.bind_some _ _).symm.trans H; rw [hy161]; with_reducible exact H2_) | (have H2_ := (Option.bind_some _ _).symm.trans H; with_reducible exact H2_) | with_reducible exact H | (rw [hy161]; exact H) | exact H
             have Ny161 := Aside0.mk hy161
             clear hy161
             obtain rfl := Option.some.inj H
             go_wp2_with (first | ((with_reducible refine gate_dst (N := 33) rfl ?_); refine Kd.R_lit Kd.bool _ 4 ?hg (N := 33) ?hd (xs := ([false, false, false, true] : List Bool)) (inner := [.bool false, .bool false, .bool false, .bool true]) (ok := fun _ => True) (okp := fun _ => True) ?hr ?hp (fun _ hk => hk) trivial (Below.refl _ _) (Nat.le_refl _) (by simp) ?_; (case hd => rfl); (case hg => rfl); (case hr => first | (go_simp; done) | (go_simp; rfl)); (case hp => exact (Reps.one (show Kd.M Kd.bool _ _ _ false [.bool false] from rfl) (Reps.one (show Kd.M Kd.bool _ _ _ false [.bool false] from rfl) (Reps.one (show Kd.M Kd.bool _ _ _ false [.bool false] from rfl) (Reps.one (show Kd.M Kd.bool _ _ _ true [.bool true] from rfl) (Reps.none _ _)))))); intro v162 w32 ho33 hb hg_ hnew_; clear hg_ hnew_; (first | rw [← Ny161.out] at ho33 | (simp only [Int.reduceToNat] at ho33; rw [← Ny161.out] at ho33)); have HO163 := Aside0.mk (Kd.R_lower ho33 (below_size (by exact bU HB.out))); replace HB := Aside0.mk (below_step (by exact bU HB.out) hb); clear hb ho33))
             go_ret
             exact ⟨_, by first | rfl | (simp [errW_none, errW_some] <;> rfl) | (simp [*, errW_none, errW_some] <;> rfl), by exact rU HO163.out, by exact bU HB.out⟩
            ·rw [if_neg c31] at H
             have c31b0 : (a0 == 13) = false := beq_eq_false_iff_ne.mpr c31
             have c31b1 : (a0 != 13) = true := bne_iff_ne.mpr c31
             obtain ⟨y164, hy164⟩ : ∃ y_ : List Bool, y_ = (([] : List Bool)) := ⟨_, rfl⟩
             replace H : (some y164) = some r := by first | (rw [hy164]; with_reducible exact H) | (have H2_ := (Option.bind_some _ _).symm.trans H; rw [hy164]; with_reducible exact H2_) | (have H2_ := (Option.bind_some _ _).symm.trans H; with_reducible exact H2_) | with_reducible exact H | (rw [hy164]; exact H) | exact H
             have Ny164 := Aside0.mk hy164
             clear hy164
             obtain rfl := Option.some.inj H
             go_wp2_with (first | ((with_reducible refine gate_dst (N := 34) rfl ?_); refine Kd.R_lit Kd.bool _ 4 ?hg (N := 34) ?hd (xs := ([] : List Bool)) (inner := []) (ok := fun _ => True) (okp := fun _ => True) ?hr ?hp (fun _ hk => hk) trivial (Below.refl _ _) (Nat.le_refl _) (by simp) ?_; (case hd => rfl); (case hg => rfl); (case hr => first | (go_simp; done) | (go_simp; rfl)); (case hp => exact (Reps.none _ _)); intro v165 w34 ho35 hb hg_ hnew_; clear hg_ hnew_; (first | rw [← Ny164.out] at ho35 | (simp only [Int.reduceToNat] at ho35; rw [← Ny164.out] at ho35)); have HO166 := Aside0.mk (Kd.R_lower ho35 (below_size (by exact bU HB.out))); replace HB := Aside0.mk (below_step (by exact bU HB.out) hb); clear hb ho35))
             go_ret
             exact ⟨_, by first | rfl | (simp [errW_none, errW_some] <;> rfl) | (simp [*, errW_none, errW_some] <;> rfl), by exact rU HO166.out, by exact bU HB.out⟩
def spec_l6In.f (a0 : Int) (a1 : Int) (a2 : Int) : Option (Bool) := if a0 ≥ a1 then (some (decide (a0 ≤ a2))) else (some false)
theorem spec_l6In.calls (a0 : Int) (a1 : Int) (a2 : Int) (r : Bool) (w : World) (h : spec_l6In.f a0 a1 a2 = some r) :
  Calls Try.prog 59 #[.int .i64 a0, .int .i64 a1, .int .i64 a2] w fun e w' => e = .returned (.bool r) ∧ Drawn0 w w' := by
 have H : (if a0 ≥ a1 then (some (decide (a0 ≤ a2))) else (some false)) = some r := h
 clear h
 by_cases c4 : a0 ≥ a1
 ·rw [if_pos c4] at H
  have c4b0 : decide (a1 ≤ a0) = true := decide_eq_true c4
  clear c4
  obtain rfl := Option.some.inj H
  go_enter Try.func59, Try.ntmps59
  go_wp2
  go_ret
  exact ⟨by first | rfl | (simp; done) | (simp [*]; done), by repeat (first | exact Drawn0.refl _ | apply Drawn0.step)⟩
 ·rw [if_neg c4] at H
  have c4b0 : decide (a1 ≤ a0) = false := decide_eq_false c4
  clear c4
  obtain rfl := Option.some.inj H
  go_enter Try.func59, Try.ntmps59
  go_wp2
  go_ret
  exact ⟨by first | rfl | (simp; done) | (simp [*]; done), by repeat (first | exact Drawn0.refl _ | apply Drawn0.step)⟩
def spec_ValOk.f (a0_0 : Int) (a0_1 : Int) : Option (Bool) := if a0_0 = 0 then (some (a0_1 == 0)) else (if a0_0 = 1 then ((spec_l6In.f a0_1 (-99) 99).bind fun t168 => (some t168)) else (if a0_0 = 2 then ((spec_l6In.f a0_1 0 9).bind fun t169 => (some t169)) else (if a0_0 = 3 then ((spec_l6In.f a0_1 1 6).bind fun t170 => (some t170)) else (some false))))
theorem spec_ValOk.calls (a0_0 : Int) (a0_1 : Int) (r : Bool) (w : World) (h : spec_ValOk.f a0_0 a0_1 = some r) :
  Calls Try.prog 58 #[.agg #[.int .i64 a0_0, .int .i64 a0_1]] w fun e w' => e = .returned (.bool r) ∧ Below w.heap.size w w' := by
 have hu27 := Try.underlying27
 have HB := Aside0.mk (Below.refl w.heap.size w)
 have H : (if a0_0 = 0 then (some (a0_1 == 0)) else (if a0_0 = 1 then ((spec_l6In.f a0_1 (-99) 99).bind fun t168 => (some t168)) else (if a0_0 = 2 then ((spec_l6In.f a0_1 0 9).bind fun t169 => (some t169)) else (if a0_0 = 3 then ((spec_l6In.f a0_1 1 6).bind fun t170 => (some t170)) else (some false))))) = some r := h
 clear h
 by_cases c2 : a0_0 = 0
 ·rw [if_pos c2] at H
  have c2b0 : (a0_0 == 0) = true := beq_iff_eq.mpr c2
  have c2b1 : (a0_0 != 0) = false := bne_eq_false_iff_eq.mpr c2
  clear c2
  obtain rfl := Option.some.inj H
  go_enter Try.func58, Try.ntmps58
  go_wp2_with (first | ((with_reducible refine gate_dst (N := 1) rfl ?_); refine box_event ?hg (N := 1) ?hd (cs := #[.int .i64 a0_0, .int .i64 a0_1]) (t := 27) ?hr ?_; (case hd => rfl); (case hg => rfl); (case hr => first | (go_simp; done) | (go_simp; rfl)); intro gb167 hg w3 hbox hb; have n0_ := Aside0.mk (below_step (by exact bU HB.out) hb); have n1_ := Aside0.mk (hbox); have n2_ := Aside0.mk ((by rw [hg]; exact (below_size (by exact bU HB.out)) : w.heap.size ≤ gb167)); have n3_ := Aside0.mk ((by rw [hg]; exact (below_size (by exact bU HB.out)) : w.heap.size ≤ gb167)); clear HB; have HB := n0_; have BK167 := n1_; have GW167 := n2_; have GE167 := n3_; clear n0_ n1_ n2_ n3_; clear hb hbox hg; have hcz4_0 : w3.cell? ⟨gb167, 0, none⟩ = some (.int .i64 a0_0) := (blk_cell BK167.out 0).trans rfl; have hcz4_1 : w3.cell? ⟨gb167, 1, none⟩ = some (.int .i64 a0_1) := (blk_cell BK167.out 1).trans rfl; have hfz4_0 := blk_frozen BK167.out 0; have hfz4_1 := blk_frozen BK167.out 1))
  go_ret
  exact ⟨by first | rfl | (simp [errW_none, errW_some] <;> rfl) | (simp [*, errW_none, errW_some] <;> rfl), by repeat (with_reducible first | exact HB.out | apply bA | apply bN | apply b1 | refine below_set ?_ GE167.out)⟩
 ·rw [if_neg c2] at H
  have c2b0 : (a0_0 == 0) = false := beq_eq_false_iff_ne.mpr c2
  have c2b1 : (a0_0 != 0) = true := bne_iff_ne.mpr c2
  by_cases c5 : a0_0 = 1
  ·rw [if_pos c5] at H
   have c5b0 : (a0_0 == 1) = true := beq_iff_eq.mpr c5
   have c5b1 : (a0_0 != 1) = false := bne_eq_false_iff_eq.mpr c5
   clear c5
   replace H := Option.bind_eq_some_iff.mp H
   obtain ⟨t168, A60, H⟩ := H
   replace H : (some t168) = some r := H
   have A6 := Aside0.mk A60
   clear A60
   obtain rfl := Option.some.inj H
   go_enter Try.func58, Try.ntmps58
   go_wp2_with (first | ((with_reducible refine gate_dst (N := 1) rfl ?_); refine box_event ?hg (N := 1) ?hd (cs := #[.int .i64 a0_0, .int .i64 a0_1]) (t := 27) ?hr ?_; (case hd => rfl); (case hg => rfl); (case hr => first | (go_simp; done) | (go_simp; rfl)); intro gb167 hg w7 hbox hb; have n0_ := Aside0.mk (below_step (by exact bU HB.out) hb); have n1_ := Aside0.mk (hbox); have n2_ := Aside0.mk ((by rw [hg]; exact (below_size (by exact bU HB.out)) : w.heap.size ≤ gb167)); have n3_ := Aside0.mk ((by rw [hg]; exact (below_size (by exact bU HB.out)) : w.heap.size ≤ gb167)); clear HB; have HB := n0_; have BK167 := n1_; have GW167 := n2_; have GE167 := n3_; clear n0_ n1_ n2_ n3_; clear hb hbox hg; have hcz8_0 : w7.cell? ⟨gb167, 0, none⟩ = some (.int .i64 a0_0) := (blk_cell BK167.out 0).trans rfl; have hcz8_1 : w7.cell? ⟨gb167, 1, none⟩ = some (.int .i64 a0_1) := (blk_cell BK167.out 1).trans rfl; have hfz8_0 := blk_frozen BK167.out 0; have hfz8_1 := blk_frozen BK167.out 1) | ((with_reducible refine gate_callee (f := 59) rfl ?_); refine goesL_ (some 14) rfl rfl Try.func59 (by kernel_rfl) rfl #[.int .i64 a0_1, .int .i64 (-99), .int .i64 99] rfl (by (try simp only [List.map_toArray, List.map_cons, List.map_nil]); first | done | rfl | (simp only [List.length_drop, List.length_take]; rfl)) ?_; (with_reducible refine (spec_l6In.calls a0_1 (-99) 99 t168 _ A6.out).mono ?_); rintro e w' ⟨rfl, ⟨nd, rfl⟩⟩; refine ⟨_, rfl, ?_⟩))
   go_ret
   exact ⟨by first | rfl | (simp [errW_none, errW_some] <;> rfl) | (simp [*, errW_none, errW_some] <;> rfl), by repeat (with_reducible first | exact HB.out | apply bA | apply bN | apply b1 | refine below_set ?_ GE167.out)⟩
  ·rw [if_neg c5] at H
   have c5b0 : (a0_0 == 1) = false := beq_eq_false_iff_ne.mpr c5
   have c5b1 : (a0_0 != 1) = true := bne_iff_ne.mpr c5
   by_cases c9 : a0_0 = 2
   ·rw [if_pos c9] at H
    have c9b0 : (a0_0 == 2) = true := beq_iff_eq.mpr c9
    have c9b1 : (a0_0 != 2) = false := bne_eq_false_iff_eq.mpr c9
    clear c9
    replace H := Option.bind_eq_some_iff.mp H
    obtain ⟨t169, A100, H⟩ := H
    replace H : (some t169) = some r := H
    have A10 := Aside0.mk A100
    clear A100
    obtain rfl := Option.some.inj H
    go_enter Try.func58, Try.ntmps58
    go_wp2_with (first | ((with_reducible refine gate_dst (N := 1) rfl ?_); refine box_event ?hg (N := 1) ?hd (cs := #[.int .i64 a0_0, .int .i64 a0_1]) (t := 27) ?hr ?_; (case hd => rfl); (case hg => rfl); (case hr => first | (go_simp; done) | (go_simp; rfl)); intro gb167 hg w11 hbox hb; have n0_ := Aside0.mk (below_step (by exact bU HB.out) hb); have n1_ := Aside0.mk (hbox); have n2_ := Aside0.mk ((by rw [hg]; exact (below_size (by exact bU HB.out)) : w.heap.size ≤ gb167)); have n3_ := Aside0.mk ((by rw [hg]; exact (below_size (by exact bU HB.out)) : w.heap.size ≤ gb167)); clear HB; have HB := n0_; have BK167 := n1_; have GW167 := n2_; have GE167 := n3_; clear n0_ n1_ n2_ n3_; clear hb hbox hg; have hcz12_0 : w11.cell? ⟨gb167, 0, none⟩ = some (.int .i64 a0_0) := (blk_cell BK167.out 0).trans rfl; have hcz12_1 : w11.cell? ⟨gb167, 1, none⟩ = some (.int .i64 a0_1) := (blk_cell BK167.out 1).trans rfl; have hfz12_0 := blk_frozen BK167.out 0; have hfz12_1 := blk_frozen BK167.out 1) | ((with_reducible refine gate_callee (f := 59) rfl ?_); refine goesL_ (some 19) rfl rfl Try.func59 (by kernel_rfl) rfl #[.int .i64 a0_1, .int .i64 0, .int .i64 9] rfl (by (try simp only [List.map_toArray, List.map_cons, List.map_nil]); first | done | rfl | (simp only [List.length_drop, List.length_take]; rfl)) ?_; (with_reducible refine (spec_l6In.calls a0_1 0 9 t169 _ A10.out).mono ?_); rintro e w' ⟨rfl, ⟨nd, rfl⟩⟩; refine ⟨_, rfl, ?_⟩))
    go_ret
    exact ⟨by first | rfl | (simp [errW_none, errW_some] <;> rfl) | (simp [*, errW_none, errW_some] <;> rfl), by repeat (with_reducible first | exact HB.out | apply bA | apply bN | apply b1 | refine below_set ?_ GE167.out)⟩
   ·rw [if_neg c9] at H
    have c9b0 : (a0_0 == 2) = false := beq_eq_false_iff_ne.mpr c9
    have c9b1 : (a0_0 != 2) = true := bne_iff_ne.mpr c9
    by_cases c13 : a0_0 = 3
    ·rw [if_pos c13] at H
     have c13b0 : (a0_0 == 3) = true := beq_iff_eq.mpr c13
     have c13b1 : (a0_0 != 3) = false := bne_eq_false_iff_eq.mpr c13
     clear c13
     replace H := Option.bind_eq_some_iff.mp H
     obtain ⟨t170, A140, H⟩ := H
     replace H : (some t170) = some r := H
     have A14 := Aside0.mk A140
     clear A140
     obtain rfl := Option.some.inj H
     go_enter Try.func58, Try.ntmps58
     go_wp2_with (first | ((with_reducible refine gate_dst (N := 1) rfl ?_); refine box_event ?hg (N := 1) ?hd (cs := #[.int .i64 a0_0, .int .i64 a0_1]) (t := 27) ?hr ?_; (case hd => rfl); (case hg => rfl); (case hr => first | (go_simp; done) | (go_simp; rfl)); intro gb167 hg w15 hbox hb; have n0_ := Aside0.mk (below_step (by exact bU HB.out) hb); have n1_ := Aside0.mk (hbox); have n2_ := Aside0.mk ((by rw [hg]; exact (below_size (by exact bU HB.out)) : w.heap.size ≤ gb167)); have n3_ := Aside0.mk ((by rw [hg]; exact (below_size (by exact bU HB.out)) : w.heap.size ≤ gb167)); clear HB; have HB := n0_; have BK167 := n1_; have GW167 := n2_; have GE167 := n3_; clear n0_ n1_ n2_ n3_; clear hb hbox hg; have hcz16_0 : w15.cell? ⟨gb167, 0, none⟩ = some (.int .i64 a0_0) := (blk_cell BK167.out 0).trans rfl; have hcz16_1 : w15.cell? ⟨gb167, 1, none⟩ = some (.int .i64 a0_1) := (blk_cell BK167.out 1).trans rfl; have hfz16_0 := blk_frozen BK167.out 0; have hfz16_1 := blk_frozen BK167.out 1) | ((with_reducible refine gate_callee (f := 59) rfl ?_); refine goesL_ (some 24) rfl rfl Try.func59 (by kernel_rfl) rfl #[.int .i64 a0_1, .int .i64 1, .int .i64 6] rfl (by (try simp only [List.map_toArray, List.map_cons, List.map_nil]); first | done | rfl | (simp only [List.length_drop, List.length_take]; rfl)) ?_; (with_reducible refine (spec_l6In.calls a0_1 1 6 t170 _ A14.out).mono ?_); rintro e w' ⟨rfl, ⟨nd, rfl⟩⟩; refine ⟨_, rfl, ?_⟩))
     go_ret
     exact ⟨by first | rfl | (simp [errW_none, errW_some] <;> rfl) | (simp [*, errW_none, errW_some] <;> rfl), by repeat (with_reducible first | exact HB.out | apply bA | apply bN | apply b1 | refine below_set ?_ GE167.out)⟩
    ·rw [if_neg c13] at H
     have c13b0 : (a0_0 == 3) = false := beq_eq_false_iff_ne.mpr c13
     have c13b1 : (a0_0 != 3) = true := bne_iff_ne.mpr c13
     obtain rfl := Option.some.inj H
     go_enter Try.func58, Try.ntmps58
     go_wp2_with (first | ((with_reducible refine gate_dst (N := 1) rfl ?_); refine box_event ?hg (N := 1) ?hd (cs := #[.int .i64 a0_0, .int .i64 a0_1]) (t := 27) ?hr ?_; (case hd => rfl); (case hg => rfl); (case hr => first | (go_simp; done) | (go_simp; rfl)); intro gb167 hg w17 hbox hb; have n0_ := Aside0.mk (below_step (by exact bU HB.out) hb); have n1_ := Aside0.mk (hbox); have n2_ := Aside0.mk ((by rw [hg]; exact (below_size (by exact bU HB.out)) : w.heap.size ≤ gb167)); have n3_ := Aside0.mk ((by rw [hg]; exact (below_size (by exact bU HB.out)) : w.heap.size ≤ gb167)); clear HB; have HB := n0_; have BK167 := n1_; have GW167 := n2_; have GE167 := n3_; clear n0_ n1_ n2_ n3_; clear hb hbox hg; have hcz18_0 : w17.cell? ⟨gb167, 0, none⟩ = some (.int .i64 a0_0) := (blk_cell BK167.out 0).trans rfl; have hcz18_1 : w17.cell? ⟨gb167, 1, none⟩ = some (.int .i64 a0_1) := (blk_cell BK167.out 1).trans rfl; have hfz18_0 := blk_frozen BK167.out 0; have hfz18_1 := blk_frozen BK167.out 1))
     go_ret
     exact ⟨by first | rfl | (simp [errW_none, errW_some] <;> rfl) | (simp [*, errW_none, errW_some] <;> rfl), by repeat (with_reducible first | exact HB.out | apply bA | apply bN | apply b1 | refine below_set ?_ GE167.out)⟩
end Go.Proofs.Ytmklpbmlgjkbiaa.PS
end
section
namespace Go.Proofs.Ytmklpbmlgjkbiaa.PS
open Go.RowKit Go.Proofs.YtmklpbmlgjkbiaaW.PrintWords Go.Proofs.YtmklpbmlgjkbiaaW.PrintLast
attribute [local go_sem high] eqA27
theorem in2_any (a b c : Int) (w : World) : Calls Try.prog 59 #[.int .i64 a, .int .i64 b, .int .i64 c] w fun e w' => e = .returned (.bool (decide (b ≤ a ∧ a ≤ c))) ∧ w = w' := by
  by_cases h1 : b ≤ a <;> by_cases h2 : a ≤ c <;> (go_enter Try.func59, Try.ntmps59; go_wp2; go_ret; exact ⟨by simp [h1, h2], rfl⟩)
theorem slot_any (a : Int) (w : World) : Calls Try.prog 60 #[.int .i64 a] w fun e w' => e = .returned (.bool (decide (0 ≤ a ∧ a ≤ 3))) ∧ w = w' := by
  go_enter Try.func60, Try.ntmps60
  go_wp2_with (go_at_call 59; refine (in2_any _ _ _ _).mono ?_; rintro e w' ⟨rfl, rfl⟩)
  go_ret
  exact ⟨by first | rfl | simp, rfl⟩
theorem to_any (a : Int) (w : World) : Calls Try.prog 61 #[.int .i64 a] w fun e w' => e = .returned (.bool (decide (0 ≤ a ∧ a ≤ 15))) ∧ w = w' := by
  go_enter Try.func61, Try.ntmps61
  go_wp2_with (go_at_call 59; refine (in2_any _ _ _ _).mono ?_; rintro e w' ⟨rfl, rfl⟩)
  go_ret
  exact ⟨by first | rfl | simp, rfl⟩
theorem cell_lt {w : World} {g i : Nat} {v : Value} (h : w.cell? ⟨g, i, none⟩ = some v) : g < w.heap.size := by
  by_cases hg : g < w.heap.size
  · exact hg
  · simp [World.cell?, Array.getElem?_eq_none (Nat.not_lt.1 hg)] at h
theorem own4 {w : World} {base : Nat} {ok : Nat → Prop} {v : Value} {a b c d : Bool} (h : Kd.R Kd.bool 4 w base ok v [a, b, c, d]) :
    ∃ g cap, v = .slice (some ⟨g, 0, none⟩) 4 cap ∧ base ≤ g ∧ w.cell? ⟨g, 0, none⟩ = some (.bool a) ∧ w.cell? ⟨g, 1, none⟩ = some (.bool b) ∧ w.cell? ⟨g, 2, none⟩ = some (.bool c) ∧ w.cell? ⟨g, 3, none⟩ = some (.bool d) := by
  obtain ⟨inner, ho⟩ := Kd.R_own h
  rcases ho.2 with ⟨_, h2⟩ | ⟨g, cap, cur, rfl, hg, _⟩
  · obtain ⟨A, c0, e, _, hC⟩ := Kd.R_reads h
    have := ho.2
    simp_all
  · exact ⟨g, cap, rfl, hg, (Kd.R_cell (xs := [a, b, c, d]) false h 0 (by omega) (by simp)).1, (Kd.R_cell (xs := [a, b, c, d]) false h 1 (by omega) (by simp)).1, (Kd.R_cell (xs := [a, b, c, d]) false h 2 (by omega) (by simp)).1, (Kd.R_cell (xs := [a, b, c, d]) false h 3 (by omega) (by simp)).1⟩
theorem specOp_main (k r s t vk vn : Int) (w : World) (g0 u0 u1 u2 u3 vb : Bool)
    (hForm : ∀ W, Calls Try.prog 57 #[.int .i64 k] W fun e w' => ∃ g c, e = .returned (.slice (some ⟨g, 0, none⟩) 4 c) ∧ Below W.heap.size W w' ∧ W.heap.size ≤ g ∧ w'.cell? ⟨g, 0, none⟩ = some (.bool u0) ∧ w'.cell? ⟨g, 1, none⟩ = some (.bool u1) ∧ w'.cell? ⟨g, 2, none⟩ = some (.bool u2) ∧ w'.cell? ⟨g, 3, none⟩ = some (.bool u3))
    (hVal : ∀ W, Calls Try.prog 58 #[.agg #[.int .i64 vk, .int .i64 vn]] W fun e w' => e = .returned (.bool vb) ∧ Below W.heap.size W w') (c8 : (k == 8) = false) (c13 : (k == 13) = false) (hvb : Aside0 (vb = true)) (hg : Aside0 (g0 = (((decide (0 ≤ r ∧ r ≤ 3) && u0) || r == 0) && (((decide (0 ≤ s ∧ s ≤ 3) && u1) || s == 0) && (((decide (0 ≤ t ∧ t ≤ 15) && u2) || t == 0) && (u3 || (vk == 0 && (vn == 0)))))))) :
    Calls Try.prog 23 #[.agg #[.int .i64 k, .int .i64 r, .int .i64 s, .int .i64 t, .int .i64 vk, .int .i64 vn]] w fun e w' => e = .returned (.bool g0) ∧ Below w.heap.size w w' := by
  have BK : Aside0 ((w.alloc (.cells #[.int .i64 k, .int .i64 r, .int .i64 s, .int .i64 t, .int .i64 vk, .int .i64 vn] 29)).heap[w.heap.size]? = some (.cells #[.int .i64 k, .int .i64 r, .int .i64 s, .int .i64 t, .int .i64 vk, .int .i64 vn] 29 (0, 0))) := ⟨blk_new _ _⟩
  have HB := Aside0.mk (Below.refl w.heap.size w)
  have hu27 := Try.underlying27
  have hu29 := Try.underlying29
  obtain rfl := hvb.out
  clear hvb
  go_enter Try.func23, Try.ntmps23
  go_wp2_with (first | (go_at_call 57; refine (hForm _).mono ?_; rintro e w' ⟨g, c, rfl, hb, hg, f0, f1, f2, f3⟩; have SZ := Aside0.mk (hb.size); have BK := Aside0.mk (blk_below (by (with_reducible repeat (first | refine blk_drewN ?_ _ | refine blk_drew ?_ | refine blk_alloc ?_ _)); exact BK.out) hb); have HB := Aside0.mk (below_step (by repeat (first | (with_reducible first | exact HB.out | apply below_alloc | apply pw_below_drewN | apply below_drew1) | exact HB.out)) hb); have q0 : w'.cell? ⟨w.heap.size, 0, none⟩ = some (.int .i64 k) := (blk_cell BK.out 0).trans rfl; have q1 : w'.cell? ⟨w.heap.size, 1, none⟩ = some (.int .i64 r) := (blk_cell BK.out 1).trans rfl; have q2 : w'.cell? ⟨w.heap.size, 2, none⟩ = some (.int .i64 s) := (blk_cell BK.out 2).trans rfl; have q3 : w'.cell? ⟨w.heap.size, 3, none⟩ = some (.int .i64 t) := (blk_cell BK.out 3).trans rfl; have q4 : w'.cell? ⟨w.heap.size, 4, none⟩ = some (.int .i64 vk) := (blk_cell BK.out 4).trans rfl; have q5 : w'.cell? ⟨w.heap.size, 5, none⟩ = some (.int .i64 vn) := (blk_cell BK.out 5).trans rfl; have GS := Aside0.mk (cell_lt f0); have P0 := Aside0.mk f0; have P1 := Aside0.mk f1; have P2 := Aside0.mk f2; have P3 := Aside0.mk f3; clear hb hg) | (go_at_call 58; refine (hVal _).mono ?_; rintro e w'2 ⟨rfl, hb⟩; have P0 := Aside0.mk ((hb.cell (p := ⟨g, 0, none⟩) GS.out).trans P0.out); have P1 := Aside0.mk ((hb.cell (p := ⟨g, 1, none⟩) GS.out).trans P1.out); have P2 := Aside0.mk ((hb.cell (p := ⟨g, 2, none⟩) GS.out).trans P2.out); have P3 := Aside0.mk ((hb.cell (p := ⟨g, 3, none⟩) GS.out).trans P3.out); have BK := Aside0.mk (blk_below (by (with_reducible repeat (first | refine blk_drewN ?_ _ | refine blk_drew ?_ | refine blk_alloc ?_ _)); exact BK.out) hb); have HB := Aside0.mk (below_step (by repeat (first | (with_reducible first | exact HB.out | apply below_alloc | apply pw_below_drewN | apply below_drew1) | exact HB.out)) hb); have q0 : w'2.cell? ⟨w.heap.size, 0, none⟩ = some (.int .i64 k) := (blk_cell BK.out 0).trans rfl; have q1 : w'2.cell? ⟨w.heap.size, 1, none⟩ = some (.int .i64 r) := (blk_cell BK.out 1).trans rfl; have q2 : w'2.cell? ⟨w.heap.size, 2, none⟩ = some (.int .i64 s) := (blk_cell BK.out 2).trans rfl; have q3 : w'2.cell? ⟨w.heap.size, 3, none⟩ = some (.int .i64 t) := (blk_cell BK.out 3).trans rfl; have q4 : w'2.cell? ⟨w.heap.size, 4, none⟩ = some (.int .i64 vk) := (blk_cell BK.out 4).trans rfl; have q5 : w'2.cell? ⟨w.heap.size, 5, none⟩ = some (.int .i64 vn) := (blk_cell BK.out 5).trans rfl; have f0 := P0.out; have f1 := P1.out; have f2 := P2.out; have f3 := P3.out; clear hb) | (go_at_call 59; refine (in2_any _ _ _ _).mono ?_; rintro e w' ⟨rfl, rfl⟩) | (go_at_call 60; refine (slot_any _ _).mono ?_; rintro e w' ⟨rfl, rfl⟩) | (go_at_call 61; refine (to_any _ _).mono ?_; rintro e w' ⟨rfl, rfl⟩))
  all_goals go_ret
  all_goals refine ⟨?_, HB.out⟩
  all_goals (rw [hg.out]; simp [*])
theorem specOp_8 (r s t vn : Int) (w : World) (g0 u0 u1 u2 u3 vb : Bool)
    (hForm : ∀ W, Calls Try.prog 57 #[.int .i64 8] W fun e w' => ∃ g c, e = .returned (.slice (some ⟨g, 0, none⟩) 4 c) ∧ Below W.heap.size W w' ∧ W.heap.size ≤ g ∧ w'.cell? ⟨g, 0, none⟩ = some (.bool u0) ∧ w'.cell? ⟨g, 1, none⟩ = some (.bool u1) ∧ w'.cell? ⟨g, 2, none⟩ = some (.bool u2) ∧ w'.cell? ⟨g, 3, none⟩ = some (.bool u3))
    (hVal : ∀ W, Calls Try.prog 58 #[.agg #[.int .i64 1, .int .i64 vn]] W fun e w' => e = .returned (.bool vb) ∧ Below W.heap.size W w') (hvn : 1 ≤ vn) (hvb : Aside0 (vb = true)) (hg : Aside0 (g0 = (((decide (0 ≤ r ∧ r ≤ 3) && u0) || r == 0) && (((decide (0 ≤ s ∧ s ≤ 3) && u1) || s == 0) && (((decide (0 ≤ t ∧ t ≤ 15) && u2) || t == 0) && (u3 || ((1 : Int) == 0 && (vn == 0)))))))) :
    Calls Try.prog 23 #[.agg #[.int .i64 8, .int .i64 r, .int .i64 s, .int .i64 t, .int .i64 1, .int .i64 vn]] w fun e w' => e = .returned (.bool g0) ∧ Below w.heap.size w w' := by
  have BK : Aside0 ((w.alloc (.cells #[.int .i64 8, .int .i64 r, .int .i64 s, .int .i64 t, .int .i64 1, .int .i64 vn] 29)).heap[w.heap.size]? = some (.cells #[.int .i64 8, .int .i64 r, .int .i64 s, .int .i64 t, .int .i64 1, .int .i64 vn] 29 (0, 0))) := ⟨blk_new _ _⟩
  have HB := Aside0.mk (Below.refl w.heap.size w)
  have hu27 := Try.underlying27
  have hu29 := Try.underlying29
  obtain rfl := hvb.out
  clear hvb
  go_enter Try.func23, Try.ntmps23
  go_wp2_with (first | (go_at_call 57; refine (hForm _).mono ?_; rintro e w' ⟨g, c, rfl, hb, hg, f0, f1, f2, f3⟩; have SZ := Aside0.mk (hb.size); have BK := Aside0.mk (blk_below (by (with_reducible repeat (first | refine blk_drewN ?_ _ | refine blk_drew ?_ | refine blk_alloc ?_ _)); exact BK.out) hb); have HB := Aside0.mk (below_step (by repeat (first | (with_reducible first | exact HB.out | apply below_alloc | apply pw_below_drewN | apply below_drew1) | exact HB.out)) hb); have q0 : w'.cell? ⟨w.heap.size, 0, none⟩ = some (.int .i64 8) := (blk_cell BK.out 0).trans rfl; have q1 : w'.cell? ⟨w.heap.size, 1, none⟩ = some (.int .i64 r) := (blk_cell BK.out 1).trans rfl; have q2 : w'.cell? ⟨w.heap.size, 2, none⟩ = some (.int .i64 s) := (blk_cell BK.out 2).trans rfl; have q3 : w'.cell? ⟨w.heap.size, 3, none⟩ = some (.int .i64 t) := (blk_cell BK.out 3).trans rfl; have q4 : w'.cell? ⟨w.heap.size, 4, none⟩ = some (.int .i64 1) := (blk_cell BK.out 4).trans rfl; have q5 : w'.cell? ⟨w.heap.size, 5, none⟩ = some (.int .i64 vn) := (blk_cell BK.out 5).trans rfl; have GS := Aside0.mk (cell_lt f0); have P0 := Aside0.mk f0; have P1 := Aside0.mk f1; have P2 := Aside0.mk f2; have P3 := Aside0.mk f3; clear hb hg) | (go_at_call 58; refine (hVal _).mono ?_; rintro e w'2 ⟨rfl, hb⟩; have P0 := Aside0.mk ((hb.cell (p := ⟨g, 0, none⟩) GS.out).trans P0.out); have P1 := Aside0.mk ((hb.cell (p := ⟨g, 1, none⟩) GS.out).trans P1.out); have P2 := Aside0.mk ((hb.cell (p := ⟨g, 2, none⟩) GS.out).trans P2.out); have P3 := Aside0.mk ((hb.cell (p := ⟨g, 3, none⟩) GS.out).trans P3.out); have BK := Aside0.mk (blk_below (by (with_reducible repeat (first | refine blk_drewN ?_ _ | refine blk_drew ?_ | refine blk_alloc ?_ _)); exact BK.out) hb); have HB := Aside0.mk (below_step (by repeat (first | (with_reducible first | exact HB.out | apply below_alloc | apply pw_below_drewN | apply below_drew1) | exact HB.out)) hb); have q0 : w'2.cell? ⟨w.heap.size, 0, none⟩ = some (.int .i64 8) := (blk_cell BK.out 0).trans rfl; have q1 : w'2.cell? ⟨w.heap.size, 1, none⟩ = some (.int .i64 r) := (blk_cell BK.out 1).trans rfl; have q2 : w'2.cell? ⟨w.heap.size, 2, none⟩ = some (.int .i64 s) := (blk_cell BK.out 2).trans rfl; have q3 : w'2.cell? ⟨w.heap.size, 3, none⟩ = some (.int .i64 t) := (blk_cell BK.out 3).trans rfl; have q4 : w'2.cell? ⟨w.heap.size, 4, none⟩ = some (.int .i64 1) := (blk_cell BK.out 4).trans rfl; have q5 : w'2.cell? ⟨w.heap.size, 5, none⟩ = some (.int .i64 vn) := (blk_cell BK.out 5).trans rfl; have f0 := P0.out; have f1 := P1.out; have f2 := P2.out; have f3 := P3.out; clear hb) | (go_at_call 59; refine (in2_any _ _ _ _).mono ?_; rintro e w' ⟨rfl, rfl⟩) | (go_at_call 60; refine (slot_any _ _).mono ?_; rintro e w' ⟨rfl, rfl⟩) | (go_at_call 61; refine (to_any _ _).mono ?_; rintro e w' ⟨rfl, rfl⟩))
  all_goals go_ret
  all_goals refine ⟨?_, HB.out⟩
  all_goals (rw [hg.out]; simp [*])
theorem specOp_13 (r s t vn : Int) (w : World) (g0 u0 u1 u2 u3 vb : Bool)
    (hForm : ∀ W, Calls Try.prog 57 #[.int .i64 13] W fun e w' => ∃ g c, e = .returned (.slice (some ⟨g, 0, none⟩) 4 c) ∧ Below W.heap.size W w' ∧ W.heap.size ≤ g ∧ w'.cell? ⟨g, 0, none⟩ = some (.bool u0) ∧ w'.cell? ⟨g, 1, none⟩ = some (.bool u1) ∧ w'.cell? ⟨g, 2, none⟩ = some (.bool u2) ∧ w'.cell? ⟨g, 3, none⟩ = some (.bool u3))
    (hVal : ∀ W, Calls Try.prog 58 #[.agg #[.int .i64 1, .int .i64 vn]] W fun e w' => e = .returned (.bool vb) ∧ Below W.heap.size W w') (hvn : 0 ≤ vn) (hvn' : vn ≤ 1) (hvb : Aside0 (vb = true)) (hg : Aside0 (g0 = (((decide (0 ≤ r ∧ r ≤ 3) && u0) || r == 0) && (((decide (0 ≤ s ∧ s ≤ 3) && u1) || s == 0) && (((decide (0 ≤ t ∧ t ≤ 15) && u2) || t == 0) && (u3 || ((1 : Int) == 0 && (vn == 0)))))))) :
    Calls Try.prog 23 #[.agg #[.int .i64 13, .int .i64 r, .int .i64 s, .int .i64 t, .int .i64 1, .int .i64 vn]] w fun e w' => e = .returned (.bool g0) ∧ Below w.heap.size w w' := by
  have BK : Aside0 ((w.alloc (.cells #[.int .i64 13, .int .i64 r, .int .i64 s, .int .i64 t, .int .i64 1, .int .i64 vn] 29)).heap[w.heap.size]? = some (.cells #[.int .i64 13, .int .i64 r, .int .i64 s, .int .i64 t, .int .i64 1, .int .i64 vn] 29 (0, 0))) := ⟨blk_new _ _⟩
  have HB := Aside0.mk (Below.refl w.heap.size w)
  have hu27 := Try.underlying27
  have hu29 := Try.underlying29
  obtain rfl := hvb.out
  clear hvb
  go_enter Try.func23, Try.ntmps23
  go_wp2_with (first | (go_at_call 57; refine (hForm _).mono ?_; rintro e w' ⟨g, c, rfl, hb, hg, f0, f1, f2, f3⟩; have SZ := Aside0.mk (hb.size); have BK := Aside0.mk (blk_below (by (with_reducible repeat (first | refine blk_drewN ?_ _ | refine blk_drew ?_ | refine blk_alloc ?_ _)); exact BK.out) hb); have HB := Aside0.mk (below_step (by repeat (first | (with_reducible first | exact HB.out | apply below_alloc | apply pw_below_drewN | apply below_drew1) | exact HB.out)) hb); have q0 : w'.cell? ⟨w.heap.size, 0, none⟩ = some (.int .i64 13) := (blk_cell BK.out 0).trans rfl; have q1 : w'.cell? ⟨w.heap.size, 1, none⟩ = some (.int .i64 r) := (blk_cell BK.out 1).trans rfl; have q2 : w'.cell? ⟨w.heap.size, 2, none⟩ = some (.int .i64 s) := (blk_cell BK.out 2).trans rfl; have q3 : w'.cell? ⟨w.heap.size, 3, none⟩ = some (.int .i64 t) := (blk_cell BK.out 3).trans rfl; have q4 : w'.cell? ⟨w.heap.size, 4, none⟩ = some (.int .i64 1) := (blk_cell BK.out 4).trans rfl; have q5 : w'.cell? ⟨w.heap.size, 5, none⟩ = some (.int .i64 vn) := (blk_cell BK.out 5).trans rfl; have GS := Aside0.mk (cell_lt f0); have P0 := Aside0.mk f0; have P1 := Aside0.mk f1; have P2 := Aside0.mk f2; have P3 := Aside0.mk f3; clear hb hg) | (go_at_call 58; refine (hVal _).mono ?_; rintro e w'2 ⟨rfl, hb⟩; have P0 := Aside0.mk ((hb.cell (p := ⟨g, 0, none⟩) GS.out).trans P0.out); have P1 := Aside0.mk ((hb.cell (p := ⟨g, 1, none⟩) GS.out).trans P1.out); have P2 := Aside0.mk ((hb.cell (p := ⟨g, 2, none⟩) GS.out).trans P2.out); have P3 := Aside0.mk ((hb.cell (p := ⟨g, 3, none⟩) GS.out).trans P3.out); have BK := Aside0.mk (blk_below (by (with_reducible repeat (first | refine blk_drewN ?_ _ | refine blk_drew ?_ | refine blk_alloc ?_ _)); exact BK.out) hb); have HB := Aside0.mk (below_step (by repeat (first | (with_reducible first | exact HB.out | apply below_alloc | apply pw_below_drewN | apply below_drew1) | exact HB.out)) hb); have q0 : w'2.cell? ⟨w.heap.size, 0, none⟩ = some (.int .i64 13) := (blk_cell BK.out 0).trans rfl; have q1 : w'2.cell? ⟨w.heap.size, 1, none⟩ = some (.int .i64 r) := (blk_cell BK.out 1).trans rfl; have q2 : w'2.cell? ⟨w.heap.size, 2, none⟩ = some (.int .i64 s) := (blk_cell BK.out 2).trans rfl; have q3 : w'2.cell? ⟨w.heap.size, 3, none⟩ = some (.int .i64 t) := (blk_cell BK.out 3).trans rfl; have q4 : w'2.cell? ⟨w.heap.size, 4, none⟩ = some (.int .i64 1) := (blk_cell BK.out 4).trans rfl; have q5 : w'2.cell? ⟨w.heap.size, 5, none⟩ = some (.int .i64 vn) := (blk_cell BK.out 5).trans rfl; have f0 := P0.out; have f1 := P1.out; have f2 := P2.out; have f3 := P3.out; clear hb) | (go_at_call 59; refine (in2_any _ _ _ _).mono ?_; rintro e w' ⟨rfl, rfl⟩) | (go_at_call 60; refine (slot_any _ _).mono ?_; rintro e w' ⟨rfl, rfl⟩) | (go_at_call 61; refine (to_any _ _).mono ?_; rintro e w' ⟨rfl, rfl⟩))
  all_goals go_ret
  all_goals refine ⟨?_, HB.out⟩
  all_goals (rw [hg.out]; simp [*])
theorem specOp_bad (k r s t vk vn : Int) (w : World) (g0 u0 u1 u2 u3 vb : Bool)
    (hForm : ∀ W, Calls Try.prog 57 #[.int .i64 k] W fun e w' => ∃ g c, e = .returned (.slice (some ⟨g, 0, none⟩) 4 c) ∧ Below W.heap.size W w' ∧ W.heap.size ≤ g ∧ w'.cell? ⟨g, 0, none⟩ = some (.bool u0) ∧ w'.cell? ⟨g, 1, none⟩ = some (.bool u1) ∧ w'.cell? ⟨g, 2, none⟩ = some (.bool u2) ∧ w'.cell? ⟨g, 3, none⟩ = some (.bool u3))
    (hVal : ∀ W, Calls Try.prog 58 #[.agg #[.int .i64 vk, .int .i64 vn]] W fun e w' => e = .returned (.bool vb) ∧ Below W.heap.size W w') (hvb : Aside0 (vb = false)) (hg : Aside0 (g0 = false)) :
    Calls Try.prog 23 #[.agg #[.int .i64 k, .int .i64 r, .int .i64 s, .int .i64 t, .int .i64 vk, .int .i64 vn]] w fun e w' => e = .returned (.bool g0) ∧ Below w.heap.size w w' := by
  have BK : Aside0 ((w.alloc (.cells #[.int .i64 k, .int .i64 r, .int .i64 s, .int .i64 t, .int .i64 vk, .int .i64 vn] 29)).heap[w.heap.size]? = some (.cells #[.int .i64 k, .int .i64 r, .int .i64 s, .int .i64 t, .int .i64 vk, .int .i64 vn] 29 (0, 0))) := ⟨blk_new _ _⟩
  have HB := Aside0.mk (Below.refl w.heap.size w)
  have hu27 := Try.underlying27
  have hu29 := Try.underlying29
  obtain rfl := hvb.out
  clear hvb
  obtain rfl := hg.out
  clear hg
  go_enter Try.func23, Try.ntmps23
  go_wp2_with (first | (go_at_call 57; refine (hForm _).mono ?_; rintro e w' ⟨g, c, rfl, hb, hg, f0, f1, f2, f3⟩; have SZ := Aside0.mk (hb.size); have BK := Aside0.mk (blk_below (by (with_reducible repeat (first | refine blk_drewN ?_ _ | refine blk_drew ?_ | refine blk_alloc ?_ _)); exact BK.out) hb); have HB := Aside0.mk (below_step (by repeat (first | (with_reducible first | exact HB.out | apply below_alloc | apply pw_below_drewN | apply below_drew1) | exact HB.out)) hb); have q0 : w'.cell? ⟨w.heap.size, 0, none⟩ = some (.int .i64 k) := (blk_cell BK.out 0).trans rfl; have q1 : w'.cell? ⟨w.heap.size, 1, none⟩ = some (.int .i64 r) := (blk_cell BK.out 1).trans rfl; have q2 : w'.cell? ⟨w.heap.size, 2, none⟩ = some (.int .i64 s) := (blk_cell BK.out 2).trans rfl; have q3 : w'.cell? ⟨w.heap.size, 3, none⟩ = some (.int .i64 t) := (blk_cell BK.out 3).trans rfl; have q4 : w'.cell? ⟨w.heap.size, 4, none⟩ = some (.int .i64 vk) := (blk_cell BK.out 4).trans rfl; have q5 : w'.cell? ⟨w.heap.size, 5, none⟩ = some (.int .i64 vn) := (blk_cell BK.out 5).trans rfl; have GS := Aside0.mk (cell_lt f0); have P0 := Aside0.mk f0; have P1 := Aside0.mk f1; have P2 := Aside0.mk f2; have P3 := Aside0.mk f3; clear hb hg) | (go_at_call 58; refine (hVal _).mono ?_; rintro e w'2 ⟨rfl, hb⟩; have P0 := Aside0.mk ((hb.cell (p := ⟨g, 0, none⟩) GS.out).trans P0.out); have P1 := Aside0.mk ((hb.cell (p := ⟨g, 1, none⟩) GS.out).trans P1.out); have P2 := Aside0.mk ((hb.cell (p := ⟨g, 2, none⟩) GS.out).trans P2.out); have P3 := Aside0.mk ((hb.cell (p := ⟨g, 3, none⟩) GS.out).trans P3.out); have BK := Aside0.mk (blk_below (by (with_reducible repeat (first | refine blk_drewN ?_ _ | refine blk_drew ?_ | refine blk_alloc ?_ _)); exact BK.out) hb); have HB := Aside0.mk (below_step (by repeat (first | (with_reducible first | exact HB.out | apply below_alloc | apply pw_below_drewN | apply below_drew1) | exact HB.out)) hb); have q0 : w'2.cell? ⟨w.heap.size, 0, none⟩ = some (.int .i64 k) := (blk_cell BK.out 0).trans rfl; have q1 : w'2.cell? ⟨w.heap.size, 1, none⟩ = some (.int .i64 r) := (blk_cell BK.out 1).trans rfl; have q2 : w'2.cell? ⟨w.heap.size, 2, none⟩ = some (.int .i64 s) := (blk_cell BK.out 2).trans rfl; have q3 : w'2.cell? ⟨w.heap.size, 3, none⟩ = some (.int .i64 t) := (blk_cell BK.out 3).trans rfl; have q4 : w'2.cell? ⟨w.heap.size, 4, none⟩ = some (.int .i64 vk) := (blk_cell BK.out 4).trans rfl; have q5 : w'2.cell? ⟨w.heap.size, 5, none⟩ = some (.int .i64 vn) := (blk_cell BK.out 5).trans rfl; have f0 := P0.out; have f1 := P1.out; have f2 := P2.out; have f3 := P3.out; clear hb) | (go_at_call 59; refine (in2_any _ _ _ _).mono ?_; rintro e w' ⟨rfl, rfl⟩) | (go_at_call 60; refine (slot_any _ _).mono ?_; rintro e w' ⟨rfl, rfl⟩) | (go_at_call 61; refine (to_any _ _).mono ?_; rintro e w' ⟨rfl, rfl⟩))
  all_goals go_ret
  all_goals exact ⟨rfl, HB.out⟩
theorem specOp_8k (r s t vk vn : Int) (w : World) (g0 u0 u1 u2 u3 vb : Bool)
    (hForm : ∀ W, Calls Try.prog 57 #[.int .i64 8] W fun e w' => ∃ g c, e = .returned (.slice (some ⟨g, 0, none⟩) 4 c) ∧ Below W.heap.size W w' ∧ W.heap.size ≤ g ∧ w'.cell? ⟨g, 0, none⟩ = some (.bool u0) ∧ w'.cell? ⟨g, 1, none⟩ = some (.bool u1) ∧ w'.cell? ⟨g, 2, none⟩ = some (.bool u2) ∧ w'.cell? ⟨g, 3, none⟩ = some (.bool u3))
    (hVal : ∀ W, Calls Try.prog 58 #[.agg #[.int .i64 vk, .int .i64 vn]] W fun e w' => e = .returned (.bool vb) ∧ Below W.heap.size W w') (hvk : (vk == 1) = false) (hvk2 : (vk != 1) = true) (hvb : Aside0 (vb = true)) (hg : Aside0 (g0 = false)) :
    Calls Try.prog 23 #[.agg #[.int .i64 8, .int .i64 r, .int .i64 s, .int .i64 t, .int .i64 vk, .int .i64 vn]] w fun e w' => e = .returned (.bool g0) ∧ Below w.heap.size w w' := by
  have BK : Aside0 ((w.alloc (.cells #[.int .i64 8, .int .i64 r, .int .i64 s, .int .i64 t, .int .i64 vk, .int .i64 vn] 29)).heap[w.heap.size]? = some (.cells #[.int .i64 8, .int .i64 r, .int .i64 s, .int .i64 t, .int .i64 vk, .int .i64 vn] 29 (0, 0))) := ⟨blk_new _ _⟩
  have HB := Aside0.mk (Below.refl w.heap.size w)
  have hu27 := Try.underlying27
  have hu29 := Try.underlying29
  obtain rfl := hvb.out
  clear hvb
  obtain rfl := hg.out
  clear hg
  go_enter Try.func23, Try.ntmps23
  go_wp2_with (first | (go_at_call 57; refine (hForm _).mono ?_; rintro e w' ⟨g, c, rfl, hb, hg, f0, f1, f2, f3⟩; have SZ := Aside0.mk (hb.size); have BK := Aside0.mk (blk_below (by (with_reducible repeat (first | refine blk_drewN ?_ _ | refine blk_drew ?_ | refine blk_alloc ?_ _)); exact BK.out) hb); have HB := Aside0.mk (below_step (by repeat (first | (with_reducible first | exact HB.out | apply below_alloc | apply pw_below_drewN | apply below_drew1) | exact HB.out)) hb); have q0 : w'.cell? ⟨w.heap.size, 0, none⟩ = some (.int .i64 8) := (blk_cell BK.out 0).trans rfl; have q1 : w'.cell? ⟨w.heap.size, 1, none⟩ = some (.int .i64 r) := (blk_cell BK.out 1).trans rfl; have q2 : w'.cell? ⟨w.heap.size, 2, none⟩ = some (.int .i64 s) := (blk_cell BK.out 2).trans rfl; have q3 : w'.cell? ⟨w.heap.size, 3, none⟩ = some (.int .i64 t) := (blk_cell BK.out 3).trans rfl; have q4 : w'.cell? ⟨w.heap.size, 4, none⟩ = some (.int .i64 vk) := (blk_cell BK.out 4).trans rfl; have q5 : w'.cell? ⟨w.heap.size, 5, none⟩ = some (.int .i64 vn) := (blk_cell BK.out 5).trans rfl; have GS := Aside0.mk (cell_lt f0); have P0 := Aside0.mk f0; have P1 := Aside0.mk f1; have P2 := Aside0.mk f2; have P3 := Aside0.mk f3; clear hb hg) | (go_at_call 58; refine (hVal _).mono ?_; rintro e w'2 ⟨rfl, hb⟩; have P0 := Aside0.mk ((hb.cell (p := ⟨g, 0, none⟩) GS.out).trans P0.out); have P1 := Aside0.mk ((hb.cell (p := ⟨g, 1, none⟩) GS.out).trans P1.out); have P2 := Aside0.mk ((hb.cell (p := ⟨g, 2, none⟩) GS.out).trans P2.out); have P3 := Aside0.mk ((hb.cell (p := ⟨g, 3, none⟩) GS.out).trans P3.out); have BK := Aside0.mk (blk_below (by (with_reducible repeat (first | refine blk_drewN ?_ _ | refine blk_drew ?_ | refine blk_alloc ?_ _)); exact BK.out) hb); have HB := Aside0.mk (below_step (by repeat (first | (with_reducible first | exact HB.out | apply below_alloc | apply pw_below_drewN | apply below_drew1) | exact HB.out)) hb); have q0 : w'2.cell? ⟨w.heap.size, 0, none⟩ = some (.int .i64 8) := (blk_cell BK.out 0).trans rfl; have q1 : w'2.cell? ⟨w.heap.size, 1, none⟩ = some (.int .i64 r) := (blk_cell BK.out 1).trans rfl; have q2 : w'2.cell? ⟨w.heap.size, 2, none⟩ = some (.int .i64 s) := (blk_cell BK.out 2).trans rfl; have q3 : w'2.cell? ⟨w.heap.size, 3, none⟩ = some (.int .i64 t) := (blk_cell BK.out 3).trans rfl; have q4 : w'2.cell? ⟨w.heap.size, 4, none⟩ = some (.int .i64 vk) := (blk_cell BK.out 4).trans rfl; have q5 : w'2.cell? ⟨w.heap.size, 5, none⟩ = some (.int .i64 vn) := (blk_cell BK.out 5).trans rfl; have f0 := P0.out; have f1 := P1.out; have f2 := P2.out; have f3 := P3.out; clear hb) | (go_at_call 59; refine (in2_any _ _ _ _).mono ?_; rintro e w' ⟨rfl, rfl⟩) | (go_at_call 60; refine (slot_any _ _).mono ?_; rintro e w' ⟨rfl, rfl⟩) | (go_at_call 61; refine (to_any _ _).mono ?_; rintro e w' ⟨rfl, rfl⟩))
  all_goals go_ret
  all_goals exact ⟨rfl, HB.out⟩
theorem specOp_8n (r s t vn : Int) (w : World) (g0 u0 u1 u2 u3 vb : Bool)
    (hForm : ∀ W, Calls Try.prog 57 #[.int .i64 8] W fun e w' => ∃ g c, e = .returned (.slice (some ⟨g, 0, none⟩) 4 c) ∧ Below W.heap.size W w' ∧ W.heap.size ≤ g ∧ w'.cell? ⟨g, 0, none⟩ = some (.bool u0) ∧ w'.cell? ⟨g, 1, none⟩ = some (.bool u1) ∧ w'.cell? ⟨g, 2, none⟩ = some (.bool u2) ∧ w'.cell? ⟨g, 3, none⟩ = some (.bool u3))
    (hVal : ∀ W, Calls Try.prog 58 #[.agg #[.int .i64 1, .int .i64 vn]] W fun e w' => e = .returned (.bool vb) ∧ Below W.heap.size W w') (hvn : vn < 1) (hvn2 : decide (vn < 1) = true) (hvb : Aside0 (vb = true)) (hg : Aside0 (g0 = false)) :
    Calls Try.prog 23 #[.agg #[.int .i64 8, .int .i64 r, .int .i64 s, .int .i64 t, .int .i64 1, .int .i64 vn]] w fun e w' => e = .returned (.bool g0) ∧ Below w.heap.size w w' := by
  have BK : Aside0 ((w.alloc (.cells #[.int .i64 8, .int .i64 r, .int .i64 s, .int .i64 t, .int .i64 1, .int .i64 vn] 29)).heap[w.heap.size]? = some (.cells #[.int .i64 8, .int .i64 r, .int .i64 s, .int .i64 t, .int .i64 1, .int .i64 vn] 29 (0, 0))) := ⟨blk_new _ _⟩
  have HB := Aside0.mk (Below.refl w.heap.size w)
  have hu27 := Try.underlying27
  have hu29 := Try.underlying29
  obtain rfl := hvb.out
  clear hvb
  obtain rfl := hg.out
  clear hg
  go_enter Try.func23, Try.ntmps23
  go_wp2_with (first | (go_at_call 57; refine (hForm _).mono ?_; rintro e w' ⟨g, c, rfl, hb, hg, f0, f1, f2, f3⟩; have SZ := Aside0.mk (hb.size); have BK := Aside0.mk (blk_below (by (with_reducible repeat (first | refine blk_drewN ?_ _ | refine blk_drew ?_ | refine blk_alloc ?_ _)); exact BK.out) hb); have HB := Aside0.mk (below_step (by repeat (first | (with_reducible first | exact HB.out | apply below_alloc | apply pw_below_drewN | apply below_drew1) | exact HB.out)) hb); have q0 : w'.cell? ⟨w.heap.size, 0, none⟩ = some (.int .i64 8) := (blk_cell BK.out 0).trans rfl; have q1 : w'.cell? ⟨w.heap.size, 1, none⟩ = some (.int .i64 r) := (blk_cell BK.out 1).trans rfl; have q2 : w'.cell? ⟨w.heap.size, 2, none⟩ = some (.int .i64 s) := (blk_cell BK.out 2).trans rfl; have q3 : w'.cell? ⟨w.heap.size, 3, none⟩ = some (.int .i64 t) := (blk_cell BK.out 3).trans rfl; have q4 : w'.cell? ⟨w.heap.size, 4, none⟩ = some (.int .i64 1) := (blk_cell BK.out 4).trans rfl; have q5 : w'.cell? ⟨w.heap.size, 5, none⟩ = some (.int .i64 vn) := (blk_cell BK.out 5).trans rfl; have GS := Aside0.mk (cell_lt f0); have P0 := Aside0.mk f0; have P1 := Aside0.mk f1; have P2 := Aside0.mk f2; have P3 := Aside0.mk f3; clear hb hg) | (go_at_call 58; refine (hVal _).mono ?_; rintro e w'2 ⟨rfl, hb⟩; have P0 := Aside0.mk ((hb.cell (p := ⟨g, 0, none⟩) GS.out).trans P0.out); have P1 := Aside0.mk ((hb.cell (p := ⟨g, 1, none⟩) GS.out).trans P1.out); have P2 := Aside0.mk ((hb.cell (p := ⟨g, 2, none⟩) GS.out).trans P2.out); have P3 := Aside0.mk ((hb.cell (p := ⟨g, 3, none⟩) GS.out).trans P3.out); have BK := Aside0.mk (blk_below (by (with_reducible repeat (first | refine blk_drewN ?_ _ | refine blk_drew ?_ | refine blk_alloc ?_ _)); exact BK.out) hb); have HB := Aside0.mk (below_step (by repeat (first | (with_reducible first | exact HB.out | apply below_alloc | apply pw_below_drewN | apply below_drew1) | exact HB.out)) hb); have q0 : w'2.cell? ⟨w.heap.size, 0, none⟩ = some (.int .i64 8) := (blk_cell BK.out 0).trans rfl; have q1 : w'2.cell? ⟨w.heap.size, 1, none⟩ = some (.int .i64 r) := (blk_cell BK.out 1).trans rfl; have q2 : w'2.cell? ⟨w.heap.size, 2, none⟩ = some (.int .i64 s) := (blk_cell BK.out 2).trans rfl; have q3 : w'2.cell? ⟨w.heap.size, 3, none⟩ = some (.int .i64 t) := (blk_cell BK.out 3).trans rfl; have q4 : w'2.cell? ⟨w.heap.size, 4, none⟩ = some (.int .i64 1) := (blk_cell BK.out 4).trans rfl; have q5 : w'2.cell? ⟨w.heap.size, 5, none⟩ = some (.int .i64 vn) := (blk_cell BK.out 5).trans rfl; have f0 := P0.out; have f1 := P1.out; have f2 := P2.out; have f3 := P3.out; clear hb) | (go_at_call 59; refine (in2_any _ _ _ _).mono ?_; rintro e w' ⟨rfl, rfl⟩) | (go_at_call 60; refine (slot_any _ _).mono ?_; rintro e w' ⟨rfl, rfl⟩) | (go_at_call 61; refine (to_any _ _).mono ?_; rintro e w' ⟨rfl, rfl⟩))
  all_goals go_ret
  all_goals exact ⟨rfl, HB.out⟩
theorem specOp_13k (r s t vk vn : Int) (w : World) (g0 u0 u1 u2 u3 vb : Bool)
    (hForm : ∀ W, Calls Try.prog 57 #[.int .i64 13] W fun e w' => ∃ g c, e = .returned (.slice (some ⟨g, 0, none⟩) 4 c) ∧ Below W.heap.size W w' ∧ W.heap.size ≤ g ∧ w'.cell? ⟨g, 0, none⟩ = some (.bool u0) ∧ w'.cell? ⟨g, 1, none⟩ = some (.bool u1) ∧ w'.cell? ⟨g, 2, none⟩ = some (.bool u2) ∧ w'.cell? ⟨g, 3, none⟩ = some (.bool u3))
    (hVal : ∀ W, Calls Try.prog 58 #[.agg #[.int .i64 vk, .int .i64 vn]] W fun e w' => e = .returned (.bool vb) ∧ Below W.heap.size W w') (hvk : (vk == 1) = false) (hvk2 : (vk != 1) = true) (hvb : Aside0 (vb = true)) (hg : Aside0 (g0 = false)) :
    Calls Try.prog 23 #[.agg #[.int .i64 13, .int .i64 r, .int .i64 s, .int .i64 t, .int .i64 vk, .int .i64 vn]] w fun e w' => e = .returned (.bool g0) ∧ Below w.heap.size w w' := by
  have BK : Aside0 ((w.alloc (.cells #[.int .i64 13, .int .i64 r, .int .i64 s, .int .i64 t, .int .i64 vk, .int .i64 vn] 29)).heap[w.heap.size]? = some (.cells #[.int .i64 13, .int .i64 r, .int .i64 s, .int .i64 t, .int .i64 vk, .int .i64 vn] 29 (0, 0))) := ⟨blk_new _ _⟩
  have HB := Aside0.mk (Below.refl w.heap.size w)
  have hu27 := Try.underlying27
  have hu29 := Try.underlying29
  obtain rfl := hvb.out
  clear hvb
  obtain rfl := hg.out
  clear hg
  go_enter Try.func23, Try.ntmps23
  go_wp2_with (first | (go_at_call 57; refine (hForm _).mono ?_; rintro e w' ⟨g, c, rfl, hb, hg, f0, f1, f2, f3⟩; have SZ := Aside0.mk (hb.size); have BK := Aside0.mk (blk_below (by (with_reducible repeat (first | refine blk_drewN ?_ _ | refine blk_drew ?_ | refine blk_alloc ?_ _)); exact BK.out) hb); have HB := Aside0.mk (below_step (by repeat (first | (with_reducible first | exact HB.out | apply below_alloc | apply pw_below_drewN | apply below_drew1) | exact HB.out)) hb); have q0 : w'.cell? ⟨w.heap.size, 0, none⟩ = some (.int .i64 13) := (blk_cell BK.out 0).trans rfl; have q1 : w'.cell? ⟨w.heap.size, 1, none⟩ = some (.int .i64 r) := (blk_cell BK.out 1).trans rfl; have q2 : w'.cell? ⟨w.heap.size, 2, none⟩ = some (.int .i64 s) := (blk_cell BK.out 2).trans rfl; have q3 : w'.cell? ⟨w.heap.size, 3, none⟩ = some (.int .i64 t) := (blk_cell BK.out 3).trans rfl; have q4 : w'.cell? ⟨w.heap.size, 4, none⟩ = some (.int .i64 vk) := (blk_cell BK.out 4).trans rfl; have q5 : w'.cell? ⟨w.heap.size, 5, none⟩ = some (.int .i64 vn) := (blk_cell BK.out 5).trans rfl; have GS := Aside0.mk (cell_lt f0); have P0 := Aside0.mk f0; have P1 := Aside0.mk f1; have P2 := Aside0.mk f2; have P3 := Aside0.mk f3; clear hb hg) | (go_at_call 58; refine (hVal _).mono ?_; rintro e w'2 ⟨rfl, hb⟩; have P0 := Aside0.mk ((hb.cell (p := ⟨g, 0, none⟩) GS.out).trans P0.out); have P1 := Aside0.mk ((hb.cell (p := ⟨g, 1, none⟩) GS.out).trans P1.out); have P2 := Aside0.mk ((hb.cell (p := ⟨g, 2, none⟩) GS.out).trans P2.out); have P3 := Aside0.mk ((hb.cell (p := ⟨g, 3, none⟩) GS.out).trans P3.out); have BK := Aside0.mk (blk_below (by (with_reducible repeat (first | refine blk_drewN ?_ _ | refine blk_drew ?_ | refine blk_alloc ?_ _)); exact BK.out) hb); have HB := Aside0.mk (below_step (by repeat (first | (with_reducible first | exact HB.out | apply below_alloc | apply pw_below_drewN | apply below_drew1) | exact HB.out)) hb); have q0 : w'2.cell? ⟨w.heap.size, 0, none⟩ = some (.int .i64 13) := (blk_cell BK.out 0).trans rfl; have q1 : w'2.cell? ⟨w.heap.size, 1, none⟩ = some (.int .i64 r) := (blk_cell BK.out 1).trans rfl; have q2 : w'2.cell? ⟨w.heap.size, 2, none⟩ = some (.int .i64 s) := (blk_cell BK.out 2).trans rfl; have q3 : w'2.cell? ⟨w.heap.size, 3, none⟩ = some (.int .i64 t) := (blk_cell BK.out 3).trans rfl; have q4 : w'2.cell? ⟨w.heap.size, 4, none⟩ = some (.int .i64 vk) := (blk_cell BK.out 4).trans rfl; have q5 : w'2.cell? ⟨w.heap.size, 5, none⟩ = some (.int .i64 vn) := (blk_cell BK.out 5).trans rfl; have f0 := P0.out; have f1 := P1.out; have f2 := P2.out; have f3 := P3.out; clear hb) | (go_at_call 59; refine (in2_any _ _ _ _).mono ?_; rintro e w' ⟨rfl, rfl⟩) | (go_at_call 60; refine (slot_any _ _).mono ?_; rintro e w' ⟨rfl, rfl⟩) | (go_at_call 61; refine (to_any _ _).mono ?_; rintro e w' ⟨rfl, rfl⟩))
  all_goals go_ret
  all_goals exact ⟨rfl, HB.out⟩
theorem specOp_13n (r s t vn : Int) (w : World) (g0 u0 u1 u2 u3 vb : Bool)
    (hForm : ∀ W, Calls Try.prog 57 #[.int .i64 13] W fun e w' => ∃ g c, e = .returned (.slice (some ⟨g, 0, none⟩) 4 c) ∧ Below W.heap.size W w' ∧ W.heap.size ≤ g ∧ w'.cell? ⟨g, 0, none⟩ = some (.bool u0) ∧ w'.cell? ⟨g, 1, none⟩ = some (.bool u1) ∧ w'.cell? ⟨g, 2, none⟩ = some (.bool u2) ∧ w'.cell? ⟨g, 3, none⟩ = some (.bool u3))
    (hVal : ∀ W, Calls Try.prog 58 #[.agg #[.int .i64 1, .int .i64 vn]] W fun e w' => e = .returned (.bool vb) ∧ Below W.heap.size W w') (hvn : Aside0 (decide (0 ≤ vn ∧ vn ≤ 1) = false)) (hvb : Aside0 (vb = true)) (hg : Aside0 (g0 = false)) :
    Calls Try.prog 23 #[.agg #[.int .i64 13, .int .i64 r, .int .i64 s, .int .i64 t, .int .i64 1, .int .i64 vn]] w fun e w' => e = .returned (.bool g0) ∧ Below w.heap.size w w' := by
  have BK : Aside0 ((w.alloc (.cells #[.int .i64 13, .int .i64 r, .int .i64 s, .int .i64 t, .int .i64 1, .int .i64 vn] 29)).heap[w.heap.size]? = some (.cells #[.int .i64 13, .int .i64 r, .int .i64 s, .int .i64 t, .int .i64 1, .int .i64 vn] 29 (0, 0))) := ⟨blk_new _ _⟩
  have HB := Aside0.mk (Below.refl w.heap.size w)
  have hu27 := Try.underlying27
  have hu29 := Try.underlying29
  obtain rfl := hvb.out
  clear hvb
  obtain rfl := hg.out
  clear hg
  go_enter Try.func23, Try.ntmps23
  go_wp2_with (first | (go_at_call 57; refine (hForm _).mono ?_; rintro e w' ⟨g, c, rfl, hb, hg, f0, f1, f2, f3⟩; have SZ := Aside0.mk (hb.size); have BK := Aside0.mk (blk_below (by (with_reducible repeat (first | refine blk_drewN ?_ _ | refine blk_drew ?_ | refine blk_alloc ?_ _)); exact BK.out) hb); have HB := Aside0.mk (below_step (by repeat (first | (with_reducible first | exact HB.out | apply below_alloc | apply pw_below_drewN | apply below_drew1) | exact HB.out)) hb); have q0 : w'.cell? ⟨w.heap.size, 0, none⟩ = some (.int .i64 13) := (blk_cell BK.out 0).trans rfl; have q1 : w'.cell? ⟨w.heap.size, 1, none⟩ = some (.int .i64 r) := (blk_cell BK.out 1).trans rfl; have q2 : w'.cell? ⟨w.heap.size, 2, none⟩ = some (.int .i64 s) := (blk_cell BK.out 2).trans rfl; have q3 : w'.cell? ⟨w.heap.size, 3, none⟩ = some (.int .i64 t) := (blk_cell BK.out 3).trans rfl; have q4 : w'.cell? ⟨w.heap.size, 4, none⟩ = some (.int .i64 1) := (blk_cell BK.out 4).trans rfl; have q5 : w'.cell? ⟨w.heap.size, 5, none⟩ = some (.int .i64 vn) := (blk_cell BK.out 5).trans rfl; have GS := Aside0.mk (cell_lt f0); have P0 := Aside0.mk f0; have P1 := Aside0.mk f1; have P2 := Aside0.mk f2; have P3 := Aside0.mk f3; clear hb hg) | (go_at_call 58; refine (hVal _).mono ?_; rintro e w'2 ⟨rfl, hb⟩; have P0 := Aside0.mk ((hb.cell (p := ⟨g, 0, none⟩) GS.out).trans P0.out); have P1 := Aside0.mk ((hb.cell (p := ⟨g, 1, none⟩) GS.out).trans P1.out); have P2 := Aside0.mk ((hb.cell (p := ⟨g, 2, none⟩) GS.out).trans P2.out); have P3 := Aside0.mk ((hb.cell (p := ⟨g, 3, none⟩) GS.out).trans P3.out); have BK := Aside0.mk (blk_below (by (with_reducible repeat (first | refine blk_drewN ?_ _ | refine blk_drew ?_ | refine blk_alloc ?_ _)); exact BK.out) hb); have HB := Aside0.mk (below_step (by repeat (first | (with_reducible first | exact HB.out | apply below_alloc | apply pw_below_drewN | apply below_drew1) | exact HB.out)) hb); have q0 : w'2.cell? ⟨w.heap.size, 0, none⟩ = some (.int .i64 13) := (blk_cell BK.out 0).trans rfl; have q1 : w'2.cell? ⟨w.heap.size, 1, none⟩ = some (.int .i64 r) := (blk_cell BK.out 1).trans rfl; have q2 : w'2.cell? ⟨w.heap.size, 2, none⟩ = some (.int .i64 s) := (blk_cell BK.out 2).trans rfl; have q3 : w'2.cell? ⟨w.heap.size, 3, none⟩ = some (.int .i64 t) := (blk_cell BK.out 3).trans rfl; have q4 : w'2.cell? ⟨w.heap.size, 4, none⟩ = some (.int .i64 1) := (blk_cell BK.out 4).trans rfl; have q5 : w'2.cell? ⟨w.heap.size, 5, none⟩ = some (.int .i64 vn) := (blk_cell BK.out 5).trans rfl; have f0 := P0.out; have f1 := P1.out; have f2 := P2.out; have f3 := P3.out; clear hb) | (go_at_call 59; refine (in2_any _ _ _ _).mono ?_; rintro e w' ⟨rfl, rfl⟩; rw [hvn.out]) | (go_at_call 60; refine (slot_any _ _).mono ?_; rintro e w' ⟨rfl, rfl⟩) | (go_at_call 61; refine (to_any _ _).mono ?_; rintro e w' ⟨rfl, rfl⟩))
  all_goals go_ret
  all_goals exact ⟨rfl, HB.out⟩
end Go.Proofs.Ytmklpbmlgjkbiaa.PS
end
section
namespace Go.Proofs.Ytmklpbmlgjkbiaa.PS
open Go.RowKit Go.Proofs.YtmklpbmlgjkbiaaW.PrintWords Go.Proofs.YtmklpbmlgjkbiaaW.PrintLast
theorem form_eq (k : Int) : spec_l2Form.f 3 k = some (formL k) := by
  refine kinds (P := fun k => spec_l2Form.f 3 k = some (formL k)) (fun k hk => ?_) (by decide) (by decide) (by decide) (by decide) (by decide) (by decide) (by decide) (by decide) (by decide) (by decide) (by decide) (by decide) (by decide) (by decide) k
  unfold formL
  rw [if_neg hk]
  have h1 : k ≠ 1 := by omega
  have h2 : k ≠ 2 := by omega
  have h3 : k ≠ 3 := by omega
  have h4 : k ≠ 4 := by omega
  have h5 : k ≠ 5 := by omega
  have h6 : k ≠ 6 := by omega
  have h7 : k ≠ 7 := by omega
  have h8 : k ≠ 8 := by omega
  have h9 : k ≠ 9 := by omega
  have h10 : k ≠ 10 := by omega
  have h11 : k ≠ 11 := by omega
  have h12 : k ≠ 12 := by omega
  have h13 : k ≠ 13 := by omega
  have h14 : k ≠ 14 := by omega
  simp [spec_l2Form.f, spec_l2Form.j0, spec_l2Form.j1, h1, h2, h3, h4, h5, h6, h7, h8, h9, h10, h11, h12, h13, h14]
theorem form_calls {k : Int} (hk : 1 ≤ k ∧ k ≤ 14) (W : World) : Calls Try.prog 57 #[.int .i64 k] W fun e w' => ∃ g c, e = .returned (.slice (some ⟨g, 0, none⟩) 4 c) ∧ Below W.heap.size W w' ∧ W.heap.size ≤ g ∧ w'.cell? ⟨g, 0, none⟩ = some (.bool (hasR k)) ∧ w'.cell? ⟨g, 1, none⟩ = some (.bool (hasS k)) ∧ w'.cell? ⟨g, 2, none⟩ = some (.bool (hasT k)) ∧ w'.cell? ⟨g, 3, none⟩ = some (.bool (hasV k)) := by
  refine (spec_l2Form.calls 3 k (formL k) W (form_eq k)).mono ?_
  rintro e w' ⟨v, rfl, hR, hb⟩
  have : formL k = [hasR k, hasS k, hasT k, hasV k] := if_pos hk
  rw [this] at hR
  obtain ⟨g, c, rfl, hg, q0, q1, q2, q3⟩ := own4 hR
  exact ⟨g, c, rfl, hb, hg, q0, q1, q2, q3⟩
theorem sok_eq (k n : Int) : spec_ValOk.f k n = some (okB k n) := by
  unfold spec_ValOk.f spec_l6In.f okB okP
  by_cases h0 : k = 0
  · subst h0; by_cases hn : n = 0 <;> simp [hn]
  rw [if_neg h0]
  by_cases h1 : k = 1
  · subst h1; by_cases a : n ≥ -99 <;> simp [a] <;> omega
  rw [if_neg h1]
  by_cases h2 : k = 2
  · subst h2; by_cases a : n ≥ 0 <;> simp [a] <;> omega
  rw [if_neg h2]
  by_cases h3 : k = 3
  · subst h3; by_cases a : n ≥ 1 <;> simp [a] <;> omega
  rw [if_neg h3]; simp [h0, h1, h2, h3]
theorem opB_form (k r s t vk vn : Int) (hk : 1 ≤ k ∧ k ≤ 14) (hv : valP k vk vn) : opB k r s t vk vn = (((decide (0 ≤ r ∧ r ≤ 3) && hasR k) || r == 0) && (((decide (0 ≤ s ∧ s ≤ 3) && hasS k) || s == 0) && (((decide (0 ≤ t ∧ t ≤ 15) && hasT k) || t == 0) && (hasV k || (vk == 0 && (vn == 0)))))) := by
  have e : ∀ x y : Int, (x == y) = decide (x = y) := fun x y => by by_cases h : x = y <;> simp [h]
  have sw : ∀ (a b c : Prop), ((a ∧ b) ∨ c) ↔ (c ∨ (b ∧ a)) := fun a b c => ⟨fun h => h.elim (fun g => .inr ⟨g.2, g.1⟩) .inl, fun h => h.elim .inr (fun g => .inl ⟨g.2, g.1⟩)⟩
  rw [Bool.eq_iff_iff]
  simp only [opB, decide_eq_true_eq, Bool.and_eq_true, Bool.or_eq_true, e, sw]
  exact ⟨fun h => h.2.2, fun h => ⟨hk, hv, h⟩⟩
theorem opB_bad {k r s t vk vn : Int} (h : ¬ (1 ≤ k ∧ k ≤ 14) ∨ ¬ valP k vk vn) : opB k r s t vk vn = false := opB_false.2 (fun g => h.elim (fun a => a g.1) (fun a => a g.2.1))
theorem specOp_none (k r s t vk vn : Int) (w : World) (hk : ¬ (1 ≤ k ∧ k ≤ 14)) :
    Calls Try.prog 23 #[.agg #[.int .i64 k, .int .i64 r, .int .i64 s, .int .i64 t, .int .i64 vk, .int .i64 vn]] w fun e w' => e = .returned (.bool false) ∧ Below w.heap.size w w' := by
  have hForm : ∀ W : World, Calls Try.prog 57 #[.int .i64 k] W fun e w' => ∃ A c, e = .returned (.slice A 0 c) ∧ Below W.heap.size W w' := fun W => by
    refine (spec_l2Form.calls 3 k (formL k) W (form_eq k)).mono ?_
    rintro e w' ⟨v, rfl, hR, hb⟩
    have : formL k = [] := if_neg hk
    rw [this] at hR
    obtain ⟨A, c, rfl⟩ := Kd.R_slice hR
    exact ⟨A, c, rfl, hb⟩
  clear hk
  have HB := Aside0.mk (Below.refl w.heap.size w)
  go_enter Try.func23, Try.ntmps23
  go_wp2_with (go_at_call 57; refine (hForm _).mono ?_; rintro e w' ⟨A, c, rfl, hb⟩)
  go_ret
  exact ⟨rfl, below_step (below_alloc (Below.refl _ _) _) hb⟩
theorem spec_OpOk.calls (k r s t vk vn : Int) (b : Bool) (w : World) (h : opV.f k r s t vk vn = some b) :
    Calls Try.prog 23 #[.agg #[.int .i64 k, .int .i64 r, .int .i64 s, .int .i64 t, .int .i64 vk, .int .i64 vn]] w fun e w' => e = .returned (.bool b) ∧ Below w.heap.size w w' := by
  obtain rfl := Option.some.inj h
  by_cases hk : 1 ≤ k ∧ k ≤ 14
  rotate_left
  · rw [opB_bad (.inl hk)]; exact specOp_none k r s t vk vn w hk
  have hForm := fun W => form_calls hk W
  have hVal := fun W => spec_ValOk.calls vk vn (okB vk vn) W (sok_eq vk vn)
  by_cases hv : okP vk vn
  rotate_left
  · rw [opB_bad (.inr (fun g => hv g.1))]
    exact specOp_bad k r s t vk vn w false _ _ _ _ (okB vk vn) hForm hVal ⟨okB_false.2 hv⟩ ⟨rfl⟩
  have hvb : Aside0 (okB vk vn = true) := ⟨okB_true.2 hv⟩
  by_cases h8 : k = 8
  · by_cases h1 : vk = 1
    · by_cases hn : 1 ≤ vn
      · subst h8; subst h1; exact specOp_8 r s t vn w _ _ _ _ _ _ hForm hVal hn hvb ⟨opB_form 8 r s t 1 vn hk ⟨hv, fun _ => ⟨rfl, hn⟩, fun e => by omega⟩⟩
      · rw [opB_bad (.inr (fun g => hn (g.2.1 h8).2))]
        subst h8; subst h1; exact specOp_8n r s t vn w false _ _ _ _ _ hForm hVal (by omega) (decide_eq_true (by omega)) hvb ⟨rfl⟩
    · rw [opB_bad (.inr (fun g => h1 (g.2.1 h8).1))]
      subst h8; exact specOp_8k r s t vk vn w false _ _ _ _ _ hForm hVal (by simpa using h1) (by simpa using h1) hvb ⟨rfl⟩
  by_cases h13 : k = 13
  · by_cases h1 : vk = 1
    · by_cases hn : 0 ≤ vn ∧ vn ≤ 1
      · subst h13; subst h1; exact specOp_13 r s t vn w _ _ _ _ _ _ hForm hVal hn.1 hn.2 hvb ⟨opB_form 13 r s t 1 vn hk ⟨hv, fun e => by omega, fun _ => ⟨rfl, hn⟩⟩⟩
      · rw [opB_bad (.inr (fun g => hn (g.2.2 h13).2))]
        subst h13; subst h1; exact specOp_13n r s t vn w false _ _ _ _ _ hForm hVal ⟨decide_eq_false hn⟩ hvb ⟨rfl⟩
    · rw [opB_bad (.inr (fun g => h1 (g.2.2 h13).1))]
      subst h13; exact specOp_13k r s t vk vn w false _ _ _ _ _ hForm hVal (by simpa using h1) (by simpa using h1) hvb ⟨rfl⟩
  exact specOp_main k r s t vk vn w _ _ _ _ _ _ hForm hVal (by simpa using h8) (by simpa using h13) hvb ⟨opB_form k r s t vk vn hk ⟨hv, fun e => absurd e h8, fun e => absurd e h13⟩⟩
end Go.Proofs.Ytmklpbmlgjkbiaa.PS
end
section
namespace Go.Proofs.Ytmklpbmlgjkbiaa.PS
open Go.RowKit Go.Proofs.YtmklpbmlgjkbiaaW.PrintWords Go.Proofs.YtmklpbmlgjkbiaaW.PrintLast Go.Proofs.YtmklpbmlgjkbiaaW.PrintMore
attribute [local go_sem] max2_int min2_int max_two min_two max_three min_three max_four min_four   -- for this text's walks alone
mutual
def spec_l2Uses.j0 : Nat → Int → Bool → Int → Int → Int → Int → Int → Int → Option (List Int)
 | 0, _, _, _, _, _, _, _, _ => none
 | k + 1, x4, x10, x110000, x110001, x110002, x110003, x110004, x110005 => if x10 = true then (some (([x110001, x110002] : List Int))) else (if x4 = 10 then (spec_l2Uses.j1 k (x4 == 10) x110000 x110001 x110002 x110003 x110004 x110005) else (if x4 = 11 then (spec_l2Uses.j1 k (x4 == 11) x110000 x110001 x110002 x110003 x110004 x110005) else (if x4 = 12 then (spec_l2Uses.j1 k (x4 == 12) x110000 x110001 x110002 x110003 x110004 x110005) else (spec_l2Uses.j1 k (x4 == 14) x110000 x110001 x110002 x110003 x110004 x110005))))
def spec_l2Uses.j1 : Nat → Bool → Int → Int → Int → Int → Int → Int → Option (List Int)
 | 0, _, _, _, _, _, _, _ => none
 | k + 1, x18, x110000, x110001, x110002, x110003, x110004, x110005 => if x18 = true then (some (([x110001] : List Int))) else (some (([] : List Int)))
end
def spec_l2Uses.f (k : Nat) (a0_0 : Int) (a0_1 : Int) (a0_2 : Int) (a0_3 : Int) (a0_4 : Int) (a0_5 : Int) : Option (List Int) := if a0_0 = 2 then (some (([a0_2] : List Int))) else (if a0_0 = 3 then (spec_l2Uses.j0 k a0_0 (a0_0 == 3) a0_0 a0_1 a0_2 a0_3 a0_4 a0_5) else (spec_l2Uses.j0 k a0_0 (a0_0 == 6) a0_0 a0_1 a0_2 a0_3 a0_4 a0_5))
theorem spec_l2Uses.mono_l : ∀ k, (∀ y0 y1 y2 y3 y4 y5 y6 y7, LeO (spec_l2Uses.j0 k y0 y1 y2 y3 y4 y5 y6 y7) (spec_l2Uses.j0 (k + 1) y0 y1 y2 y3 y4 y5 y6 y7)) ∧ (∀ y0 y1 y2 y3 y4 y5 y6, LeO (spec_l2Uses.j1 k y0 y1 y2 y3 y4 y5 y6) (spec_l2Uses.j1 (k + 1) y0 y1 y2 y3 y4 y5 y6))
 | 0 => ⟨fun _ _ _ _ _ _ _ _ r h => by simp [spec_l2Uses.j0] at h, fun _ _ _ _ _ _ _ r h => by simp [spec_l2Uses.j1] at h⟩
 | k + 1 => by
  obtain ⟨ih0, ih1⟩ := spec_l2Uses.mono_l k
  refine ⟨?_, ?_⟩
  ·intro y0 y1 y2 y3 y4 y5 y6 y7
   unfold spec_l2Uses.j0
   repeat' first
   | (with_reducible exact ih0 _ _ _ _ _ _ _ _)
   | (with_reducible exact ih1 _ _ _ _ _ _ _)
   | (with_reducible exact LeO.refl _)
   | (with_reducible exact LeO.none _)
   | (with_reducible refine LeO.ite ?_ ?_)
   | (with_reducible refine LeO.bind ?_ (fun _ => ?_))
   | exact ih0 _ _ _ _ _ _ _ _
   | exact ih1 _ _ _ _ _ _ _
   | exact LeO.none _
   | refine LeO.ite ?_ ?_
   | refine LeO.bind ?_ (fun _ => ?_)
  ·intro y0 y1 y2 y3 y4 y5 y6
   unfold spec_l2Uses.j1
   repeat' first
   | (with_reducible exact ih0 _ _ _ _ _ _ _ _)
   | (with_reducible exact ih1 _ _ _ _ _ _ _)
   | (with_reducible exact LeO.refl _)
   | (with_reducible exact LeO.none _)
   | (with_reducible refine LeO.ite ?_ ?_)
   | (with_reducible refine LeO.bind ?_ (fun _ => ?_))
   | exact ih0 _ _ _ _ _ _ _ _
   | exact ih1 _ _ _ _ _ _ _
   | exact LeO.none _
   | refine LeO.ite ?_ ?_
   | refine LeO.bind ?_ (fun _ => ?_)
theorem spec_l2Uses.mono : ∀ a0 a1 a2 a3 a4 a5 k, LeO (spec_l2Uses.f k a0 a1 a2 a3 a4 a5) (spec_l2Uses.f (k + 1) a0 a1 a2 a3 a4 a5) := by
 intro a0 a1 a2 a3 a4 a5 k
 obtain ⟨ih0, ih1⟩ := spec_l2Uses.mono_l k
 unfold spec_l2Uses.f
 repeat' first
   | (with_reducible exact ih0 _ _ _ _ _ _ _ _)
   | (with_reducible exact ih1 _ _ _ _ _ _ _)
   | (with_reducible exact LeO.refl _)
   | (with_reducible exact LeO.none _)
   | (with_reducible refine LeO.ite ?_ ?_)
   | (with_reducible refine LeO.bind ?_ (fun _ => ?_))
   | exact ih0 _ _ _ _ _ _ _ _
   | exact ih1 _ _ _ _ _ _ _
   | exact LeO.none _
   | refine LeO.ite ?_ ?_
   | refine LeO.bind ?_ (fun _ => ?_)
theorem spec_l2Uses.calls (k : Nat) (a0_0 : Int) (a0_1 : Int) (a0_2 : Int) (a0_3 : Int) (a0_4 : Int) (a0_5 : Int) (r : List Int) (w : World) (h : spec_l2Uses.f k a0_0 a0_1 a0_2 a0_3 a0_4 a0_5 = some r) :
  Calls Try.prog 68 #[.agg #[.int .i64 a0_0, .int .i64 a0_1, .int .i64 a0_2, .int .i64 a0_3, .int .i64 a0_4, .int .i64 a0_5]] w fun e w' => ∃ v0_ : Value, e = .returned (v0_) ∧ Kd.R (Kd.int .i64) 3 w' w.heap.size (fun _ => True) v0_ r ∧ Below w.heap.size w w' := by
 have hu29 := Try.underlying29
 have HB := Aside0.mk (Below.refl w.heap.size w)
 have H : (if a0_0 = 2 then (some (([a0_2] : List Int))) else (if a0_0 = 3 then (spec_l2Uses.j0 k a0_0 (a0_0 == 3) a0_0 a0_1 a0_2 a0_3 a0_4 a0_5) else (spec_l2Uses.j0 k a0_0 (a0_0 == 6) a0_0 a0_1 a0_2 a0_3 a0_4 a0_5))) = some r := h
 clear h
 by_cases c2 : a0_0 = 2
 ·rw [if_pos c2] at H
  have c2b0 : (a0_0 == 2) = true := beq_iff_eq.mpr c2
  have c2b1 : (a0_0 != 2) = false := bne_eq_false_iff_eq.mpr c2
  clear c2
  obtain ⟨y110, hy110⟩ : ∃ y_ : List Int, y_ = (([a0_2] : List Int)) := ⟨_, rfl⟩
  replace H : (some y110) = some r := by first | (rw [hy110]; with_reducible exact H) | (have H2_ := (Option.bind_some _ _).symm.trans H; rw [hy110]; with_reducible exact H2_) | (have H2_ := (Option.bind_some _ _).symm.trans H; with_reducible exact H2_) | with_reducible exact H | (rw [hy110]; exact H) | exact H
  have Ny110 := Aside0.mk hy110
  clear hy110
  obtain rfl := Option.some.inj H
  go_enter Try.func68, Try.ntmps68
  go_wp2_with (first | ((with_reducible refine gate_dst (N := 1) rfl ?_); refine box_event ?hg (N := 1) ?hd (cs := #[.int .i64 a0_0, .int .i64 a0_1, .int .i64 a0_2, .int .i64 a0_3, .int .i64 a0_4, .int .i64 a0_5]) (t := 29) ?hr ?_; (case hd => rfl); (case hg => rfl); (case hr => first | (go_simp; done) | (go_simp; rfl)); intro gb109 hg w3 hbox hb; have n0_ := Aside0.mk (below_step (by exact bU HB.out) hb); have n1_ := Aside0.mk (hbox); have n2_ := Aside0.mk ((by rw [hg]; exact (below_size (by exact bU HB.out)) : w.heap.size ≤ gb109)); have n3_ := Aside0.mk ((by rw [hg]; exact (below_size (by exact bU HB.out)) : w.heap.size ≤ gb109)); clear HB; have HB := n0_; have BK109 := n1_; have GW109 := n2_; have GE109 := n3_; clear n0_ n1_ n2_ n3_; clear hb hbox hg; obtain ⟨hcz4_0, hcz4_1, hcz4_2, hcz4_3, hcz4_4, hcz4_5⟩ := six_cells BK109.out; obtain ⟨hfz4_0, hfz4_1, hfz4_2, hfz4_3, hfz4_4, hfz4_5⟩ := six_marks BK109.out) | ((with_reducible refine gate_dst (N := 9) rfl ?_); refine Kd.R_lit (Kd.int .i64) _ 3 ?hg (N := 9) ?hd (xs := ([a0_2] : List Int)) (inner := [.int .i64 a0_2]) (ok := fun _ => True) (okp := fun _ => True) ?hr ?hp (fun _ hk => hk) trivial (Below.refl _ _) (Nat.le_refl _) (by simp) ?_; (case hd => rfl); (case hg => rfl); (case hr => first | (go_simp; done) | (go_simp; rfl)); (case hp => exact (Reps.one (show Kd.M (Kd.int .i64) _ _ _ a0_2 [.int .i64 a0_2] from rfl) (Reps.none _ _))); intro v111 w5 ho6 hb hg_ hnew_; clear hg_ hnew_; (first | rw [← Ny110.out] at ho6 | (simp only [Int.reduceToNat] at ho6; rw [← Ny110.out] at ho6)); have HO112 := Aside0.mk (Kd.R_lower ho6 (below_size (by repeat (with_reducible first | exact HB.out | apply bA | apply bN | apply b1 | refine below_set ?_ GE109.out)))); replace BK109 := Aside0.mk (blk_below (g := gb109) (o := .cells #[.int .i64 a0_0, .int .i64 a0_1, .int .i64 a0_2, .int .i64 a0_3, .int .i64 a0_4, .int .i64 a0_5] 29 (0, 0)) (by exact blkU BK109.out) hb); replace HB := Aside0.mk (below_step (by repeat (with_reducible first | exact HB.out | apply bA | apply bN | apply b1 | refine below_set ?_ GE109.out)) hb); clear hb ho6))
  go_ret
  exact ⟨_, by first | rfl | (simp [errW_none, errW_some] <;> rfl) | (simp [*, errW_none, errW_some] <;> rfl), by exact rU HO112.out, by repeat (with_reducible first | exact HB.out | apply bA | apply bN | apply b1 | refine below_set ?_ GE109.out)⟩
 ·rw [if_neg c2] at H
  have c2b0 : (a0_0 == 2) = false := beq_eq_false_iff_ne.mpr c2
  have c2b1 : (a0_0 != 2) = true := bne_iff_ne.mpr c2
  have HC7 := Aside0.mk H
  clear H
  go_enter Try.func68, Try.ntmps68
  go_upto_if 10 with (first | ((with_reducible refine gate_dst (N := 1) rfl ?_); refine box_event ?hg (N := 1) ?hd (cs := #[.int .i64 a0_0, .int .i64 a0_1, .int .i64 a0_2, .int .i64 a0_3, .int .i64 a0_4, .int .i64 a0_5]) (t := 29) ?hr ?_; (case hd => rfl); (case hg => rfl); (case hr => first | (go_simp; done) | (go_simp; rfl)); intro gb109 hg w8 hbox hb; have n0_ := Aside0.mk (below_step (by exact bU HB.out) hb); have n1_ := Aside0.mk (hbox); have n2_ := Aside0.mk ((by rw [hg]; exact (below_size (by exact bU HB.out)) : w.heap.size ≤ gb109)); have n3_ := Aside0.mk ((by rw [hg]; exact (below_size (by exact bU HB.out)) : w.heap.size ≤ gb109)); clear HB; have HB := n0_; have BK109 := n1_; have GW109 := n2_; have GE109 := n3_; clear n0_ n1_ n2_ n3_; clear hb hbox hg; obtain ⟨hcz9_0, hcz9_1, hcz9_2, hcz9_3, hcz9_4, hcz9_5⟩ := six_cells BK109.out; obtain ⟨hfz9_0, hfz9_1, hfz9_2, hfz9_3, hfz9_4, hfz9_5⟩ := six_marks BK109.out))
  (try simp only [Act.put, List.setIfInBounds_toArray, List.set_cons_zero, List.set_cons_succ])
  go_cut [10] (fun v10 wc => ∃ (kq : Nat) (x10_6 : Bool), v10 = .bool x10_6 ∧ Aside0 (spec_l2Uses.j0 kq a0_0 x10_6 a0_0 a0_1 a0_2 a0_3 a0_4 a0_5 = some r) ∧ Aside0 (kq ≤ k) ∧ Aside0 (wc.heap[gb109]? = some (.cells #[.int .i64 a0_0, .int .i64 a0_1, .int .i64 a0_2, .int .i64 a0_3, .int .i64 a0_4, .int .i64 a0_5] 29 (0, 0))) ∧ Aside0 (Below w.heap.size w wc))
  case first =>
   have H := HC7.out
   clear HC7
   by_cases c10 : a0_0 = 3
   ·rw [if_pos c10] at H
    have c10b0 : (a0_0 == 3) = true := beq_iff_eq.mpr c10
    have c10b1 : (a0_0 != 3) = false := bne_eq_false_iff_eq.mpr c10
    clear c10
    (first | rw [c10b0] | (simp only [i64_w, i32_w]; rw [c10b0]) | skip)
    have H' := Aside0.mk H
    clear H
    go_wp2
    go_meet
    case rel => exact ⟨_, ((a0_0 == 3)), (by first | rfl | (simp; done) | (simp [*]; done)), H', ⟨by first | omega | exact Nat.le_refl _⟩, ⟨by exact blkU BK109.out⟩, ⟨by repeat (with_reducible first | exact HB.out | apply bA | apply bN | apply b1 | refine below_set ?_ GE109.out)⟩⟩
   ·rw [if_neg c10] at H
    have c10b0 : (a0_0 == 3) = false := beq_eq_false_iff_ne.mpr c10
    have c10b1 : (a0_0 != 3) = true := bne_iff_ne.mpr c10
    (first | rw [c10b0] | (simp only [i64_w, i32_w]; rw [c10b0]) | skip)
    have H' := Aside0.mk H
    clear H
    go_wp2
    go_meet
    case rel => exact ⟨_, ((a0_0 == 6)), (by first | rfl | (simp; done) | (simp [*]; done)), H', ⟨by first | omega | exact Nat.le_refl _⟩, ⟨by exact blkU BK109.out⟩, ⟨by repeat (with_reducible first | exact HB.out | apply bA | apply bN | apply b1 | refine below_set ?_ GE109.out)⟩⟩
  case rest =>
   clear HC7
   (try clear c1); (try clear c2); (try clear c2b0); (try clear c2b1); (try clear p2); (try clear c6); (try clear c10); (try clear c10b0); (try clear c10b1); (try clear hcz4_0); (try clear hcz4_1); (try clear hcz4_2); (try clear hcz4_3); (try clear hcz4_4); (try clear hcz4_5); (try clear hcz9_0); (try clear hcz9_1); (try clear hcz9_2); (try clear hcz9_3); (try clear hcz9_4); (try clear hcz9_5); (try clear hfz4_0); (try clear hfz4_1); (try clear hfz4_2); (try clear hfz4_3); (try clear hfz4_4); (try clear hfz4_5); (try clear hfz9_0); (try clear hfz9_1); (try clear hfz9_2); (try clear hfz9_3); (try clear hfz9_4); (try clear hfz9_5)
   obtain ⟨kq, x10_6, rfl, HA, HJ6, BK109, HB⟩ := hcut
   cases kq with
   | zero => exact absurd HA.out (by simp [spec_l2Uses.j0])
   | succ kj6 =>
    have H := HA.out
    clear HA
    simp only [spec_l2Uses.j0] at H
    by_cases c11 : x10_6 = true
    ·subst c11
     have H1 : (some (([a0_1, a0_2] : List Int))) = some r := by rw [if_pos rfl] at H; exact H
     clear H
     have H := H1
     clear H1
     obtain ⟨y113, hy113⟩ : ∃ y_ : List Int, y_ = (([a0_1, a0_2] : List Int)) := ⟨_, rfl⟩
     replace H : (some y113) = some r := by first | (rw [hy113]; with_reducible exact H) | (have H2_ := (Option.bind_some _ _).symm.trans H; rw [hy113]; with_reducible exact H2_) | (have H2_ := (Option.bind_some _ _).symm.trans H; with_reducible exact H2_) | with_reducible exact H | (rw [hy113]; exact H) | exact H
     have Ny113 := Aside0.mk hy113
     clear hy113
     obtain rfl := Option.some.inj H
     have hcz12_0 : wc.cell? ⟨gb109, 0, none⟩ = some (.int .i64 a0_0) := (blk_cell BK109.out 0).trans rfl
     have hcz12_1 : wc.cell? ⟨gb109, 1, none⟩ = some (.int .i64 a0_1) := (blk_cell BK109.out 1).trans rfl
     have hcz12_2 : wc.cell? ⟨gb109, 2, none⟩ = some (.int .i64 a0_2) := (blk_cell BK109.out 2).trans rfl
     have hcz12_3 : wc.cell? ⟨gb109, 3, none⟩ = some (.int .i64 a0_3) := (blk_cell BK109.out 3).trans rfl
     have hcz12_4 : wc.cell? ⟨gb109, 4, none⟩ = some (.int .i64 a0_4) := (blk_cell BK109.out 4).trans rfl
     have hcz12_5 : wc.cell? ⟨gb109, 5, none⟩ = some (.int .i64 a0_5) := (blk_cell BK109.out 5).trans rfl
     have hfz12_0 := blk_frozen BK109.out 0
     have hfz12_1 := blk_frozen BK109.out 1
     have hfz12_2 := blk_frozen BK109.out 2
     have hfz12_3 := blk_frozen BK109.out 3
     have hfz12_4 := blk_frozen BK109.out 4
     have hfz12_5 := blk_frozen BK109.out 5
     go_wp2_with (first | ((with_reducible refine gate_dst (N := 17) rfl ?_); refine Kd.R_lit (Kd.int .i64) _ 3 ?hg (N := 17) ?hd (xs := ([a0_1, a0_2] : List Int)) (inner := [.int .i64 a0_1, .int .i64 a0_2]) (ok := fun _ => True) (okp := fun _ => True) ?hr ?hp (fun _ hk => hk) trivial (Below.refl _ _) (Nat.le_refl _) (by simp) ?_; (case hd => rfl); (case hg => rfl); (case hr => first | (go_simp; done) | (go_simp; rfl)); (case hp => exact (Reps.one (show Kd.M (Kd.int .i64) _ _ _ a0_1 [.int .i64 a0_1] from rfl) (Reps.one (show Kd.M (Kd.int .i64) _ _ _ a0_2 [.int .i64 a0_2] from rfl) (Reps.none _ _)))); intro v114 w13 ho14 hb hg_ hnew_; clear hg_ hnew_; (first | rw [← Ny113.out] at ho14 | (simp only [Int.reduceToNat] at ho14; rw [← Ny113.out] at ho14)); have HO115 := Aside0.mk (Kd.R_lower ho14 (below_size (by repeat (with_reducible first | exact HB.out | apply bA | apply bN | apply b1 | refine below_set ?_ GE109.out)))); replace BK109 := Aside0.mk (blk_below (g := gb109) (o := .cells #[.int .i64 a0_0, .int .i64 a0_1, .int .i64 a0_2, .int .i64 a0_3, .int .i64 a0_4, .int .i64 a0_5] 29 (0, 0)) (by exact blkU BK109.out) hb); replace HB := Aside0.mk (below_step (by repeat (with_reducible first | exact HB.out | apply bA | apply bN | apply b1 | refine below_set ?_ GE109.out)) hb); clear hb ho14))
     go_ret
     exact ⟨_, by first | rfl | (simp [errW_none, errW_some] <;> rfl) | (simp [*, errW_none, errW_some] <;> rfl), by exact rU HO115.out, by repeat (with_reducible first | exact HB.out | apply bA | apply bN | apply b1 | refine below_set ?_ GE109.out)⟩
    ·replace c11 := Bool.eq_false_iff.mpr c11
     subst c11
     have H1 : (if a0_0 = 10 then (spec_l2Uses.j1 kj6 (a0_0 == 10) a0_0 a0_1 a0_2 a0_3 a0_4 a0_5) else (if a0_0 = 11 then (spec_l2Uses.j1 kj6 (a0_0 == 11) a0_0 a0_1 a0_2 a0_3 a0_4 a0_5) else (if a0_0 = 12 then (spec_l2Uses.j1 kj6 (a0_0 == 12) a0_0 a0_1 a0_2 a0_3 a0_4 a0_5) else (spec_l2Uses.j1 kj6 (a0_0 == 14) a0_0 a0_1 a0_2 a0_3 a0_4 a0_5)))) = some r := by rw [if_neg (show ¬ (false = true) by decide)] at H; exact H
     clear H
     have H := H1
     clear H1
     have HC15 := Aside0.mk H
     clear H
     go_upto_if 18 with (fail)
     go_cut [18] (fun v18 wc => ∃ (kq : Nat) (x18_14 : Bool), v18 = .bool x18_14 ∧ Aside0 (spec_l2Uses.j1 kq x18_14 a0_0 a0_1 a0_2 a0_3 a0_4 a0_5 = some r) ∧ Aside0 (kq ≤ kj6) ∧ Aside0 (wc.heap[gb109]? = some (.cells #[.int .i64 a0_0, .int .i64 a0_1, .int .i64 a0_2, .int .i64 a0_3, .int .i64 a0_4, .int .i64 a0_5] 29 (0, 0))) ∧ Aside0 (Below w.heap.size w wc))
     case first =>
      have H := HC15.out
      clear HC15
      by_cases c16 : a0_0 = 10
      ·rw [if_pos c16] at H
       have c16b0 : (a0_0 == 10) = true := beq_iff_eq.mpr c16
       have c16b1 : (a0_0 != 10) = false := bne_eq_false_iff_eq.mpr c16
       clear c16
       (first | rw [c16b0] | (simp only [i64_w, i32_w]; rw [c16b0]) | skip)
       have H' := Aside0.mk H
       clear H
       go_wp2
       go_meet
       case rel => exact ⟨_, ((a0_0 == 10)), (by first | rfl | (simp; done) | (simp [*]; done)), H', ⟨by have := HJ6.out; first | omega | exact Nat.le_refl _⟩, ⟨by exact blkU BK109.out⟩, ⟨by repeat (with_reducible first | exact HB.out | apply bA | apply bN | apply b1 | refine below_set ?_ GE109.out)⟩⟩
      ·rw [if_neg c16] at H
       have c16b0 : (a0_0 == 10) = false := beq_eq_false_iff_ne.mpr c16
       have c16b1 : (a0_0 != 10) = true := bne_iff_ne.mpr c16
       (first | rw [c16b0] | (simp only [i64_w, i32_w]; rw [c16b0]) | skip)
       by_cases c17 : a0_0 = 11
       ·rw [if_pos c17] at H
        have c17b0 : (a0_0 == 11) = true := beq_iff_eq.mpr c17
        have c17b1 : (a0_0 != 11) = false := bne_eq_false_iff_eq.mpr c17
        clear c17
        have H' := Aside0.mk H
        clear H
        go_wp2
        go_meet
        case rel => exact ⟨_, ((a0_0 == 11)), (by first | rfl | (simp; done) | (simp [*]; done)), H', ⟨by have := HJ6.out; first | omega | exact Nat.le_refl _⟩, ⟨by exact blkU BK109.out⟩, ⟨by repeat (with_reducible first | exact HB.out | apply bA | apply bN | apply b1 | refine below_set ?_ GE109.out)⟩⟩
       ·rw [if_neg c17] at H
        have c17b0 : (a0_0 == 11) = false := beq_eq_false_iff_ne.mpr c17
        have c17b1 : (a0_0 != 11) = true := bne_iff_ne.mpr c17
        by_cases c18 : a0_0 = 12
        ·rw [if_pos c18] at H
         have c18b0 : (a0_0 == 12) = true := beq_iff_eq.mpr c18
         have c18b1 : (a0_0 != 12) = false := bne_eq_false_iff_eq.mpr c18
         clear c18
         have H' := Aside0.mk H
         clear H
         go_wp2
         go_meet
         case rel => exact ⟨_, ((a0_0 == 12)), (by first | rfl | (simp; done) | (simp [*]; done)), H', ⟨by have := HJ6.out; first | omega | exact Nat.le_refl _⟩, ⟨by exact blkU BK109.out⟩, ⟨by repeat (with_reducible first | exact HB.out | apply bA | apply bN | apply b1 | refine below_set ?_ GE109.out)⟩⟩
        ·rw [if_neg c18] at H
         have c18b0 : (a0_0 == 12) = false := beq_eq_false_iff_ne.mpr c18
         have c18b1 : (a0_0 != 12) = true := bne_iff_ne.mpr c18
         have H' := Aside0.mk H
         clear H
         go_wp2
         go_meet
         case rel => exact ⟨_, ((a0_0 == 14)), (by first | rfl | (simp; done) | (simp [*]; done)), H', ⟨by have := HJ6.out; first | omega | exact Nat.le_refl _⟩, ⟨by exact blkU BK109.out⟩, ⟨by repeat (with_reducible first | exact HB.out | apply bA | apply bN | apply b1 | refine below_set ?_ GE109.out)⟩⟩
     case rest =>
      clear HC15
      (try clear c1); (try clear c2); (try clear c2b0); (try clear c2b1); (try clear p2); (try clear c6); (try clear c10); (try clear c10b0); (try clear c10b1); (try clear c11); (try clear c16); (try clear c16b0); (try clear c16b1); (try clear c17); (try clear c17b0); (try clear c17b1); (try clear c18); (try clear c18b0); (try clear c18b1); (try clear hcz12_0); (try clear hcz12_1); (try clear hcz12_2); (try clear hcz12_3); (try clear hcz12_4); (try clear hcz12_5); (try clear hcz4_0); (try clear hcz4_1); (try clear hcz4_2); (try clear hcz4_3); (try clear hcz4_4); (try clear hcz4_5); (try clear hcz9_0); (try clear hcz9_1); (try clear hcz9_2); (try clear hcz9_3); (try clear hcz9_4); (try clear hcz9_5); (try clear hfz12_0); (try clear hfz12_1); (try clear hfz12_2); (try clear hfz12_3); (try clear hfz12_4); (try clear hfz12_5); (try clear hfz4_0); (try clear hfz4_1); (try clear hfz4_2); (try clear hfz4_3); (try clear hfz4_4); (try clear hfz4_5); (try clear hfz9_0); (try clear hfz9_1); (try clear hfz9_2); (try clear hfz9_3); (try clear hfz9_4); (try clear hfz9_5); (try clear p2)
      obtain ⟨kq, x18_14, rfl, HA, HJ14, BK109, HB⟩ := hcut
      cases kq with
      | zero => exact absurd HA.out (by simp [spec_l2Uses.j1])
      | succ kj14 =>
       have H := HA.out
       clear HA
       simp only [spec_l2Uses.j1] at H
       by_cases c19 : x18_14 = true
       ·subst c19
        have H1 : (some (([a0_1] : List Int))) = some r := by rw [if_pos rfl] at H; exact H
        clear H
        have H := H1
        clear H1
        obtain ⟨y116, hy116⟩ : ∃ y_ : List Int, y_ = (([a0_1] : List Int)) := ⟨_, rfl⟩
        replace H : (some y116) = some r := by first | (rw [hy116]; with_reducible exact H) | (have H2_ := (Option.bind_some _ _).symm.trans H; rw [hy116]; with_reducible exact H2_) | (have H2_ := (Option.bind_some _ _).symm.trans H; with_reducible exact H2_) | with_reducible exact H | (rw [hy116]; exact H) | exact H
        have Ny116 := Aside0.mk hy116
        clear hy116
        obtain rfl := Option.some.inj H
        have hcz20_0 : wc.cell? ⟨gb109, 0, none⟩ = some (.int .i64 a0_0) := (blk_cell BK109.out 0).trans rfl
        have hcz20_1 : wc.cell? ⟨gb109, 1, none⟩ = some (.int .i64 a0_1) := (blk_cell BK109.out 1).trans rfl
        have hcz20_2 : wc.cell? ⟨gb109, 2, none⟩ = some (.int .i64 a0_2) := (blk_cell BK109.out 2).trans rfl
        have hcz20_3 : wc.cell? ⟨gb109, 3, none⟩ = some (.int .i64 a0_3) := (blk_cell BK109.out 3).trans rfl
        have hcz20_4 : wc.cell? ⟨gb109, 4, none⟩ = some (.int .i64 a0_4) := (blk_cell BK109.out 4).trans rfl
        have hcz20_5 : wc.cell? ⟨gb109, 5, none⟩ = some (.int .i64 a0_5) := (blk_cell BK109.out 5).trans rfl
        have hfz20_0 := blk_frozen BK109.out 0
        have hfz20_1 := blk_frozen BK109.out 1
        have hfz20_2 := blk_frozen BK109.out 2
        have hfz20_3 := blk_frozen BK109.out 3
        have hfz20_4 := blk_frozen BK109.out 4
        have hfz20_5 := blk_frozen BK109.out 5
        go_wp2_with (first | ((with_reducible refine gate_dst (N := 25) rfl ?_); refine Kd.R_lit (Kd.int .i64) _ 3 ?hg (N := 25) ?hd (xs := ([a0_1] : List Int)) (inner := [.int .i64 a0_1]) (ok := fun _ => True) (okp := fun _ => True) ?hr ?hp (fun _ hk => hk) trivial (Below.refl _ _) (Nat.le_refl _) (by simp) ?_; (case hd => rfl); (case hg => rfl); (case hr => first | (go_simp; done) | (go_simp; rfl)); (case hp => exact (Reps.one (show Kd.M (Kd.int .i64) _ _ _ a0_1 [.int .i64 a0_1] from rfl) (Reps.none _ _))); intro v117 w21 ho22 hb hg_ hnew_; clear hg_ hnew_; (first | rw [← Ny116.out] at ho22 | (simp only [Int.reduceToNat] at ho22; rw [← Ny116.out] at ho22)); have HO118 := Aside0.mk (Kd.R_lower ho22 (below_size (by repeat (with_reducible first | exact HB.out | apply bA | apply bN | apply b1 | refine below_set ?_ GE109.out)))); replace BK109 := Aside0.mk (blk_below (g := gb109) (o := .cells #[.int .i64 a0_0, .int .i64 a0_1, .int .i64 a0_2, .int .i64 a0_3, .int .i64 a0_4, .int .i64 a0_5] 29 (0, 0)) (by exact blkU BK109.out) hb); replace HB := Aside0.mk (below_step (by repeat (with_reducible first | exact HB.out | apply bA | apply bN | apply b1 | refine below_set ?_ GE109.out)) hb); clear hb ho22))
        go_ret
        exact ⟨_, by first | rfl | (simp [errW_none, errW_some] <;> rfl) | (simp [*, errW_none, errW_some] <;> rfl), by exact rU HO118.out, by repeat (with_reducible first | exact HB.out | apply bA | apply bN | apply b1 | refine below_set ?_ GE109.out)⟩
       ·replace c19 := Bool.eq_false_iff.mpr c19
        subst c19
        have H1 : (some (([] : List Int))) = some r := by rw [if_neg (show ¬ (false = true) by decide)] at H; exact H
        clear H
        have H := H1
        clear H1
        obtain ⟨y119, hy119⟩ : ∃ y_ : List Int, y_ = (([] : List Int)) := ⟨_, rfl⟩
        replace H : (some y119) = some r := by first | (rw [hy119]; with_reducible exact H) | (have H2_ := (Option.bind_some _ _).symm.trans H; rw [hy119]; with_reducible exact H2_) | (have H2_ := (Option.bind_some _ _).symm.trans H; with_reducible exact H2_) | with_reducible exact H | (rw [hy119]; exact H) | exact H
        have Ny119 := Aside0.mk hy119
        clear hy119
        obtain rfl := Option.some.inj H
        go_wp2_with (first | ((with_reducible refine gate_dst (N := 26) rfl ?_); refine Kd.R_lit (Kd.int .i64) _ 3 ?hg (N := 26) ?hd (xs := ([] : List Int)) (inner := []) (ok := fun _ => True) (okp := fun _ => True) ?hr ?hp (fun _ hk => hk) trivial (Below.refl _ _) (Nat.le_refl _) (by simp) ?_; (case hd => rfl); (case hg => rfl); (case hr => first | (go_simp; done) | (go_simp; rfl)); (case hp => exact (Reps.none _ _)); intro v120 w23 ho24 hb hg_ hnew_; clear hg_ hnew_; (first | rw [← Ny119.out] at ho24 | (simp only [Int.reduceToNat] at ho24; rw [← Ny119.out] at ho24)); have HO121 := Aside0.mk (Kd.R_lower ho24 (below_size (by repeat (with_reducible first | exact HB.out | apply bA | apply bN | apply b1 | refine below_set ?_ GE109.out)))); replace BK109 := Aside0.mk (blk_below (g := gb109) (o := .cells #[.int .i64 a0_0, .int .i64 a0_1, .int .i64 a0_2, .int .i64 a0_3, .int .i64 a0_4, .int .i64 a0_5] 29 (0, 0)) (by exact blkU BK109.out) hb); replace HB := Aside0.mk (below_step (by repeat (with_reducible first | exact HB.out | apply bA | apply bN | apply b1 | refine below_set ?_ GE109.out)) hb); clear hb ho24))
        go_ret
        exact ⟨_, by first | rfl | (simp [errW_none, errW_some] <;> rfl) | (simp [*, errW_none, errW_some] <;> rfl), by exact rU HO121.out, by repeat (with_reducible first | exact HB.out | apply bA | apply bN | apply b1 | refine below_set ?_ GE109.out)⟩
end Go.Proofs.Ytmklpbmlgjkbiaa.PS
end
section
namespace Go.Proofs.Ytmklpbmlgjkbiaa.PS
open Go.RowKit Go.Proofs.YtmklpbmlgjkbiaaW.PrintWords Go.Proofs.YtmklpbmlgjkbiaaW.PrintLast
theorem w64 {x : Int} (h0 : -9223372036854775808 ≤ x) (h1 : x ≤ 9223372036854775807) : wrap64 x = x := by
  unfold wrap64; omega
theorem rd_at (l : List Int) (i : Nat) (h : i < l.length) : rd l (i : Int) = l[i] := by
  unfold rd; simp [List.getD_eq_getElem?_getD, List.getElem?_eq_getElem h]
end Go.Proofs.Ytmklpbmlgjkbiaa.PS
end
section
namespace Go.Proofs.Ytmklpbmlgjkbiaa.PS
open Go.RowKit Go.Proofs.YtmklpbmlgjkbiaaW.PrintWords Go.Proofs.YtmklpbmlgjkbiaaW.PrintLast Go.Proofs.YtmklpbmlgjkbiaaW.PrintMore
attribute [local go_sem] max2_int min2_int max_two min_two max_three min_three max_four min_four   -- for this text's walks alone
def spec_l71Val.j0 : Nat → List Int → Int → Int → Int → Option (Int × Int × Int)
 | 0, _, _, _, _ => none
 | k + 1, x1000, x1001, x175000, x175001 => (spec_l6Rd_pick.f k x1000 x1001 30).bind fun bt185 => (if bt185.1 = 0 then ((some (([(-100), 100, 10] : List Int) : List Int)).bind fun y187 => ((spec_l6Rd_pick.f k x1000 bt185.2 3).bind fun bt190 => (if 0 ≤ bt190.1 then (if bt190.1 < (y187.length : Int) then (some (x175000, rd y187 bt190.1, bt190.2)) else (none)) else (none)))) else (if bt185.1 = 1 then ((spec_l6Rd_pick.f k x1000 bt185.2 6).bind fun bt193 => (some (bt193.1, x175001, bt193.2))) else (some (x175000, x175001, bt185.2))))
def spec_l71Val.f (k : Nat) (s0_0 : List Int) (s0_1 : Int) : Option (Int × Int × Int) := (spec_l6Rd_pick.f k s0_0 s0_1 4).bind fun bt172 => (if bt172.1 = 1 then ((some (([0, 1, 2, 3, (-1), 7, 50, 99, (-99)] : List Int) : List Int)).bind fun y175 => ((spec_l6Rd_pick.f k s0_0 bt172.2 9).bind fun bt178 => (if 0 ≤ bt178.1 then (if bt178.1 < (y175.length : Int) then (spec_l71Val.j0 k s0_0 bt178.2 bt172.1 (rd y175 bt178.1)) else (none)) else (none)))) else (if bt172.1 = 2 then ((spec_l6Rd_pick.f k s0_0 bt172.2 5).bind fun bt181 => (spec_l71Val.j0 k s0_0 bt181.2 bt172.1 bt181.1)) else (if bt172.1 = 3 then ((spec_l6Rd_pick.f k s0_0 bt172.2 4).bind fun bt183 => (spec_l71Val.j0 k s0_0 bt183.2 bt172.1 (wrap64 (1 + bt183.1)))) else (spec_l71Val.j0 k s0_0 bt172.2 bt172.1 0))))
theorem spec_l71Val.mono_l : ∀ k, (∀ y0 y1 y2 y3, LeO (spec_l71Val.j0 k y0 y1 y2 y3) (spec_l71Val.j0 (k + 1) y0 y1 y2 y3))
 | 0 => fun _ _ _ _ r h => by simp [spec_l71Val.j0] at h
 | k + 1 => by
  have ih0 := spec_l71Val.mono_l k
  ·intro y0 y1 y2 y3
   unfold spec_l71Val.j0
   repeat' first
   | (with_reducible exact ih0 _ _ _ _)
   | (with_reducible exact spec_l6Rd_pick.mono _ _ _ _)
   | (with_reducible exact LeO.refl _)
   | (with_reducible exact LeO.none _)
   | (with_reducible refine LeO.ite ?_ ?_)
   | (with_reducible refine LeO.bind ?_ (fun _ => ?_))
   | exact ih0 _ _ _ _
   | exact spec_l6Rd_pick.mono _ _ _ _
   | exact LeO.none _
   | refine LeO.ite ?_ ?_
   | refine LeO.bind ?_ (fun _ => ?_)
theorem spec_l71Val.mono : ∀ a0 a1 k, LeO (spec_l71Val.f k a0 a1) (spec_l71Val.f (k + 1) a0 a1) := by
 intro a0 a1 k
 have ih0 := spec_l71Val.mono_l k
 unfold spec_l71Val.f
 repeat' first
   | (with_reducible exact ih0 _ _ _ _)
   | (with_reducible exact spec_l6Rd_pick.mono _ _ _ _)
   | (with_reducible exact LeO.refl _)
   | (with_reducible exact LeO.none _)
   | (with_reducible refine LeO.ite ?_ ?_)
   | (with_reducible refine LeO.bind ?_ (fun _ => ?_))
   | exact ih0 _ _ _ _
   | exact spec_l6Rd_pick.mono _ _ _ _
   | exact LeO.none _
   | refine LeO.ite ?_ ?_
   | refine LeO.bind ?_ (fun _ => ?_)
theorem spec_l71Val.calls (k : Nat) (g : Nat) (s0_0 : List Int) (s0_1 : Int) (r1 : Int) (r2 : Int) (r3 : Int) (w0 w : World) (hI : IsS84 w0 w g s0_0 s0_1) (hB : Below w0.heap.size w0 w) (h : spec_l71Val.f k s0_0 s0_1 = some (r1, r2, r3)) :
  Calls Try.prog 91 #[.pointer (some ⟨g, 0, none⟩)] w fun e w' => e = .returned (.agg #[.int .i64 r1, .int .i64 r2]) ∧ IsS84 w0 w' g s0_0 r3 ∧ Below w0.heap.size w0 w' ∧ KeepBut w w' g none := by
 have hu27 := Try.underlying27
 have HI0 := Aside0.mk hI
 have HK := Aside0.mk (KeepBut.refl w g none)
 have HL := Aside0.mk hB.size
 clear hI
 have HW0 := Aside0.mk hB.size
 have HB := Aside0.mk hB
 clear hB
 have H : ((spec_l6Rd_pick.f k s0_0 s0_1 4).bind fun bt172 => (if bt172.1 = 1 then ((some (([0, 1, 2, 3, (-1), 7, 50, 99, (-99)] : List Int) : List Int)).bind fun y175 => ((spec_l6Rd_pick.f k s0_0 bt172.2 9).bind fun bt178 => (if 0 ≤ bt178.1 then (if bt178.1 < (y175.length : Int) then (spec_l71Val.j0 k s0_0 bt178.2 bt172.1 (rd y175 bt178.1)) else (none)) else (none)))) else (if bt172.1 = 2 then ((spec_l6Rd_pick.f k s0_0 bt172.2 5).bind fun bt181 => (spec_l71Val.j0 k s0_0 bt181.2 bt172.1 bt181.1)) else (if bt172.1 = 3 then ((spec_l6Rd_pick.f k s0_0 bt172.2 4).bind fun bt183 => (spec_l71Val.j0 k s0_0 bt183.2 bt172.1 (wrap64 (1 + bt183.1)))) else (spec_l71Val.j0 k s0_0 bt172.2 bt172.1 0))))) = some (r1, r2, r3) := h
 clear h
 replace H := Option.bind_eq_some_iff.mp H
 obtain ⟨⟨t172, t173⟩, A20, H⟩ := H
 replace H : (if t172 = 1 then ((some (([0, 1, 2, 3, (-1), 7, 50, 99, (-99)] : List Int) : List Int)).bind fun y175 => ((spec_l6Rd_pick.f k s0_0 t173 9).bind fun bt178 => (if 0 ≤ bt178.1 then (if bt178.1 < (y175.length : Int) then (spec_l71Val.j0 k s0_0 bt178.2 t172 (rd y175 bt178.1)) else (none)) else (none)))) else (if t172 = 2 then ((spec_l6Rd_pick.f k s0_0 t173 5).bind fun bt181 => (spec_l71Val.j0 k s0_0 bt181.2 t172 bt181.1)) else (if t172 = 3 then ((spec_l6Rd_pick.f k s0_0 t173 4).bind fun bt183 => (spec_l71Val.j0 k s0_0 bt183.2 t172 (wrap64 (1 + bt183.1)))) else (spec_l71Val.j0 k s0_0 t173 t172 0)))) = some (r1, r2, r3) := H
 have A2 := Aside0.mk A20
 clear A20
 have HC3 := Aside0.mk H
 clear H
 go_enter Try.func91, Try.ntmps91
 go_upto_block 0 with (first | ((with_reducible refine gate_dst (N := 2) rfl ?_); refine box_event ?hg (N := 2) ?hd (cs := #[.int .i64 0, .int .i64 0]) (t := 27) ?hr ?_; (case hd => rfl); (case hg => rfl); (case hr => first | (go_simp; done) | (go_simp; rfl)); intro gb171 hg w4 hbox hb; have n0_ := Aside0.mk (IsS84.below (by repeat (with_reducible first | exact HI0.out | apply sA | apply sN | apply sD | apply sS)) hb); have n1_ := Aside0.mk (KeepBut.trans (by repeat (with_reducible first | exact HK.out | apply pS | apply pN | apply pD | apply pA)) (KeepBut.of_below hb g none) (.inl rfl)); have n2_ := Aside0.mk (below_step (by repeat (with_reducible first | exact HB.out | apply bA | apply bN | apply b1 | refine below_set ?_ (IsS84.ge HI0.out))) hb); have n3_ := Aside0.mk (hbox); have n4_ := Aside0.mk ((by rw [hg]; exact (keep_size (w := w) (g := g) (row := none) (by repeat (with_reducible first | exact HK.out | apply pS | apply pN | apply pD | apply pA))) : w.heap.size ≤ gb171)); have n5_ := Aside0.mk ((Nat.le_trans HW0.out (by rw [hg]; exact (keep_size (w := w) (g := g) (row := none) (by repeat (with_reducible first | exact HK.out | apply pS | apply pN | apply pD | apply pA))) : w.heap.size ≤ gb171) : w0.heap.size ≤ gb171)); have n6_ := Aside0.mk ((by rw [hg]; exact Nat.ne_of_lt (IsS84.lt (show IsS84 w0 _ g s0_0 s0_1 from by repeat (with_reducible first | exact HI0.out | apply sA | apply sN | apply sD | apply sS))) : g ≠ gb171)); have n7_ := Aside0.mk ((by rw [hg]; exact Nat.ne_of_gt (IsS84.lt (show IsS84 w0 _ g s0_0 s0_1 from by repeat (with_reducible first | exact HI0.out | apply sA | apply sN | apply sD | apply sS))) : gb171 ≠ g)); clear HI0; clear HK; clear HB; have HI0 := n0_; have HK := n1_; have HB := n2_; have BK171 := n3_; have GW171 := n4_; have GE171 := n5_; have NB0_171 := n6_; have NB171_0 := n7_; clear n0_ n1_ n2_ n3_ n4_ n5_ n6_ n7_; clear hb hbox hg) | ((with_reducible refine gate_callee (f := 71) rfl ?_); refine goesL_ (some 5) rfl rfl Try.func71 (by kernel_rfl) rfl #[.pointer (some ⟨g, 0, none⟩), .int .i64 4] rfl (by (try simp only [List.map_toArray, List.map_cons, List.map_nil]) <;> rfl) ?_; (with_reducible refine (spec_l6Rd_pick.calls k g s0_0 s0_1 4 t172 t173 w0 _ ?side1 ?side2 A2.out).mono ?_); (case side1 => repeat (with_reducible first | exact HI0.out | apply sA | apply sN | apply sD | apply sS | refine IsS84.far ?_ NB0_171.out _)); (case side2 => repeat (with_reducible first | exact HB.out | apply bA | apply bN | apply b1 | refine below_set ?_ (IsS84.ge HI0.out) | refine below_set ?_ GE171.out)); rintro e w5 ⟨rfl, hi, hb, hk⟩; refine ⟨_, rfl, ?_⟩; replace BK171 := Aside0.mk (KeepBut.blk hk (g' := gb171) (o := .cells #[.int .i64 0, .int .i64 0] 27 (0, 0)) (by exact blkU BK171.out) NB171_0.out (by simp)); replace HK := Aside0.mk (KeepBut.trans (by repeat (with_reducible first | exact HK.out | apply pS | apply pN | apply pD | apply pA | refine keep_far ?_ GW171.out _)) hk (.inl rfl)); replace HB := Aside0.mk (hb); replace HI0 := Aside0.mk (hi); (try clear hb); (try clear hb2); (try clear hk); (try clear hi)) | ((with_reducible refine gate_dst (N := 3) rfl ?_); refine box_event ?hg (N := 3) ?hd (cs := #[.int .i64 0, .int .i64 0]) (t := 27) ?hr ?_; (case hd => rfl); (case hg => rfl); (case hr => first | (go_simp; done) | (go_simp; rfl)); intro gb174 hg w6 hbox hb; have n0_ := Aside0.mk (IsS84.below (by repeat (with_reducible first | exact HI0.out | apply sA | apply sN | apply sD | apply sS | refine IsS84.far ?_ NB0_171.out _)) hb); have n1_ := Aside0.mk (blk_below (g := gb171) (o := .cells #[.int .i64 0, .int .i64 0] 27 (0, 0)) (by exact blkU BK171.out) hb); have n2_ := Aside0.mk (KeepBut.trans (by repeat (with_reducible first | exact HK.out | apply pS | apply pN | apply pD | apply pA | refine keep_far ?_ GW171.out _)) (KeepBut.of_below hb g none) (.inl rfl)); have n3_ := Aside0.mk (below_step (by repeat (with_reducible first | exact HB.out | apply bA | apply bN | apply b1 | refine below_set ?_ (IsS84.ge HI0.out) | refine below_set ?_ GE171.out)) hb); have n4_ := Aside0.mk (hbox); have n5_ := Aside0.mk ((by rw [hg]; exact (keep_size (w := w) (g := g) (row := none) (by repeat (with_reducible first | exact HK.out | apply pS | apply pN | apply pD | apply pA | refine keep_far ?_ GW171.out _))) : w.heap.size ≤ gb174)); have n6_ := Aside0.mk ((Nat.le_trans HW0.out (by rw [hg]; exact (keep_size (w := w) (g := g) (row := none) (by repeat (with_reducible first | exact HK.out | apply pS | apply pN | apply pD | apply pA | refine keep_far ?_ GW171.out _))) : w.heap.size ≤ gb174) : w0.heap.size ≤ gb174)); have n7_ := Aside0.mk ((by rw [hg]; exact Nat.ne_of_lt (blk_lt (g := gb171) (o := .cells #[.int .i64 0, .int .i64 0] 27 (0, 0)) (by exact blkU BK171.out)) : gb171 ≠ gb174)); have n8_ := Aside0.mk ((by rw [hg]; exact Nat.ne_of_gt (blk_lt (g := gb171) (o := .cells #[.int .i64 0, .int .i64 0] 27 (0, 0)) (by exact blkU BK171.out)) : gb174 ≠ gb171)); have n9_ := Aside0.mk ((by rw [hg]; exact Nat.ne_of_lt (IsS84.lt (show IsS84 w0 _ g s0_0 t173 from by repeat (with_reducible first | exact HI0.out | apply sA | apply sN | apply sD | apply sS | refine IsS84.far ?_ NB0_171.out _))) : g ≠ gb174)); have n10_ := Aside0.mk ((by rw [hg]; exact Nat.ne_of_gt (IsS84.lt (show IsS84 w0 _ g s0_0 t173 from by repeat (with_reducible first | exact HI0.out | apply sA | apply sN | apply sD | apply sS | refine IsS84.far ?_ NB0_171.out _))) : gb174 ≠ g)); clear HI0; clear BK171; clear HK; clear HB; have HI0 := n0_; have BK171 := n1_; have HK := n2_; have HB := n3_; have BK174 := n4_; have GW174 := n5_; have GE174 := n6_; have NB171_174 := n7_; have NB174_171 := n8_; have NB0_174 := n9_; have NB174_0 := n10_; clear n0_ n1_ n2_ n3_ n4_ n5_ n6_ n7_ n8_ n9_ n10_; clear hb hbox hg; have hnb7 := NB174_171.out; have hnc7 := NB171_174.out; have hnb8 := NB174_0.out; have hnc8 := NB0_174.out; have hcz9_0 : w6.cell? ⟨gb174, 0, none⟩ = some (.int .i64 0) := (blk_cell BK174.out 0).trans rfl; have hcz9_1 : w6.cell? ⟨gb174, 1, none⟩ = some (.int .i64 0) := (blk_cell BK174.out 1).trans rfl; have hfz9_0 := blk_frozen BK174.out 0; have hfz9_1 := blk_frozen BK174.out 1))
 (try simp only [Act.put, List.setIfInBounds_toArray, List.set_cons_zero, List.set_cons_succ])
 go_cut [] (fun wc => ∃ (kq : Nat) (x1001_2 : Int) (x175001_2 : Int), Aside0 (spec_l71Val.j0 kq s0_0 x1001_2 t172 x175001_2 = some (r1, r2, r3)) ∧ Aside0 (kq ≤ k) ∧ Aside0 (wc.heap[gb171]? = some (.cells #[.int .i64 0, .int .i64 0] 27 (0, 0))) ∧ Aside0 (wc.heap[gb174]? = some (.cells #[.int .i64 t172, .int .i64 x175001_2] 27 (0, 0))) ∧ Aside0 (IsS84 w0 wc g s0_0 x1001_2) ∧ Aside0 (KeepBut w wc g none) ∧ Aside0 (Below w0.heap.size w0 wc))
 case first =>
  have H := HC3.out
  clear HC3
  by_cases c10 : t172 = 1
  ·rw [if_pos c10] at H
   have c10b0 : (t172 == 1) = true := beq_iff_eq.mpr c10
   have c10b1 : (t172 != 1) = false := bne_eq_false_iff_eq.mpr c10
   clear c10
   (first | rw [c10b0] | (simp only [i64_w, i32_w]; rw [c10b0]) | skip)
   obtain ⟨y175, hy175⟩ : ∃ y_ : List Int, y_ = (([0, 1, 2, 3, (-1), 7, 50, 99, (-99)] : List Int)) := ⟨_, rfl⟩
   replace H : ((spec_l6Rd_pick.f k s0_0 t173 9).bind fun bt178 => (if 0 ≤ bt178.1 then (if bt178.1 < (y175.length : Int) then (spec_l71Val.j0 k s0_0 bt178.2 t172 (rd y175 bt178.1)) else (none)) else (none))) = some (r1, r2, r3) := by first | (rw [hy175]; with_reducible exact H) | (have H2_ := (Option.bind_some _ _).symm.trans H; rw [hy175]; with_reducible exact H2_) | (have H2_ := (Option.bind_some _ _).symm.trans H; with_reducible exact H2_) | with_reducible exact H | (rw [hy175]; exact H) | exact H
   have Ny175 := Aside0.mk hy175
   clear hy175
   replace H := Option.bind_eq_some_iff.mp H
   obtain ⟨⟨t178, t179⟩, A110, H⟩ := H
   replace H : (if 0 ≤ t178 then (if t178 < (y175.length : Int) then (spec_l71Val.j0 k s0_0 t179 t172 (rd y175 t178)) else (none)) else (none)) = some (r1, r2, r3) := H
   have A11 := Aside0.mk A110
   clear A110
   by_cases c12 : 0 ≤ t178
   ·rw [if_pos c12] at H
    have c12b0 : decide (0 ≤ t178) = true := decide_eq_true c12
    clear c12
    by_cases c13 : t178 < (y175.length : Int)
    ·rw [if_pos c13] at H
     have c13b0 : decide (t178 < (y175.length : Int)) = true := decide_eq_true c13
     clear c13
     have H' := Aside0.mk H
     clear H
     go_wp2_with (first | ((with_reducible refine gate_dst (N := 11) rfl ?_); refine Kd.R_lit (Kd.int .i64) _ 3 ?hg (N := 11) ?hd (xs := ([0, 1, 2, 3, (-1), 7, 50, 99, (-99)] : List Int)) (inner := [.int .i64 0, .int .i64 1, .int .i64 2, .int .i64 3, .int .i64 (-1), .int .i64 7, .int .i64 50, .int .i64 99, .int .i64 (-99)]) (ok := fun _ => True) (okp := fun _ => True) ?hr ?hp (fun _ hk => hk) trivial (Below.refl _ _) (Nat.le_refl _) (by simp) ?_; (case hd => rfl); (case hg => rfl); (case hr => first | (go_simp; done) | (go_simp; rfl)); (case hp => exact (Reps.one (show Kd.M (Kd.int .i64) _ _ _ 0 [.int .i64 0] from rfl) (Reps.one (show Kd.M (Kd.int .i64) _ _ _ 1 [.int .i64 1] from rfl) (Reps.one (show Kd.M (Kd.int .i64) _ _ _ 2 [.int .i64 2] from rfl) (Reps.one (show Kd.M (Kd.int .i64) _ _ _ 3 [.int .i64 3] from rfl) (Reps.one (show Kd.M (Kd.int .i64) _ _ _ (-1) [.int .i64 (-1)] from rfl) (Reps.one (show Kd.M (Kd.int .i64) _ _ _ 7 [.int .i64 7] from rfl) (Reps.one (show Kd.M (Kd.int .i64) _ _ _ 50 [.int .i64 50] from rfl) (Reps.one (show Kd.M (Kd.int .i64) _ _ _ 99 [.int .i64 99] from rfl) (Reps.one (show Kd.M (Kd.int .i64) _ _ _ (-99) [.int .i64 (-99)] from rfl) (Reps.none _ _))))))))))); intro v176 w14 ho15 hb hg_ hnew_; clear hg_ hnew_; (first | rw [← Ny175.out] at ho15 | (simp only [Int.reduceToNat] at ho15; rw [← Ny175.out] at ho15)); have n0_ := Aside0.mk (Kd.R_lower ho15 (keep_size (w := w) (g := g) (row := none) (by repeat (with_reducible first | exact HK.out | apply pS | apply pN | apply pD | apply pA | refine keep_far ?_ GW171.out _ | refine keep_far ?_ GW174.out _)))); have n1_ := Aside0.mk (IsS84.below (show IsS84 w0 ((w6.setCell ⟨gb174, 0, none⟩ (.int .i64 t172)).setCell ⟨gb174, 1, none⟩ (.int .i64 0)) g s0_0 t173 from by repeat (with_reducible first | exact HI0.out | apply sA | apply sN | apply sD | apply sS | refine IsS84.far ?_ NB0_171.out _ | refine IsS84.far ?_ NB0_174.out _)) hb); have n2_ := Aside0.mk (blk_below (g := gb171) (o := .cells #[.int .i64 0, .int .i64 0] 27 (0, 0)) (by (with_reducible repeat (first | apply kN | apply kD | apply kA)); refine blk_far ?_ NB171_174.out _; (with_reducible repeat (first | apply kN | apply kD | apply kA)); refine blk_far ?_ NB171_174.out _; exact blkU BK171.out) hb); have n3_ := Aside0.mk (blk_below (g := gb174) (o := .cells #[.int .i64 t172, .int .i64 0] 27 (0, 0)) (by (with_reducible repeat (first | apply kN | apply kD | apply kA)); refine blk_put (cs := #[.int .i64 t172, .int .i64 0]) ?_ 1 _ rfl; (with_reducible repeat (first | apply kN | apply kD | apply kA)); refine blk_put (cs := #[.int .i64 0, .int .i64 0]) ?_ 0 _ rfl; exact blkU BK174.out) hb); have n4_ := Aside0.mk (KeepBut.trans (by repeat (with_reducible first | exact HK.out | apply pS | apply pN | apply pD | apply pA | refine keep_far ?_ GW171.out _ | refine keep_far ?_ GW174.out _)) (KeepBut.of_below hb g none) (.inl rfl)); have n5_ := Aside0.mk (below_step (by repeat (with_reducible first | exact HB.out | apply bA | apply bN | apply b1 | refine below_set ?_ (IsS84.ge HI0.out) | refine below_set ?_ GE171.out | refine below_set ?_ GE174.out)) hb); clear HI0; clear BK171; clear BK174; clear HK; clear HB; have HO177 := n0_; have HI0 := n1_; have BK171 := n2_; have BK174 := n3_; have HK := n4_; have HB := n5_; clear n0_ n1_ n2_ n3_ n4_ n5_; clear hb ho15) | ((with_reducible refine gate_callee (f := 71) rfl ?_); refine goesL_ (some 13) rfl rfl Try.func71 (by kernel_rfl) rfl #[.pointer (some ⟨g, 0, none⟩), .int .i64 9] rfl (by (try simp only [List.map_toArray, List.map_cons, List.map_nil]) <;> rfl) ?_; (with_reducible refine (spec_l6Rd_pick.calls k g s0_0 t173 9 t178 t179 w0 _ ?side1 ?side2 A11.out).mono ?_); (case side1 => repeat (with_reducible first | exact HI0.out | apply sA | apply sN | apply sD | apply sS | refine IsS84.far ?_ NB0_171.out _ | refine IsS84.far ?_ NB0_174.out _)); (case side2 => repeat (with_reducible first | exact HB.out | apply bA | apply bN | apply b1 | refine below_set ?_ (IsS84.ge HI0.out) | refine below_set ?_ GE171.out | refine below_set ?_ GE174.out)); rintro e w16 ⟨rfl, hi, hb, hk⟩; refine ⟨_, rfl, ?_⟩; replace BK171 := Aside0.mk (KeepBut.blk hk (g' := gb171) (o := .cells #[.int .i64 0, .int .i64 0] 27 (0, 0)) (by exact blkU BK171.out) NB171_0.out (by simp)); replace BK174 := Aside0.mk (KeepBut.blk hk (g' := gb174) (o := .cells #[.int .i64 t172, .int .i64 0] 27 (0, 0)) (by exact blkU BK174.out) NB174_0.out (by simp)); replace HO177 := Aside0.mk (Kd.R_mono (Kd.R_keep (IsS84.apart (show IsS84 w0 _ g s0_0 t173 from by repeat (with_reducible first | exact HI0.out | apply sA | apply sN | apply sD | apply sS | refine IsS84.far ?_ NB0_171.out _ | refine IsS84.far ?_ NB0_174.out _)) (by exact rU HO177.out) (by decide)) hk (fun _ h => h.2)) (fun _ h => h.1)); replace HK := Aside0.mk (KeepBut.trans (by repeat (with_reducible first | exact HK.out | apply pS | apply pN | apply pD | apply pA | refine keep_far ?_ GW171.out _ | refine keep_far ?_ GW174.out _)) hk (.inl rfl)); replace HB := Aside0.mk (hb); replace HI0 := Aside0.mk (hi); (try clear hb); (try clear hb2); (try clear hk); (try clear hi); obtain ⟨Ao17, co17, eo17⟩ := Kd.R_slice HO177.out; subst eo17; have p180 : 0 ≤ (t178 : Int) := of_decide_eq_true (by assumption); have q180 : t178 < (y175.length : Int) := of_decide_eq_true (by assumption); obtain ⟨ad180, e180, hx180_0⟩ := Kd.at_int (Kd.R_reads' HO177.out).2.2 t178 p180 q180; cases e180; replace p180 := eq_true p180; replace q180 := eq_true q180; have hnb18 := NB174_171.out; have hnc18 := NB171_174.out; have hnb19 := NB174_0.out; have hnc19 := NB0_174.out; have hcz20_0 : w16.cell? ⟨gb174, 0, none⟩ = some (.int .i64 t172) := (blk_cell BK174.out 0).trans rfl; have hcz20_1 : w16.cell? ⟨gb174, 1, none⟩ = some (.int .i64 0) := (blk_cell BK174.out 1).trans rfl; have hfz20_0 := blk_frozen BK174.out 0; have hfz20_1 := blk_frozen BK174.out 1))
     go_meet
     case rel => exact ⟨_, (t179), (rd y175 t178), H', ⟨by first | omega | exact Nat.le_refl _⟩, ⟨by (with_reducible repeat (first | apply kN | apply kD | apply kA)); refine blk_far ?_ NB171_174.out _; exact blkU BK171.out⟩, ⟨by (with_reducible repeat (first | apply kN | apply kD | apply kA)); refine blk_put (cs := #[.int .i64 t172, .int .i64 0]) ?_ 1 _ rfl; exact blkU BK174.out⟩, ⟨by repeat (with_reducible first | exact HI0.out | apply sA | apply sN | apply sD | apply sS | refine IsS84.far ?_ NB0_171.out _ | refine IsS84.far ?_ NB0_174.out _)⟩, ⟨by repeat (with_reducible first | exact HK.out | apply pS | apply pN | apply pD | apply pA | refine keep_far ?_ GW171.out _ | refine keep_far ?_ GW174.out _)⟩, ⟨by repeat (with_reducible first | exact HB.out | apply bA | apply bN | apply b1 | refine below_set ?_ (IsS84.ge HI0.out) | refine below_set ?_ GE171.out | refine below_set ?_ GE174.out)⟩⟩
    ·rw [if_neg c13] at H
     exact absurd H (by simp)
   ·rw [if_neg c12] at H
    exact absurd H (by simp)
  ·rw [if_neg c10] at H
   have c10b0 : (t172 == 1) = false := beq_eq_false_iff_ne.mpr c10
   have c10b1 : (t172 != 1) = true := bne_iff_ne.mpr c10
   (first | rw [c10b0] | (simp only [i64_w, i32_w]; rw [c10b0]) | skip)
   by_cases c21 : t172 = 2
   ·rw [if_pos c21] at H
    have c21b0 : (t172 == 2) = true := beq_iff_eq.mpr c21
    have c21b1 : (t172 != 2) = false := bne_eq_false_iff_eq.mpr c21
    clear c21
    replace H := Option.bind_eq_some_iff.mp H
    obtain ⟨⟨t181, t182⟩, A220, H⟩ := H
    replace H : (spec_l71Val.j0 k s0_0 t182 t172 t181) = some (r1, r2, r3) := H
    have A22 := Aside0.mk A220
    clear A220
    have H' := Aside0.mk H
    clear H
    go_wp2_with (first | ((with_reducible refine gate_callee (f := 71) rfl ?_); refine goesL_ (some 20) rfl rfl Try.func71 (by kernel_rfl) rfl #[.pointer (some ⟨g, 0, none⟩), .int .i64 5] rfl (by (try simp only [List.map_toArray, List.map_cons, List.map_nil]) <;> rfl) ?_; (with_reducible refine (spec_l6Rd_pick.calls k g s0_0 t173 5 t181 t182 w0 _ ?side1 ?side2 A22.out).mono ?_); (case side1 => repeat (with_reducible first | exact HI0.out | apply sA | apply sN | apply sD | apply sS | refine IsS84.far ?_ NB0_171.out _ | refine IsS84.far ?_ NB0_174.out _)); (case side2 => repeat (with_reducible first | exact HB.out | apply bA | apply bN | apply b1 | refine below_set ?_ (IsS84.ge HI0.out) | refine below_set ?_ GE171.out | refine below_set ?_ GE174.out)); rintro e w23 ⟨rfl, hi, hb, hk⟩; refine ⟨_, rfl, ?_⟩; replace BK171 := Aside0.mk (KeepBut.blk hk (g' := gb171) (o := .cells #[.int .i64 0, .int .i64 0] 27 (0, 0)) (by (with_reducible repeat (first | apply kN | apply kD | apply kA)); refine blk_far ?_ NB171_174.out _; (with_reducible repeat (first | apply kN | apply kD | apply kA)); refine blk_far ?_ NB171_174.out _; exact blkU BK171.out) NB171_0.out (by simp)); replace BK174 := Aside0.mk (KeepBut.blk hk (g' := gb174) (o := .cells #[.int .i64 t172, .int .i64 0] 27 (0, 0)) (by (with_reducible repeat (first | apply kN | apply kD | apply kA)); refine blk_put (cs := #[.int .i64 t172, .int .i64 0]) ?_ 1 _ rfl; (with_reducible repeat (first | apply kN | apply kD | apply kA)); refine blk_put (cs := #[.int .i64 0, .int .i64 0]) ?_ 0 _ rfl; exact blkU BK174.out) NB174_0.out (by simp)); replace HK := Aside0.mk (KeepBut.trans (by repeat (with_reducible first | exact HK.out | apply pS | apply pN | apply pD | apply pA | refine keep_far ?_ GW171.out _ | refine keep_far ?_ GW174.out _)) hk (.inl rfl)); replace HB := Aside0.mk (hb); replace HI0 := Aside0.mk (hi); (try clear hb); (try clear hb2); (try clear hk); (try clear hi); have hnb24 := NB174_171.out; have hnc24 := NB171_174.out; have hnb25 := NB174_0.out; have hnc25 := NB0_174.out; have hcz26_0 : w23.cell? ⟨gb174, 0, none⟩ = some (.int .i64 t172) := (blk_cell BK174.out 0).trans rfl; have hcz26_1 : w23.cell? ⟨gb174, 1, none⟩ = some (.int .i64 0) := (blk_cell BK174.out 1).trans rfl; have hfz26_0 := blk_frozen BK174.out 0; have hfz26_1 := blk_frozen BK174.out 1))
    go_meet
    case rel => exact ⟨_, (t182), (t181), H', ⟨by first | omega | exact Nat.le_refl _⟩, ⟨by (with_reducible repeat (first | apply kN | apply kD | apply kA)); refine blk_far ?_ NB171_174.out _; exact blkU BK171.out⟩, ⟨by (with_reducible repeat (first | apply kN | apply kD | apply kA)); refine blk_put (cs := #[.int .i64 t172, .int .i64 0]) ?_ 1 _ rfl; exact blkU BK174.out⟩, ⟨by repeat (with_reducible first | exact HI0.out | apply sA | apply sN | apply sD | apply sS | refine IsS84.far ?_ NB0_171.out _ | refine IsS84.far ?_ NB0_174.out _)⟩, ⟨by repeat (with_reducible first | exact HK.out | apply pS | apply pN | apply pD | apply pA | refine keep_far ?_ GW171.out _ | refine keep_far ?_ GW174.out _)⟩, ⟨by repeat (with_reducible first | exact HB.out | apply bA | apply bN | apply b1 | refine below_set ?_ (IsS84.ge HI0.out) | refine below_set ?_ GE171.out | refine below_set ?_ GE174.out)⟩⟩
   ·rw [if_neg c21] at H
    have c21b0 : (t172 == 2) = false := beq_eq_false_iff_ne.mpr c21
    have c21b1 : (t172 != 2) = true := bne_iff_ne.mpr c21
    by_cases c27 : t172 = 3
    ·rw [if_pos c27] at H
     have c27b0 : (t172 == 3) = true := beq_iff_eq.mpr c27
     have c27b1 : (t172 != 3) = false := bne_eq_false_iff_eq.mpr c27
     clear c27
     replace H := Option.bind_eq_some_iff.mp H
     obtain ⟨⟨t183, t184⟩, A280, H⟩ := H
     replace H : (spec_l71Val.j0 k s0_0 t184 t172 (wrap64 (1 + t183))) = some (r1, r2, r3) := H
     have A28 := Aside0.mk A280
     clear A280
     have H' := Aside0.mk H
     clear H
     go_wp2_with (first | ((with_reducible refine gate_callee (f := 71) rfl ?_); refine goesL_ (some 25) rfl rfl Try.func71 (by kernel_rfl) rfl #[.pointer (some ⟨g, 0, none⟩), .int .i64 4] rfl (by (try simp only [List.map_toArray, List.map_cons, List.map_nil]) <;> rfl) ?_; (with_reducible refine (spec_l6Rd_pick.calls k g s0_0 t173 4 t183 t184 w0 _ ?side1 ?side2 A28.out).mono ?_); (case side1 => repeat (with_reducible first | exact HI0.out | apply sA | apply sN | apply sD | apply sS | refine IsS84.far ?_ NB0_171.out _ | refine IsS84.far ?_ NB0_174.out _)); (case side2 => repeat (with_reducible first | exact HB.out | apply bA | apply bN | apply b1 | refine below_set ?_ (IsS84.ge HI0.out) | refine below_set ?_ GE171.out | refine below_set ?_ GE174.out)); rintro e w29 ⟨rfl, hi, hb, hk⟩; refine ⟨_, rfl, ?_⟩; replace BK171 := Aside0.mk (KeepBut.blk hk (g' := gb171) (o := .cells #[.int .i64 0, .int .i64 0] 27 (0, 0)) (by (with_reducible repeat (first | apply kN | apply kD | apply kA)); refine blk_far ?_ NB171_174.out _; (with_reducible repeat (first | apply kN | apply kD | apply kA)); refine blk_far ?_ NB171_174.out _; exact blkU BK171.out) NB171_0.out (by simp)); replace BK174 := Aside0.mk (KeepBut.blk hk (g' := gb174) (o := .cells #[.int .i64 t172, .int .i64 0] 27 (0, 0)) (by (with_reducible repeat (first | apply kN | apply kD | apply kA)); refine blk_put (cs := #[.int .i64 t172, .int .i64 0]) ?_ 1 _ rfl; (with_reducible repeat (first | apply kN | apply kD | apply kA)); refine blk_put (cs := #[.int .i64 0, .int .i64 0]) ?_ 0 _ rfl; exact blkU BK174.out) NB174_0.out (by simp)); replace HK := Aside0.mk (KeepBut.trans (by repeat (with_reducible first | exact HK.out | apply pS | apply pN | apply pD | apply pA | refine keep_far ?_ GW171.out _ | refine keep_far ?_ GW174.out _)) hk (.inl rfl)); replace HB := Aside0.mk (hb); replace HI0 := Aside0.mk (hi); (try clear hb); (try clear hb2); (try clear hk); (try clear hi); have hnb30 := NB174_171.out; have hnc30 := NB171_174.out; have hnb31 := NB174_0.out; have hnc31 := NB0_174.out; have hcz32_0 : w29.cell? ⟨gb174, 0, none⟩ = some (.int .i64 t172) := (blk_cell BK174.out 0).trans rfl; have hcz32_1 : w29.cell? ⟨gb174, 1, none⟩ = some (.int .i64 0) := (blk_cell BK174.out 1).trans rfl; have hfz32_0 := blk_frozen BK174.out 0; have hfz32_1 := blk_frozen BK174.out 1))
     go_meet
     case rel => exact ⟨_, (t184), (wrap64 (1 + t183)), H', ⟨by first | omega | exact Nat.le_refl _⟩, ⟨by (with_reducible repeat (first | apply kN | apply kD | apply kA)); refine blk_far ?_ NB171_174.out _; exact blkU BK171.out⟩, ⟨by (with_reducible repeat (first | apply kN | apply kD | apply kA)); refine blk_put (cs := #[.int .i64 t172, .int .i64 0]) ?_ 1 _ rfl; exact blkU BK174.out⟩, ⟨by repeat (with_reducible first | exact HI0.out | apply sA | apply sN | apply sD | apply sS | refine IsS84.far ?_ NB0_171.out _ | refine IsS84.far ?_ NB0_174.out _)⟩, ⟨by repeat (with_reducible first | exact HK.out | apply pS | apply pN | apply pD | apply pA | refine keep_far ?_ GW171.out _ | refine keep_far ?_ GW174.out _)⟩, ⟨by repeat (with_reducible first | exact HB.out | apply bA | apply bN | apply b1 | refine below_set ?_ (IsS84.ge HI0.out) | refine below_set ?_ GE171.out | refine below_set ?_ GE174.out)⟩⟩
    ·rw [if_neg c27] at H
     have c27b0 : (t172 == 3) = false := beq_eq_false_iff_ne.mpr c27
     have c27b1 : (t172 != 3) = true := bne_iff_ne.mpr c27
     have H' := Aside0.mk H
     clear H
     go_wp2
     go_meet
     case rel => exact ⟨_, (t173), (0), H', ⟨by first | omega | exact Nat.le_refl _⟩, ⟨by (with_reducible repeat (first | apply kN | apply kD | apply kA)); refine blk_far ?_ NB171_174.out _; (with_reducible repeat (first | apply kN | apply kD | apply kA)); refine blk_far ?_ NB171_174.out _; exact blkU BK171.out⟩, ⟨by (with_reducible repeat (first | apply kN | apply kD | apply kA)); refine blk_put (cs := #[.int .i64 t172, .int .i64 0]) ?_ 1 _ rfl; (with_reducible repeat (first | apply kN | apply kD | apply kA)); refine blk_put (cs := #[.int .i64 0, .int .i64 0]) ?_ 0 _ rfl; exact blkU BK174.out⟩, ⟨by repeat (with_reducible first | exact HI0.out | apply sA | apply sN | apply sD | apply sS | refine IsS84.far ?_ NB0_171.out _ | refine IsS84.far ?_ NB0_174.out _)⟩, ⟨by repeat (with_reducible first | exact HK.out | apply pS | apply pN | apply pD | apply pA | refine keep_far ?_ GW171.out _ | refine keep_far ?_ GW174.out _)⟩, ⟨by repeat (with_reducible first | exact HB.out | apply bA | apply bN | apply b1 | refine below_set ?_ (IsS84.ge HI0.out) | refine below_set ?_ GE171.out | refine below_set ?_ GE174.out)⟩⟩
 case rest =>
  clear HC3
  (try clear c1); (try clear p1); (try clear q1); (try clear hx1); (try clear c2); (try clear p2); (try clear c3); (try clear p6); (try clear c7); (try clear c8); (try clear c9); (try clear c10); (try clear c10b0); (try clear c10b1); (try clear c12); (try clear c12b0); (try clear c13); (try clear c13b0); (try clear c18); (try clear p18); (try clear q18); (try clear hx18); (try clear c19); (try clear c21); (try clear c21b0); (try clear c21b1); (try clear c24); (try clear c25); (try clear c27); (try clear c27b0); (try clear c27b1); (try clear c30); (try clear c31); (try clear hcz20_0); (try clear hcz20_1); (try clear hcz26_0); (try clear hcz26_1); (try clear hcz32_0); (try clear hcz32_1); (try clear hcz9_0); (try clear hcz9_1); (try clear hfz20_0); (try clear hfz20_1); (try clear hfz26_0); (try clear hfz26_1); (try clear hfz32_0); (try clear hfz32_1); (try clear hfz9_0); (try clear hfz9_1); (try clear hx180_0); (try clear p180); (try clear q180)
  obtain ⟨kq, x1001_2, x175001_2, HA, HJ2, BK171, BK174, HI0, HK, HB⟩ := hcut
  cases kq with
  | zero => exact absurd HA.out (by simp [spec_l71Val.j0])
  | succ kj2 =>
   have H := HA.out
   clear HA
   simp only [spec_l71Val.j0] at H
   replace H := Option.bind_eq_some_iff.mp H
   obtain ⟨⟨t185, t186⟩, A330, H⟩ := H
   replace H : (if t185 = 0 then ((some (([(-100), 100, 10] : List Int) : List Int)).bind fun y187 => ((spec_l6Rd_pick.f kj2 s0_0 t186 3).bind fun bt190 => (if 0 ≤ bt190.1 then (if bt190.1 < (y187.length : Int) then (some (t172, rd y187 bt190.1, bt190.2)) else (none)) else (none)))) else (if t185 = 1 then ((spec_l6Rd_pick.f kj2 s0_0 t186 6).bind fun bt193 => (some (bt193.1, x175001_2, bt193.2))) else (some (t172, x175001_2, t186)))) = some (r1, r2, r3) := H
   have A33 := Aside0.mk A330
   clear A330
   by_cases c34 : t185 = 0
   ·rw [if_pos c34] at H
    have c34b0 : (t185 == 0) = true := beq_iff_eq.mpr c34
    have c34b1 : (t185 != 0) = false := bne_eq_false_iff_eq.mpr c34
    clear c34
    obtain ⟨y187, hy187⟩ : ∃ y_ : List Int, y_ = (([(-100), 100, 10] : List Int)) := ⟨_, rfl⟩
    replace H : ((spec_l6Rd_pick.f kj2 s0_0 t186 3).bind fun bt190 => (if 0 ≤ bt190.1 then (if bt190.1 < (y187.length : Int) then (some (t172, rd y187 bt190.1, bt190.2)) else (none)) else (none))) = some (r1, r2, r3) := by first | (rw [hy187]; with_reducible exact H) | (have H2_ := (Option.bind_some _ _).symm.trans H; rw [hy187]; with_reducible exact H2_) | (have H2_ := (Option.bind_some _ _).symm.trans H; with_reducible exact H2_) | with_reducible exact H | (rw [hy187]; exact H) | exact H
    have Ny187 := Aside0.mk hy187
    clear hy187
    replace H := Option.bind_eq_some_iff.mp H
    obtain ⟨⟨t190, t191⟩, A350, H⟩ := H
    replace H : (if 0 ≤ t190 then (if t190 < (y187.length : Int) then (some (t172, rd y187 t190, t191)) else (none)) else (none)) = some (r1, r2, r3) := H
    have A35 := Aside0.mk A350
    clear A350
    by_cases c36 : 0 ≤ t190
    ·rw [if_pos c36] at H
     have c36b0 : decide (0 ≤ t190) = true := decide_eq_true c36
     clear c36
     by_cases c37 : t190 < (y187.length : Int)
     ·rw [if_pos c37] at H
      have c37b0 : decide (t190 < (y187.length : Int)) = true := decide_eq_true c37
      clear c37
      simp only [Option.some.injEq, Prod.mk.injEq] at H
      obtain ⟨rfl, rfl, rfl⟩ := H
      go_wp2_with (first | ((with_reducible refine gate_callee (f := 71) rfl ?_); refine goesL_ (some 29) rfl rfl Try.func71 (by kernel_rfl) rfl #[.pointer (some ⟨g, 0, none⟩), .int .i64 30] rfl (by (try simp only [List.map_toArray, List.map_cons, List.map_nil]) <;> rfl) ?_; (with_reducible refine (spec_l6Rd_pick.calls kj2 g s0_0 x1001_2 30 t185 t186 w0 _ ?side1 ?side2 A33.out).mono ?_); (case side1 => repeat (with_reducible first | exact HI0.out | apply sA | apply sN | apply sD | apply sS | refine IsS84.far ?_ NB0_171.out _ | refine IsS84.far ?_ NB0_174.out _)); (case side2 => repeat (with_reducible first | exact HB.out | apply bA | apply bN | apply b1 | refine below_set ?_ (IsS84.ge HI0.out) | refine below_set ?_ GE171.out | refine below_set ?_ GE174.out)); rintro e w38 ⟨rfl, hi, hb, hk⟩; refine ⟨_, rfl, ?_⟩; replace BK171 := Aside0.mk (KeepBut.blk hk (g' := gb171) (o := .cells #[.int .i64 0, .int .i64 0] 27 (0, 0)) (by exact blkU BK171.out) NB171_0.out (by simp)); replace BK174 := Aside0.mk (KeepBut.blk hk (g' := gb174) (o := .cells #[.int .i64 t172, .int .i64 x175001_2] 27 (0, 0)) (by exact blkU BK174.out) NB174_0.out (by simp)); replace HK := Aside0.mk (KeepBut.trans (by repeat (with_reducible first | exact HK.out | apply pS | apply pN | apply pD | apply pA | refine keep_far ?_ GW171.out _ | refine keep_far ?_ GW174.out _)) hk (.inl rfl)); replace HB := Aside0.mk (hb); replace HI0 := Aside0.mk (hi); (try clear hb); (try clear hb2); (try clear hk); (try clear hi)) | ((with_reducible refine gate_dst (N := 32) rfl ?_); refine Kd.R_lit (Kd.int .i64) _ 3 ?hg (N := 32) ?hd (xs := ([(-100), 100, 10] : List Int)) (inner := [.int .i64 (-100), .int .i64 100, .int .i64 10]) (ok := fun _ => True) (okp := fun _ => True) ?hr ?hp (fun _ hk => hk) trivial (Below.refl _ _) (Nat.le_refl _) (by simp) ?_; (case hd => rfl); (case hg => rfl); (case hr => first | (go_simp; done) | (go_simp; rfl)); (case hp => exact (Reps.one (show Kd.M (Kd.int .i64) _ _ _ (-100) [.int .i64 (-100)] from rfl) (Reps.one (show Kd.M (Kd.int .i64) _ _ _ 100 [.int .i64 100] from rfl) (Reps.one (show Kd.M (Kd.int .i64) _ _ _ 10 [.int .i64 10] from rfl) (Reps.none _ _))))); intro v188 w39 ho40 hb hg_ hnew_; clear hg_ hnew_; (first | rw [← Ny187.out] at ho40 | (simp only [Int.reduceToNat] at ho40; rw [← Ny187.out] at ho40)); have n0_ := Aside0.mk (Kd.R_lower ho40 (keep_size (w := w) (g := g) (row := none) (by repeat (with_reducible first | exact HK.out | apply pS | apply pN | apply pD | apply pA | refine keep_far ?_ GW171.out _ | refine keep_far ?_ GW174.out _)))); have n1_ := Aside0.mk (blk_below (g := gb171) (o := .cells #[.int .i64 0, .int .i64 0] 27 (0, 0)) (by exact blkU BK171.out) hb); have n2_ := Aside0.mk (blk_below (g := gb174) (o := .cells #[.int .i64 t172, .int .i64 x175001_2] 27 (0, 0)) (by exact blkU BK174.out) hb); have n3_ := Aside0.mk (IsS84.below (by repeat (with_reducible first | exact HI0.out | apply sA | apply sN | apply sD | apply sS | refine IsS84.far ?_ NB0_171.out _ | refine IsS84.far ?_ NB0_174.out _)) hb); have n4_ := Aside0.mk (KeepBut.trans (by repeat (with_reducible first | exact HK.out | apply pS | apply pN | apply pD | apply pA | refine keep_far ?_ GW171.out _ | refine keep_far ?_ GW174.out _)) (KeepBut.of_below hb g none) (.inl rfl)); have n5_ := Aside0.mk (below_step (by repeat (with_reducible first | exact HB.out | apply bA | apply bN | apply b1 | refine below_set ?_ (IsS84.ge HI0.out) | refine below_set ?_ GE171.out | refine below_set ?_ GE174.out)) hb); clear BK171; clear BK174; clear HI0; clear HK; clear HB; have HO189 := n0_; have BK171 := n1_; have BK174 := n2_; have HI0 := n3_; have HK := n4_; have HB := n5_; clear n0_ n1_ n2_ n3_ n4_ n5_; clear hb ho40) | ((with_reducible refine gate_callee (f := 71) rfl ?_); refine goesL_ (some 34) rfl rfl Try.func71 (by kernel_rfl) rfl #[.pointer (some ⟨g, 0, none⟩), .int .i64 3] rfl (by (try simp only [List.map_toArray, List.map_cons, List.map_nil]) <;> rfl) ?_; (with_reducible refine (spec_l6Rd_pick.calls kj2 g s0_0 t186 3 t190 t191 w0 _ ?side1 ?side2 A35.out).mono ?_); (case side1 => repeat (with_reducible first | exact HI0.out | apply sA | apply sN | apply sD | apply sS | refine IsS84.far ?_ NB0_171.out _ | refine IsS84.far ?_ NB0_174.out _)); (case side2 => repeat (with_reducible first | exact HB.out | apply bA | apply bN | apply b1 | refine below_set ?_ (IsS84.ge HI0.out) | refine below_set ?_ GE171.out | refine below_set ?_ GE174.out)); rintro e w41 ⟨rfl, hi, hb, hk⟩; refine ⟨_, rfl, ?_⟩; replace BK171 := Aside0.mk (KeepBut.blk hk (g' := gb171) (o := .cells #[.int .i64 0, .int .i64 0] 27 (0, 0)) (by exact blkU BK171.out) NB171_0.out (by simp)); replace BK174 := Aside0.mk (KeepBut.blk hk (g' := gb174) (o := .cells #[.int .i64 t172, .int .i64 x175001_2] 27 (0, 0)) (by exact blkU BK174.out) NB174_0.out (by simp)); replace HO189 := Aside0.mk (Kd.R_mono (Kd.R_keep (IsS84.apart (show IsS84 w0 _ g s0_0 t186 from by repeat (with_reducible first | exact HI0.out | apply sA | apply sN | apply sD | apply sS | refine IsS84.far ?_ NB0_171.out _ | refine IsS84.far ?_ NB0_174.out _)) (by exact rU HO189.out) (by decide)) hk (fun _ h => h.2)) (fun _ h => h.1)); replace HK := Aside0.mk (KeepBut.trans (by repeat (with_reducible first | exact HK.out | apply pS | apply pN | apply pD | apply pA | refine keep_far ?_ GW171.out _ | refine keep_far ?_ GW174.out _)) hk (.inl rfl)); replace HB := Aside0.mk (hb); replace HI0 := Aside0.mk (hi); (try clear hb); (try clear hb2); (try clear hk); (try clear hi); obtain ⟨Ao42, co42, eo42⟩ := Kd.R_slice HO189.out; subst eo42; have p192 : 0 ≤ (t190 : Int) := of_decide_eq_true (by assumption); have q192 : t190 < (y187.length : Int) := of_decide_eq_true (by assumption); obtain ⟨ad192, e192, hx192_0⟩ := Kd.at_int (Kd.R_reads' HO189.out).2.2 t190 p192 q192; cases e192; replace p192 := eq_true p192; replace q192 := eq_true q192; have hnb43 := NB174_171.out; have hnc43 := NB171_174.out; have hnb44 := NB174_0.out; have hnc44 := NB0_174.out; have hcz45_0 : w41.cell? ⟨gb174, 0, none⟩ = some (.int .i64 t172) := (blk_cell BK174.out 0).trans rfl; have hcz45_1 : w41.cell? ⟨gb174, 1, none⟩ = some (.int .i64 x175001_2) := (blk_cell BK174.out 1).trans rfl; have hfz45_0 := blk_frozen BK174.out 0; have hfz45_1 := blk_frozen BK174.out 1; have hnb46 := NB171_0.out; have hnc46 := NB0_171.out; have hcz47_0 : w41.cell? ⟨gb171, 0, none⟩ = some (.int .i64 0) := (blk_cell BK171.out 0).trans rfl; have hcz47_1 : w41.cell? ⟨gb171, 1, none⟩ = some (.int .i64 0) := (blk_cell BK171.out 1).trans rfl; have hfz47_0 := blk_frozen BK171.out 0; have hfz47_1 := blk_frozen BK171.out 1))
      refine bodyPost_ret (results_cell_row rfl _ _ gb171 27 #[.int .i64 t172, .int .i64 (rd y187 t190)] (0, 0) _ rfl (by (with_reducible repeat (first | apply kN | apply kD | apply kA)); refine blk_put (cs := #[.int .i64 t172, .int .i64 0]) ?_ 1 _ rfl; (with_reducible repeat (first | apply kN | apply kD | apply kA)); refine blk_put (cs := #[.int .i64 0, .int .i64 0]) ?_ 0 _ rfl; (with_reducible repeat (first | apply kN | apply kD | apply kA)); refine blk_far ?_ NB171_174.out _; exact blkU BK171.out) Try.underlying27 rfl (by kernel_rfl)) rfl ?_
      exact ⟨by first | rfl | (simp [errW_none, errW_some] <;> rfl) | (simp [*, errW_none, errW_some] <;> rfl), by repeat (with_reducible first | exact HI0.out | apply sA | apply sN | apply sD | apply sS | refine IsS84.far ?_ NB0_171.out _ | refine IsS84.far ?_ NB0_174.out _), by repeat (with_reducible first | exact HB.out | apply bA | apply bN | apply b1 | refine below_set ?_ (IsS84.ge HI0.out) | refine below_set ?_ GE171.out | refine below_set ?_ GE174.out), by repeat (with_reducible first | exact HK.out | apply pS | apply pN | apply pD | apply pA | refine keep_far ?_ GW171.out _ | refine keep_far ?_ GW174.out _)⟩
     ·rw [if_neg c37] at H
      exact absurd H (by simp)
    ·rw [if_neg c36] at H
     exact absurd H (by simp)
   ·rw [if_neg c34] at H
    have c34b0 : (t185 == 0) = false := beq_eq_false_iff_ne.mpr c34
    have c34b1 : (t185 != 0) = true := bne_iff_ne.mpr c34
    by_cases c48 : t185 = 1
    ·rw [if_pos c48] at H
     have c48b0 : (t185 == 1) = true := beq_iff_eq.mpr c48
     have c48b1 : (t185 != 1) = false := bne_eq_false_iff_eq.mpr c48
     clear c48
     replace H := Option.bind_eq_some_iff.mp H
     obtain ⟨⟨t193, t194⟩, A490, H⟩ := H
     replace H : (some (t193, x175001_2, t194)) = some (r1, r2, r3) := H
     have A49 := Aside0.mk A490
     clear A490
     simp only [Option.some.injEq, Prod.mk.injEq] at H
     obtain ⟨rfl, rfl, rfl⟩ := H
     go_wp2_with (first | ((with_reducible refine gate_callee (f := 71) rfl ?_); refine goesL_ (some 29) rfl rfl Try.func71 (by kernel_rfl) rfl #[.pointer (some ⟨g, 0, none⟩), .int .i64 30] rfl (by (try simp only [List.map_toArray, List.map_cons, List.map_nil]) <;> rfl) ?_; (with_reducible refine (spec_l6Rd_pick.calls kj2 g s0_0 x1001_2 30 t185 t186 w0 _ ?side1 ?side2 A33.out).mono ?_); (case side1 => repeat (with_reducible first | exact HI0.out | apply sA | apply sN | apply sD | apply sS | refine IsS84.far ?_ NB0_171.out _ | refine IsS84.far ?_ NB0_174.out _)); (case side2 => repeat (with_reducible first | exact HB.out | apply bA | apply bN | apply b1 | refine below_set ?_ (IsS84.ge HI0.out) | refine below_set ?_ GE171.out | refine below_set ?_ GE174.out)); rintro e w50 ⟨rfl, hi, hb, hk⟩; refine ⟨_, rfl, ?_⟩; replace BK171 := Aside0.mk (KeepBut.blk hk (g' := gb171) (o := .cells #[.int .i64 0, .int .i64 0] 27 (0, 0)) (by exact blkU BK171.out) NB171_0.out (by simp)); replace BK174 := Aside0.mk (KeepBut.blk hk (g' := gb174) (o := .cells #[.int .i64 t172, .int .i64 x175001_2] 27 (0, 0)) (by exact blkU BK174.out) NB174_0.out (by simp)); replace HK := Aside0.mk (KeepBut.trans (by repeat (with_reducible first | exact HK.out | apply pS | apply pN | apply pD | apply pA | refine keep_far ?_ GW171.out _ | refine keep_far ?_ GW174.out _)) hk (.inl rfl)); replace HB := Aside0.mk (hb); replace HI0 := Aside0.mk (hi); (try clear hb); (try clear hb2); (try clear hk); (try clear hi)) | ((with_reducible refine gate_callee (f := 71) rfl ?_); refine goesL_ (some 41) rfl rfl Try.func71 (by kernel_rfl) rfl #[.pointer (some ⟨g, 0, none⟩), .int .i64 6] rfl (by (try simp only [List.map_toArray, List.map_cons, List.map_nil]) <;> rfl) ?_; (with_reducible refine (spec_l6Rd_pick.calls kj2 g s0_0 t186 6 t193 t194 w0 _ ?side1 ?side2 A49.out).mono ?_); (case side1 => repeat (with_reducible first | exact HI0.out | apply sA | apply sN | apply sD | apply sS | refine IsS84.far ?_ NB0_171.out _ | refine IsS84.far ?_ NB0_174.out _)); (case side2 => repeat (with_reducible first | exact HB.out | apply bA | apply bN | apply b1 | refine below_set ?_ (IsS84.ge HI0.out) | refine below_set ?_ GE171.out | refine below_set ?_ GE174.out)); rintro e w51 ⟨rfl, hi, hb, hk⟩; refine ⟨_, rfl, ?_⟩; replace BK171 := Aside0.mk (KeepBut.blk hk (g' := gb171) (o := .cells #[.int .i64 0, .int .i64 0] 27 (0, 0)) (by exact blkU BK171.out) NB171_0.out (by simp)); replace BK174 := Aside0.mk (KeepBut.blk hk (g' := gb174) (o := .cells #[.int .i64 t172, .int .i64 x175001_2] 27 (0, 0)) (by exact blkU BK174.out) NB174_0.out (by simp)); replace HK := Aside0.mk (KeepBut.trans (by repeat (with_reducible first | exact HK.out | apply pS | apply pN | apply pD | apply pA | refine keep_far ?_ GW171.out _ | refine keep_far ?_ GW174.out _)) hk (.inl rfl)); replace HB := Aside0.mk (hb); replace HI0 := Aside0.mk (hi); (try clear hb); (try clear hb2); (try clear hk); (try clear hi); have hnb52 := NB174_171.out; have hnc52 := NB171_174.out; have hnb53 := NB174_0.out; have hnc53 := NB0_174.out; have hcz54_0 : w51.cell? ⟨gb174, 0, none⟩ = some (.int .i64 t172) := (blk_cell BK174.out 0).trans rfl; have hcz54_1 : w51.cell? ⟨gb174, 1, none⟩ = some (.int .i64 x175001_2) := (blk_cell BK174.out 1).trans rfl; have hfz54_0 := blk_frozen BK174.out 0; have hfz54_1 := blk_frozen BK174.out 1; have hnb55 := NB171_0.out; have hnc55 := NB0_171.out; have hcz56_0 : w51.cell? ⟨gb171, 0, none⟩ = some (.int .i64 0) := (blk_cell BK171.out 0).trans rfl; have hcz56_1 : w51.cell? ⟨gb171, 1, none⟩ = some (.int .i64 0) := (blk_cell BK171.out 1).trans rfl; have hfz56_0 := blk_frozen BK171.out 0; have hfz56_1 := blk_frozen BK171.out 1))
     refine bodyPost_ret (results_cell_row rfl _ _ gb171 27 #[.int .i64 t193, .int .i64 x175001_2] (0, 0) _ rfl (by (with_reducible repeat (first | apply kN | apply kD | apply kA)); refine blk_put (cs := #[.int .i64 t193, .int .i64 0]) ?_ 1 _ rfl; (with_reducible repeat (first | apply kN | apply kD | apply kA)); refine blk_put (cs := #[.int .i64 0, .int .i64 0]) ?_ 0 _ rfl; (with_reducible repeat (first | apply kN | apply kD | apply kA)); refine blk_far ?_ NB171_174.out _; exact blkU BK171.out) Try.underlying27 rfl (by kernel_rfl)) rfl ?_
     exact ⟨by first | rfl | (simp [errW_none, errW_some] <;> rfl) | (simp [*, errW_none, errW_some] <;> rfl), by repeat (with_reducible first | exact HI0.out | apply sA | apply sN | apply sD | apply sS | refine IsS84.far ?_ NB0_171.out _ | refine IsS84.far ?_ NB0_174.out _), by repeat (with_reducible first | exact HB.out | apply bA | apply bN | apply b1 | refine below_set ?_ (IsS84.ge HI0.out) | refine below_set ?_ GE171.out | refine below_set ?_ GE174.out), by repeat (with_reducible first | exact HK.out | apply pS | apply pN | apply pD | apply pA | refine keep_far ?_ GW171.out _ | refine keep_far ?_ GW174.out _)⟩
    ·rw [if_neg c48] at H
     have c48b0 : (t185 == 1) = false := beq_eq_false_iff_ne.mpr c48
     have c48b1 : (t185 != 1) = true := bne_iff_ne.mpr c48
     simp only [Option.some.injEq, Prod.mk.injEq] at H
     obtain ⟨rfl, rfl, rfl⟩ := H
     go_wp2_with (first | ((with_reducible refine gate_callee (f := 71) rfl ?_); refine goesL_ (some 29) rfl rfl Try.func71 (by kernel_rfl) rfl #[.pointer (some ⟨g, 0, none⟩), .int .i64 30] rfl (by (try simp only [List.map_toArray, List.map_cons, List.map_nil]) <;> rfl) ?_; (with_reducible refine (spec_l6Rd_pick.calls kj2 g s0_0 x1001_2 30 t185 t186 w0 _ ?side1 ?side2 A33.out).mono ?_); (case side1 => repeat (with_reducible first | exact HI0.out | apply sA | apply sN | apply sD | apply sS | refine IsS84.far ?_ NB0_171.out _ | refine IsS84.far ?_ NB0_174.out _)); (case side2 => repeat (with_reducible first | exact HB.out | apply bA | apply bN | apply b1 | refine below_set ?_ (IsS84.ge HI0.out) | refine below_set ?_ GE171.out | refine below_set ?_ GE174.out)); rintro e w57 ⟨rfl, hi, hb, hk⟩; refine ⟨_, rfl, ?_⟩; replace BK171 := Aside0.mk (KeepBut.blk hk (g' := gb171) (o := .cells #[.int .i64 0, .int .i64 0] 27 (0, 0)) (by exact blkU BK171.out) NB171_0.out (by simp)); replace BK174 := Aside0.mk (KeepBut.blk hk (g' := gb174) (o := .cells #[.int .i64 t172, .int .i64 x175001_2] 27 (0, 0)) (by exact blkU BK174.out) NB174_0.out (by simp)); replace HK := Aside0.mk (KeepBut.trans (by repeat (with_reducible first | exact HK.out | apply pS | apply pN | apply pD | apply pA | refine keep_far ?_ GW171.out _ | refine keep_far ?_ GW174.out _)) hk (.inl rfl)); replace HB := Aside0.mk (hb); replace HI0 := Aside0.mk (hi); (try clear hb); (try clear hb2); (try clear hk); (try clear hi); have hnb58 := NB174_171.out; have hnc58 := NB171_174.out; have hnb59 := NB174_0.out; have hnc59 := NB0_174.out; have hcz60_0 : w57.cell? ⟨gb174, 0, none⟩ = some (.int .i64 t172) := (blk_cell BK174.out 0).trans rfl; have hcz60_1 : w57.cell? ⟨gb174, 1, none⟩ = some (.int .i64 x175001_2) := (blk_cell BK174.out 1).trans rfl; have hfz60_0 := blk_frozen BK174.out 0; have hfz60_1 := blk_frozen BK174.out 1; have hnb61 := NB171_0.out; have hnc61 := NB0_171.out; have hcz62_0 : w57.cell? ⟨gb171, 0, none⟩ = some (.int .i64 0) := (blk_cell BK171.out 0).trans rfl; have hcz62_1 : w57.cell? ⟨gb171, 1, none⟩ = some (.int .i64 0) := (blk_cell BK171.out 1).trans rfl; have hfz62_0 := blk_frozen BK171.out 0; have hfz62_1 := blk_frozen BK171.out 1))
     refine bodyPost_ret (results_cell_row rfl _ _ gb171 27 #[.int .i64 t172, .int .i64 x175001_2] (0, 0) _ rfl (by (with_reducible repeat (first | apply kN | apply kD | apply kA)); refine blk_put (cs := #[.int .i64 t172, .int .i64 0]) ?_ 1 _ rfl; (with_reducible repeat (first | apply kN | apply kD | apply kA)); refine blk_put (cs := #[.int .i64 0, .int .i64 0]) ?_ 0 _ rfl; exact blkU BK171.out) Try.underlying27 rfl (by kernel_rfl)) rfl ?_
     exact ⟨by first | rfl | (simp [errW_none, errW_some] <;> rfl) | (simp [*, errW_none, errW_some] <;> rfl), by repeat (with_reducible first | exact HI0.out | apply sA | apply sN | apply sD | apply sS | refine IsS84.far ?_ NB0_171.out _ | refine IsS84.far ?_ NB0_174.out _), by repeat (with_reducible first | exact HB.out | apply bA | apply bN | apply b1 | refine below_set ?_ (IsS84.ge HI0.out) | refine below_set ?_ GE171.out | refine below_set ?_ GE174.out), by repeat (with_reducible first | exact HK.out | apply pS | apply pN | apply pD | apply pA | refine keep_far ?_ GW171.out _ | refine keep_far ?_ GW174.out _)⟩
def spec_l71Good.f (k : Nat) (s0_0 : List Int) (s0_1 : Int) : Option (Int × Int × Int) := (spec_l71Val.f k s0_0 s0_1).bind fun bt196 => ((spec_ValOk.f bt196.1 bt196.2.1).bind fun t200 => (if t200 = true then (some (bt196.1, bt196.2.1, bt196.2.2)) else (some (1, 1, bt196.2.2))))
theorem spec_l71Good.mono : ∀ a0 a1 k, LeO (spec_l71Good.f k a0 a1) (spec_l71Good.f (k + 1) a0 a1) := by
 intro a0 a1 k
 unfold spec_l71Good.f
 repeat' first
   | (with_reducible exact spec_l71Val.mono _ _ _)
   | (with_reducible exact LeO.refl _)
   | (with_reducible exact LeO.none _)
   | (with_reducible refine LeO.ite ?_ ?_)
   | (with_reducible refine LeO.bind ?_ (fun _ => ?_))
   | exact spec_l71Val.mono _ _ _
   | exact LeO.none _
   | refine LeO.ite ?_ ?_
   | refine LeO.bind ?_ (fun _ => ?_)
theorem spec_l71Good.calls (k : Nat) (g : Nat) (s0_0 : List Int) (s0_1 : Int) (r1 : Int) (r2 : Int) (r3 : Int) (w0 w : World) (hI : IsS84 w0 w g s0_0 s0_1) (hB : Below w0.heap.size w0 w) (h : spec_l71Good.f k s0_0 s0_1 = some (r1, r2, r3)) :
  Calls Try.prog 103 #[.pointer (some ⟨g, 0, none⟩)] w fun e w' => e = .returned (.agg #[.int .i64 r1, .int .i64 r2]) ∧ IsS84 w0 w' g s0_0 r3 ∧ Below w0.heap.size w0 w' ∧ KeepBut w w' g none := by
 have hu27 := Try.underlying27
 have HI0 := Aside0.mk hI
 have HK := Aside0.mk (KeepBut.refl w g none)
 have HL := Aside0.mk hB.size
 clear hI
 have HW0 := Aside0.mk hB.size
 have HB := Aside0.mk hB
 clear hB
 have H : ((spec_l71Val.f k s0_0 s0_1).bind fun bt196 => ((spec_ValOk.f bt196.1 bt196.2.1).bind fun t200 => (if t200 = true then (some (bt196.1, bt196.2.1, bt196.2.2)) else (some (1, 1, bt196.2.2))))) = some (r1, r2, r3) := h
 clear h
 replace H := Option.bind_eq_some_iff.mp H
 obtain ⟨⟨t196, t197, t198⟩, A20, H⟩ := H
 replace H : ((spec_ValOk.f t196 t197).bind fun t200 => (if t200 = true then (some (t196, t197, t198)) else (some (1, 1, t198)))) = some (r1, r2, r3) := H
 have A2 := Aside0.mk A20
 clear A20
 replace H := Option.bind_eq_some_iff.mp H
 obtain ⟨t200, A30, H⟩ := H
 replace H : (if t200 = true then (some (t196, t197, t198)) else (some (1, 1, t198))) = some (r1, r2, r3) := H
 have A3 := Aside0.mk A30
 clear A30
 by_cases c4 : t200 = true
 ·subst c4
  have H1 : (some (t196, t197, t198)) = some (r1, r2, r3) := by rw [if_pos rfl] at H; exact H
  clear H
  have H := H1
  clear H1
  simp only [Option.some.injEq, Prod.mk.injEq] at H
  obtain ⟨rfl, rfl, rfl⟩ := H
  go_enter Try.func103, Try.ntmps103
  go_wp2_with (first | ((with_reducible refine gate_dst (N := 2) rfl ?_); refine box_event ?hg (N := 2) ?hd (cs := #[.int .i64 0, .int .i64 0]) (t := 27) ?hr ?_; (case hd => rfl); (case hg => rfl); (case hr => first | (go_simp; done) | (go_simp; rfl)); intro gb195 hg w5 hbox hb; have n0_ := Aside0.mk (IsS84.below (by repeat (with_reducible first | exact HI0.out | apply sA | apply sN | apply sD | apply sS)) hb); have n1_ := Aside0.mk (KeepBut.trans (by repeat (with_reducible first | exact HK.out | apply pS | apply pN | apply pD | apply pA)) (KeepBut.of_below hb g none) (.inl rfl)); have n2_ := Aside0.mk (below_step (by repeat (with_reducible first | exact HB.out | apply bA | apply bN | apply b1 | refine below_set ?_ (IsS84.ge HI0.out))) hb); have n3_ := Aside0.mk (hbox); have n4_ := Aside0.mk ((by rw [hg]; exact (keep_size (w := w) (g := g) (row := none) (by repeat (with_reducible first | exact HK.out | apply pS | apply pN | apply pD | apply pA))) : w.heap.size ≤ gb195)); have n5_ := Aside0.mk ((Nat.le_trans HW0.out (by rw [hg]; exact (keep_size (w := w) (g := g) (row := none) (by repeat (with_reducible first | exact HK.out | apply pS | apply pN | apply pD | apply pA))) : w.heap.size ≤ gb195) : w0.heap.size ≤ gb195)); have n6_ := Aside0.mk ((by rw [hg]; exact Nat.ne_of_lt (IsS84.lt (show IsS84 w0 _ g s0_0 s0_1 from by repeat (with_reducible first | exact HI0.out | apply sA | apply sN | apply sD | apply sS))) : g ≠ gb195)); have n7_ := Aside0.mk ((by rw [hg]; exact Nat.ne_of_gt (IsS84.lt (show IsS84 w0 _ g s0_0 s0_1 from by repeat (with_reducible first | exact HI0.out | apply sA | apply sN | apply sD | apply sS))) : gb195 ≠ g)); clear HI0; clear HK; clear HB; have HI0 := n0_; have HK := n1_; have HB := n2_; have BK195 := n3_; have GW195 := n4_; have GE195 := n5_; have NB0_195 := n6_; have NB195_0 := n7_; clear n0_ n1_ n2_ n3_ n4_ n5_ n6_ n7_; clear hb hbox hg) | ((with_reducible refine gate_callee (f := 91) rfl ?_); refine goesL_ (some 5) rfl rfl Try.func91 (by kernel_rfl) rfl #[.pointer (some ⟨g, 0, none⟩)] rfl (by (try simp only [List.map_toArray, List.map_cons, List.map_nil]) <;> rfl) ?_; (with_reducible refine (spec_l71Val.calls k g s0_0 s0_1 t196 t197 t198 w0 _ ?side1 ?side2 A2.out).mono ?_); (case side1 => repeat (with_reducible first | exact HI0.out | apply sA | apply sN | apply sD | apply sS | refine IsS84.far ?_ NB0_195.out _)); (case side2 => repeat (with_reducible first | exact HB.out | apply bA | apply bN | apply b1 | refine below_set ?_ (IsS84.ge HI0.out) | refine below_set ?_ GE195.out)); rintro e w6 ⟨rfl, hi, hb, hk⟩; refine ⟨_, rfl, ?_⟩; replace BK195 := Aside0.mk (KeepBut.blk hk (g' := gb195) (o := .cells #[.int .i64 0, .int .i64 0] 27 (0, 0)) (by exact blkU BK195.out) NB195_0.out (by simp)); replace HK := Aside0.mk (KeepBut.trans (by repeat (with_reducible first | exact HK.out | apply pS | apply pN | apply pD | apply pA | refine keep_far ?_ GW195.out _)) hk (.inl rfl)); replace HB := Aside0.mk (hb); replace HI0 := Aside0.mk (hi); (try clear hb); (try clear hb2); (try clear hk); (try clear hi)) | ((with_reducible refine gate_dst (N := 3) rfl ?_); refine box_event ?hg (N := 3) ?hd (cs := #[.int .i64 0, .int .i64 0]) (t := 27) ?hr ?_; (case hd => rfl); (case hg => rfl); (case hr => first | (go_simp; done) | (go_simp; rfl)); intro gb199 hg w7 hbox hb; have n0_ := Aside0.mk (IsS84.below (by repeat (with_reducible first | exact HI0.out | apply sA | apply sN | apply sD | apply sS | refine IsS84.far ?_ NB0_195.out _)) hb); have n1_ := Aside0.mk (blk_below (g := gb195) (o := .cells #[.int .i64 0, .int .i64 0] 27 (0, 0)) (by exact blkU BK195.out) hb); have n2_ := Aside0.mk (KeepBut.trans (by repeat (with_reducible first | exact HK.out | apply pS | apply pN | apply pD | apply pA | refine keep_far ?_ GW195.out _)) (KeepBut.of_below hb g none) (.inl rfl)); have n3_ := Aside0.mk (below_step (by repeat (with_reducible first | exact HB.out | apply bA | apply bN | apply b1 | refine below_set ?_ (IsS84.ge HI0.out) | refine below_set ?_ GE195.out)) hb); have n4_ := Aside0.mk (hbox); have n5_ := Aside0.mk ((by rw [hg]; exact (keep_size (w := w) (g := g) (row := none) (by repeat (with_reducible first | exact HK.out | apply pS | apply pN | apply pD | apply pA | refine keep_far ?_ GW195.out _))) : w.heap.size ≤ gb199)); have n6_ := Aside0.mk ((Nat.le_trans HW0.out (by rw [hg]; exact (keep_size (w := w) (g := g) (row := none) (by repeat (with_reducible first | exact HK.out | apply pS | apply pN | apply pD | apply pA | refine keep_far ?_ GW195.out _))) : w.heap.size ≤ gb199) : w0.heap.size ≤ gb199)); have n7_ := Aside0.mk ((by rw [hg]; exact Nat.ne_of_lt (blk_lt (g := gb195) (o := .cells #[.int .i64 0, .int .i64 0] 27 (0, 0)) (by exact blkU BK195.out)) : gb195 ≠ gb199)); have n8_ := Aside0.mk ((by rw [hg]; exact Nat.ne_of_gt (blk_lt (g := gb195) (o := .cells #[.int .i64 0, .int .i64 0] 27 (0, 0)) (by exact blkU BK195.out)) : gb199 ≠ gb195)); have n9_ := Aside0.mk ((by rw [hg]; exact Nat.ne_of_lt (IsS84.lt (show IsS84 w0 _ g s0_0 t198 from by repeat (with_reducible first | exact HI0.out | apply sA | apply sN | apply sD | apply sS | refine IsS84.far ?_ NB0_195.out _))) : g ≠ gb199)); have n10_ := Aside0.mk ((by rw [hg]; exact Nat.ne_of_gt (IsS84.lt (show IsS84 w0 _ g s0_0 t198 from by repeat (with_reducible first | exact HI0.out | apply sA | apply sN | apply sD | apply sS | refine IsS84.far ?_ NB0_195.out _))) : gb199 ≠ g)); clear HI0; clear BK195; clear HK; clear HB; have HI0 := n0_; have BK195 := n1_; have HK := n2_; have HB := n3_; have BK199 := n4_; have GW199 := n5_; have GE199 := n6_; have NB195_199 := n7_; have NB199_195 := n8_; have NB0_199 := n9_; have NB199_0 := n10_; clear n0_ n1_ n2_ n3_ n4_ n5_ n6_ n7_ n8_ n9_ n10_; clear hb hbox hg; have hnb8 := NB199_195.out; have hnc8 := NB195_199.out; have hnb9 := NB199_0.out; have hnc9 := NB0_199.out; have hcz10_0 : w7.cell? ⟨gb199, 0, none⟩ = some (.int .i64 0) := (blk_cell BK199.out 0).trans rfl; have hcz10_1 : w7.cell? ⟨gb199, 1, none⟩ = some (.int .i64 0) := (blk_cell BK199.out 1).trans rfl; have hfz10_0 := blk_frozen BK199.out 0; have hfz10_1 := blk_frozen BK199.out 1) | ((with_reducible refine gate_callee (f := 58) rfl ?_); refine goesL_ (some 7) rfl rfl Try.func58 (by kernel_rfl) rfl #[.agg #[.int .i64 t196, .int .i64 t197]] rfl (by (try simp only [List.map_toArray, List.map_cons, List.map_nil]) <;> rfl) ?_; (with_reducible refine (spec_ValOk.calls t196 t197 true _ A3.out).mono ?_); rintro e w11 ⟨rfl, hb⟩; refine ⟨_, rfl, ?_⟩; have n0_ := Aside0.mk (IsS84.below (show IsS84 w0 ((w7.setCell ⟨gb199, 0, none⟩ (.int .i64 t196)).setCell ⟨gb199, 1, none⟩ (.int .i64 t197)) g s0_0 t198 from by repeat (with_reducible first | exact HI0.out | apply sA | apply sN | apply sD | apply sS | refine IsS84.far ?_ NB0_195.out _ | refine IsS84.far ?_ NB0_199.out _)) hb); have n1_ := Aside0.mk (blk_below (g := gb195) (o := .cells #[.int .i64 0, .int .i64 0] 27 (0, 0)) (by (with_reducible repeat (first | apply kN | apply kD | apply kA)); refine blk_far ?_ NB195_199.out _; (with_reducible repeat (first | apply kN | apply kD | apply kA)); refine blk_far ?_ NB195_199.out _; exact blkU BK195.out) hb); have n2_ := Aside0.mk (blk_below (g := gb199) (o := .cells #[.int .i64 t196, .int .i64 t197] 27 (0, 0)) (by (with_reducible repeat (first | apply kN | apply kD | apply kA)); refine blk_put (cs := #[.int .i64 t196, .int .i64 0]) ?_ 1 _ rfl; (with_reducible repeat (first | apply kN | apply kD | apply kA)); refine blk_put (cs := #[.int .i64 0, .int .i64 0]) ?_ 0 _ rfl; exact blkU BK199.out) hb); have n3_ := Aside0.mk (KeepBut.trans (by repeat (with_reducible first | exact HK.out | apply pS | apply pN | apply pD | apply pA | refine keep_far ?_ GW195.out _ | refine keep_far ?_ GW199.out _)) (KeepBut.of_below hb g none) (.inl rfl)); have n4_ := Aside0.mk (below_step (by repeat (with_reducible first | exact HB.out | apply bA | apply bN | apply b1 | refine below_set ?_ (IsS84.ge HI0.out) | refine below_set ?_ GE195.out | refine below_set ?_ GE199.out)) hb); clear HI0; clear BK195; clear BK199; clear HK; clear HB; have HI0 := n0_; have BK195 := n1_; have BK199 := n2_; have HK := n3_; have HB := n4_; clear n0_ n1_ n2_ n3_ n4_; (try clear hb); (try clear hb2); (try clear hk); (try clear hi); have hcz12_0 : w11.cell? ⟨gb199, 0, none⟩ = some (.int .i64 t196) := (blk_cell BK199.out 0).trans rfl; have hcz12_1 : w11.cell? ⟨gb199, 1, none⟩ = some (.int .i64 t197) := (blk_cell BK199.out 1).trans rfl; have hfz12_0 := blk_frozen BK199.out 0; have hfz12_1 := blk_frozen BK199.out 1; have hnb13 := NB195_0.out; have hnc13 := NB0_195.out; have hcz14_0 : w11.cell? ⟨gb195, 0, none⟩ = some (.int .i64 0) := (blk_cell BK195.out 0).trans rfl; have hcz14_1 : w11.cell? ⟨gb195, 1, none⟩ = some (.int .i64 0) := (blk_cell BK195.out 1).trans rfl; have hfz14_0 := blk_frozen BK195.out 0; have hfz14_1 := blk_frozen BK195.out 1))
  refine bodyPost_ret (results_cell_row rfl _ _ gb195 27 #[.int .i64 t196, .int .i64 t197] (0, 0) _ rfl (by (with_reducible repeat (first | apply kN | apply kD | apply kA)); refine blk_put (cs := #[.int .i64 t196, .int .i64 0]) ?_ 1 _ rfl; (with_reducible repeat (first | apply kN | apply kD | apply kA)); refine blk_put (cs := #[.int .i64 0, .int .i64 0]) ?_ 0 _ rfl; exact blkU BK195.out) Try.underlying27 rfl (by kernel_rfl)) rfl ?_
  exact ⟨by first | rfl | (simp [errW_none, errW_some] <;> rfl) | (simp [*, errW_none, errW_some] <;> rfl), by repeat (with_reducible first | exact HI0.out | apply sA | apply sN | apply sD | apply sS | refine IsS84.far ?_ NB0_195.out _ | refine IsS84.far ?_ NB0_199.out _), by repeat (with_reducible first | exact HB.out | apply bA | apply bN | apply b1 | refine below_set ?_ (IsS84.ge HI0.out) | refine below_set ?_ GE195.out | refine below_set ?_ GE199.out), by repeat (with_reducible first | exact HK.out | apply pS | apply pN | apply pD | apply pA | refine keep_far ?_ GW195.out _ | refine keep_far ?_ GW199.out _)⟩
 ·replace c4 := Bool.eq_false_iff.mpr c4
  subst c4
  have H1 : (some (1, 1, t198)) = some (r1, r2, r3) := by rw [if_neg (show ¬ (false = true) by decide)] at H; exact H
  clear H
  have H := H1
  clear H1
  simp only [Option.some.injEq, Prod.mk.injEq] at H
  obtain ⟨rfl, rfl, rfl⟩ := H
  go_enter Try.func103, Try.ntmps103
  go_wp2_with (first | ((with_reducible refine gate_dst (N := 2) rfl ?_); refine box_event ?hg (N := 2) ?hd (cs := #[.int .i64 0, .int .i64 0]) (t := 27) ?hr ?_; (case hd => rfl); (case hg => rfl); (case hr => first | (go_simp; done) | (go_simp; rfl)); intro gb195 hg w15 hbox hb; have n0_ := Aside0.mk (IsS84.below (by repeat (with_reducible first | exact HI0.out | apply sA | apply sN | apply sD | apply sS)) hb); have n1_ := Aside0.mk (KeepBut.trans (by repeat (with_reducible first | exact HK.out | apply pS | apply pN | apply pD | apply pA)) (KeepBut.of_below hb g none) (.inl rfl)); have n2_ := Aside0.mk (below_step (by repeat (with_reducible first | exact HB.out | apply bA | apply bN | apply b1 | refine below_set ?_ (IsS84.ge HI0.out))) hb); have n3_ := Aside0.mk (hbox); have n4_ := Aside0.mk ((by rw [hg]; exact (keep_size (w := w) (g := g) (row := none) (by repeat (with_reducible first | exact HK.out | apply pS | apply pN | apply pD | apply pA))) : w.heap.size ≤ gb195)); have n5_ := Aside0.mk ((Nat.le_trans HW0.out (by rw [hg]; exact (keep_size (w := w) (g := g) (row := none) (by repeat (with_reducible first | exact HK.out | apply pS | apply pN | apply pD | apply pA))) : w.heap.size ≤ gb195) : w0.heap.size ≤ gb195)); have n6_ := Aside0.mk ((by rw [hg]; exact Nat.ne_of_lt (IsS84.lt (show IsS84 w0 _ g s0_0 s0_1 from by repeat (with_reducible first | exact HI0.out | apply sA | apply sN | apply sD | apply sS))) : g ≠ gb195)); have n7_ := Aside0.mk ((by rw [hg]; exact Nat.ne_of_gt (IsS84.lt (show IsS84 w0 _ g s0_0 s0_1 from by repeat (with_reducible first | exact HI0.out | apply sA | apply sN | apply sD | apply sS))) : gb195 ≠ g)); clear HI0; clear HK; clear HB; have HI0 := n0_; have HK := n1_; have HB := n2_; have BK195 := n3_; have GW195 := n4_; have GE195 := n5_; have NB0_195 := n6_; have NB195_0 := n7_; clear n0_ n1_ n2_ n3_ n4_ n5_ n6_ n7_; clear hb hbox hg) | ((with_reducible refine gate_callee (f := 91) rfl ?_); refine goesL_ (some 5) rfl rfl Try.func91 (by kernel_rfl) rfl #[.pointer (some ⟨g, 0, none⟩)] rfl (by (try simp only [List.map_toArray, List.map_cons, List.map_nil]) <;> rfl) ?_; (with_reducible refine (spec_l71Val.calls k g s0_0 s0_1 t196 t197 t198 w0 _ ?side1 ?side2 A2.out).mono ?_); (case side1 => repeat (with_reducible first | exact HI0.out | apply sA | apply sN | apply sD | apply sS | refine IsS84.far ?_ NB0_195.out _)); (case side2 => repeat (with_reducible first | exact HB.out | apply bA | apply bN | apply b1 | refine below_set ?_ (IsS84.ge HI0.out) | refine below_set ?_ GE195.out)); rintro e w16 ⟨rfl, hi, hb, hk⟩; refine ⟨_, rfl, ?_⟩; replace BK195 := Aside0.mk (KeepBut.blk hk (g' := gb195) (o := .cells #[.int .i64 0, .int .i64 0] 27 (0, 0)) (by exact blkU BK195.out) NB195_0.out (by simp)); replace HK := Aside0.mk (KeepBut.trans (by repeat (with_reducible first | exact HK.out | apply pS | apply pN | apply pD | apply pA | refine keep_far ?_ GW195.out _)) hk (.inl rfl)); replace HB := Aside0.mk (hb); replace HI0 := Aside0.mk (hi); (try clear hb); (try clear hb2); (try clear hk); (try clear hi)) | ((with_reducible refine gate_dst (N := 3) rfl ?_); refine box_event ?hg (N := 3) ?hd (cs := #[.int .i64 0, .int .i64 0]) (t := 27) ?hr ?_; (case hd => rfl); (case hg => rfl); (case hr => first | (go_simp; done) | (go_simp; rfl)); intro gb199 hg w17 hbox hb; have n0_ := Aside0.mk (IsS84.below (by repeat (with_reducible first | exact HI0.out | apply sA | apply sN | apply sD | apply sS | refine IsS84.far ?_ NB0_195.out _)) hb); have n1_ := Aside0.mk (blk_below (g := gb195) (o := .cells #[.int .i64 0, .int .i64 0] 27 (0, 0)) (by exact blkU BK195.out) hb); have n2_ := Aside0.mk (KeepBut.trans (by repeat (with_reducible first | exact HK.out | apply pS | apply pN | apply pD | apply pA | refine keep_far ?_ GW195.out _)) (KeepBut.of_below hb g none) (.inl rfl)); have n3_ := Aside0.mk (below_step (by repeat (with_reducible first | exact HB.out | apply bA | apply bN | apply b1 | refine below_set ?_ (IsS84.ge HI0.out) | refine below_set ?_ GE195.out)) hb); have n4_ := Aside0.mk (hbox); have n5_ := Aside0.mk ((by rw [hg]; exact (keep_size (w := w) (g := g) (row := none) (by repeat (with_reducible first | exact HK.out | apply pS | apply pN | apply pD | apply pA | refine keep_far ?_ GW195.out _))) : w.heap.size ≤ gb199)); have n6_ := Aside0.mk ((Nat.le_trans HW0.out (by rw [hg]; exact (keep_size (w := w) (g := g) (row := none) (by repeat (with_reducible first | exact HK.out | apply pS | apply pN | apply pD | apply pA | refine keep_far ?_ GW195.out _))) : w.heap.size ≤ gb199) : w0.heap.size ≤ gb199)); have n7_ := Aside0.mk ((by rw [hg]; exact Nat.ne_of_lt (blk_lt (g := gb195) (o := .cells #[.int .i64 0, .int .i64 0] 27 (0, 0)) (by exact blkU BK195.out)) : gb195 ≠ gb199)); have n8_ := Aside0.mk ((by rw [hg]; exact Nat.ne_of_gt (blk_lt (g := gb195) (o := .cells #[.int .i64 0, .int .i64 0] 27 (0, 0)) (by exact blkU BK195.out)) : gb199 ≠ gb195)); have n9_ := Aside0.mk ((by rw [hg]; exact Nat.ne_of_lt (IsS84.lt (show IsS84 w0 _ g s0_0 t198 from by repeat (with_reducible first | exact HI0.out | apply sA | apply sN | apply sD | apply sS | refine IsS84.far ?_ NB0_195.out _))) : g ≠ gb199)); have n10_ := Aside0.mk ((by rw [hg]; exact Nat.ne_of_gt (IsS84.lt (show IsS84 w0 _ g s0_0 t198 from by repeat (with_reducible first | exact HI0.out | apply sA | apply sN | apply sD | apply sS | refine IsS84.far ?_ NB0_195.out _))) : gb199 ≠ g)); clear HI0; clear BK195; clear HK; clear HB; have HI0 := n0_; have BK195 := n1_; have HK := n2_; have HB := n3_; have BK199 := n4_; have GW199 := n5_; have GE199 := n6_; have NB195_199 := n7_; have NB199_195 := n8_; have NB0_199 := n9_; have NB199_0 := n10_; clear n0_ n1_ n2_ n3_ n4_ n5_ n6_ n7_ n8_ n9_ n10_; clear hb hbox hg; have hnb18 := NB199_195.out; have hnc18 := NB195_199.out; have hnb19 := NB199_0.out; have hnc19 := NB0_199.out; have hcz20_0 : w17.cell? ⟨gb199, 0, none⟩ = some (.int .i64 0) := (blk_cell BK199.out 0).trans rfl; have hcz20_1 : w17.cell? ⟨gb199, 1, none⟩ = some (.int .i64 0) := (blk_cell BK199.out 1).trans rfl; have hfz20_0 := blk_frozen BK199.out 0; have hfz20_1 := blk_frozen BK199.out 1) | ((with_reducible refine gate_callee (f := 58) rfl ?_); refine goesL_ (some 7) rfl rfl Try.func58 (by kernel_rfl) rfl #[.agg #[.int .i64 t196, .int .i64 t197]] rfl (by (try simp only [List.map_toArray, List.map_cons, List.map_nil]) <;> rfl) ?_; (with_reducible refine (spec_ValOk.calls t196 t197 false _ A3.out).mono ?_); rintro e w21 ⟨rfl, hb⟩; refine ⟨_, rfl, ?_⟩; have n0_ := Aside0.mk (IsS84.below (show IsS84 w0 ((w17.setCell ⟨gb199, 0, none⟩ (.int .i64 t196)).setCell ⟨gb199, 1, none⟩ (.int .i64 t197)) g s0_0 t198 from by repeat (with_reducible first | exact HI0.out | apply sA | apply sN | apply sD | apply sS | refine IsS84.far ?_ NB0_195.out _ | refine IsS84.far ?_ NB0_199.out _)) hb); have n1_ := Aside0.mk (blk_below (g := gb195) (o := .cells #[.int .i64 0, .int .i64 0] 27 (0, 0)) (by (with_reducible repeat (first | apply kN | apply kD | apply kA)); refine blk_far ?_ NB195_199.out _; (with_reducible repeat (first | apply kN | apply kD | apply kA)); refine blk_far ?_ NB195_199.out _; exact blkU BK195.out) hb); have n2_ := Aside0.mk (blk_below (g := gb199) (o := .cells #[.int .i64 t196, .int .i64 t197] 27 (0, 0)) (by (with_reducible repeat (first | apply kN | apply kD | apply kA)); refine blk_put (cs := #[.int .i64 t196, .int .i64 0]) ?_ 1 _ rfl; (with_reducible repeat (first | apply kN | apply kD | apply kA)); refine blk_put (cs := #[.int .i64 0, .int .i64 0]) ?_ 0 _ rfl; exact blkU BK199.out) hb); have n3_ := Aside0.mk (KeepBut.trans (by repeat (with_reducible first | exact HK.out | apply pS | apply pN | apply pD | apply pA | refine keep_far ?_ GW195.out _ | refine keep_far ?_ GW199.out _)) (KeepBut.of_below hb g none) (.inl rfl)); have n4_ := Aside0.mk (below_step (by repeat (with_reducible first | exact HB.out | apply bA | apply bN | apply b1 | refine below_set ?_ (IsS84.ge HI0.out) | refine below_set ?_ GE195.out | refine below_set ?_ GE199.out)) hb); clear HI0; clear BK195; clear BK199; clear HK; clear HB; have HI0 := n0_; have BK195 := n1_; have BK199 := n2_; have HK := n3_; have HB := n4_; clear n0_ n1_ n2_ n3_ n4_; (try clear hb); (try clear hb2); (try clear hk); (try clear hi); have hnb22 := NB195_0.out; have hnc22 := NB0_195.out; have hcz23_0 : w21.cell? ⟨gb195, 0, none⟩ = some (.int .i64 0) := (blk_cell BK195.out 0).trans rfl; have hcz23_1 : w21.cell? ⟨gb195, 1, none⟩ = some (.int .i64 0) := (blk_cell BK195.out 1).trans rfl; have hfz23_0 := blk_frozen BK195.out 0; have hfz23_1 := blk_frozen BK195.out 1))
  refine bodyPost_ret (results_cell_row rfl _ _ gb195 27 #[.int .i64 1, .int .i64 1] (0, 0) _ rfl (by (with_reducible repeat (first | apply kN | apply kD | apply kA)); refine blk_put (cs := #[.int .i64 1, .int .i64 0]) ?_ 1 _ rfl; (with_reducible repeat (first | apply kN | apply kD | apply kA)); refine blk_put (cs := #[.int .i64 0, .int .i64 0]) ?_ 0 _ rfl; exact blkU BK195.out) Try.underlying27 rfl (by kernel_rfl)) rfl ?_
  exact ⟨by first | rfl | (simp [errW_none, errW_some] <;> rfl) | (simp [*, errW_none, errW_some] <;> rfl), by repeat (with_reducible first | exact HI0.out | apply sA | apply sN | apply sD | apply sS | refine IsS84.far ?_ NB0_195.out _ | refine IsS84.far ?_ NB0_199.out _), by repeat (with_reducible first | exact HB.out | apply bA | apply bN | apply b1 | refine below_set ?_ (IsS84.ge HI0.out) | refine below_set ?_ GE195.out | refine below_set ?_ GE199.out), by repeat (with_reducible first | exact HK.out | apply pS | apply pN | apply pD | apply pA | refine keep_far ?_ GW195.out _ | refine keep_far ?_ GW199.out _)⟩
end Go.Proofs.Ytmklpbmlgjkbiaa.PS
end
