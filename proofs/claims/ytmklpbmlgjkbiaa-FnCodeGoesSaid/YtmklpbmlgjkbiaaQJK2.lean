/- What the row of JK rests on, part 3. -/
import Derived.Test.YtmklpbmlgjkbiaaProg
import Derived.Below
import Derived.Deep.Draws
import Derived.Deep.AppendLies
import Derived.Maps.AppendAt
import Derived.OwnWalk
import Derived.Laws.BytesArg
import Derived.Laws.MakeOwn
import Derived.Laws.OwnMore
import Derived.Deep.OwnRows
import Derived.Tactics
import Derived.Lib.ConvBytes
import Derived.Laws.Slices
import Derived.WalkKit
import Derived.KernelRfl
import Derived.RowKit3
import Derived.Deep.LoopGhost
import Derived.Deep.QuietTactic
import Derived.BigQuiet
import Derived.WideLaws
import Derived.Deep.DeepCutAuto
import Derived.Deep.CutBlock
import Derived.Deep.RegionHeld3
import Derived.Laws.Rows
import Derived.Lib.AppendStr
import Derived.ArgAppend
import Derived.Laws.IdiomCopy
import Derived.OrdersHeld
import Derived.Laws.BitsLemmas
import Derived.RowKit
import Derived.Laws.StructEq
import Derived.Deep.RegionWith
import Derived.Lib.Bytealg
import Derived.Shelf.Strings.Search3
import Derived.WalkSpells
import Derived.Lib.OthersKept
import Derived.Lib.Hide
import Derived.WalkSmall
import Derived.Laws.EntriesVeiled
import Derived.RegionTactic
import Derived.Test.YtmklpbmlgjkbiaaQJK1
set_option linter.unusedVariables false
set_option linter.unusedSimpArgs false
set_option maxHeartbeats 8000000
set_option maxRecDepth 100000
section
namespace Go.Proofs.Ytmklpbmlgjkbiaa.PS
open Go.RowKit Go.Proofs.YtmklpbmlgjkbiaaW.PrintWords Go.Proofs.YtmklpbmlgjkbiaaW.PrintLast Go.Proofs.YtmklpbmlgjkbiaaW.PrintMore
attribute [local go_sem] max2_int min2_int max_two min_two max_three min_three max_four min_four   -- for this text's walks alone
mutual
def spec_l71Op.j0 : Nat → Int → List Bool → List Int → Int → Int → Int → Int → Int → Int → Int → Option (Int × Int × Int × Int × Int × Int × Int)
 | 0, _, _, _, _, _, _, _, _, _, _ => none
 | k + 1, x1, x6, x1000, x1001, x205000, x205001, x205002, x205003, x205004, x205005 => if 1 < (x6.length : Int) then (if rdOf false x6 1 = true then ((spec_l6Rd_pick.f k x1000 x1001 4).bind fun bt212 => (spec_l71Op.j1 k x1 x6 x1000 bt212.2 x205000 x205001 bt212.1 x205003 x205004 x205005)) else (spec_l71Op.j1 k x1 x6 x1000 x1001 x205000 x205001 x205002 x205003 x205004 x205005)) else (none)
def spec_l71Op.j1 : Nat → Int → List Bool → List Int → Int → Int → Int → Int → Int → Int → Int → Option (Int × Int × Int × Int × Int × Int × Int)
 | 0, _, _, _, _, _, _, _, _, _, _ => none
 | k + 1, x1, x6, x1000, x1001, x205000, x205001, x205002, x205003, x205004, x205005 => if 2 < (x6.length : Int) then (if rdOf false x6 2 = true then ((spec_l6Rd_pick.f k x1000 x1001 x1).bind fun bt215 => (spec_l71Op.j2 k x6 x1000 bt215.2 x205000 x205001 x205002 bt215.1 x205004 x205005)) else (spec_l71Op.j2 k x6 x1000 x1001 x205000 x205001 x205002 x205003 x205004 x205005)) else (none)
def spec_l71Op.j2 : Nat → List Bool → List Int → Int → Int → Int → Int → Int → Int → Int → Option (Int × Int × Int × Int × Int × Int × Int)
 | 0, _, _, _, _, _, _, _, _, _ => none
 | k + 1, x6, x1000, x1001, x205000, x205001, x205002, x205003, x205004, x205005 => if 3 < (x6.length : Int) then (if rdOf false x6 3 = true then ((spec_l71Good.f k x1000 x1001).bind fun bt218 => (spec_l71Op.j3 k x1000 bt218.2.2 x205000 x205001 x205002 x205003 bt218.1 bt218.2.1)) else (spec_l71Op.j3 k x1000 x1001 x205000 x205001 x205002 x205003 x205004 x205005)) else (none)
def spec_l71Op.j3 : Nat → List Int → Int → Int → Int → Int → Int → Int → Int → Option (Int × Int × Int × Int × Int × Int × Int)
 | 0, _, _, _, _, _, _, _, _ => none
 | k + 1, x1000, x1001, x205000, x205001, x205002, x205003, x205004, x205005 => if x205000 = 8 then ((spec_l6Rd_pick.f k x1000 x1001 3).bind fun bt221 => (some (x205000, x205001, x205002, x205003, 1, wrap64 (1 + bt221.1), bt221.2))) else (if x205000 = 13 then ((spec_l6Rd_pick.f k x1000 x1001 2).bind fun bt223 => (some (x205000, x205001, x205002, x205003, 1, bt223.1, bt223.2))) else (some (x205000, x205001, x205002, x205003, x205004, x205005, x1001)))
end
def spec_l71Op.f (k : Nat) (s0_0 : List Int) (s0_1 : Int) (a1 : Int) : Option (Int × Int × Int × Int × Int × Int × Int) := (spec_l6Rd_pick.f k s0_0 s0_1 14).bind fun bt202 => ((spec_l2Form.f k (wrap64 (1 + bt202.1))).bind fun t205 => (if 0 < (t205.length : Int) then (if rdOf false t205 0 = true then ((spec_l6Rd_pick.f k s0_0 bt202.2 4).bind fun bt209 => (spec_l71Op.j0 k a1 t205 s0_0 bt209.2 (wrap64 (1 + bt202.1)) bt209.1 0 0 0 0)) else (spec_l71Op.j0 k a1 t205 s0_0 bt202.2 (wrap64 (1 + bt202.1)) 0 0 0 0 0)) else (none)))
theorem spec_l71Op.mono_l : ∀ k, (∀ y0 y1 y2 y3 y4 y5 y6 y7 y8 y9, LeO (spec_l71Op.j0 k y0 y1 y2 y3 y4 y5 y6 y7 y8 y9) (spec_l71Op.j0 (k + 1) y0 y1 y2 y3 y4 y5 y6 y7 y8 y9)) ∧ (∀ y0 y1 y2 y3 y4 y5 y6 y7 y8 y9, LeO (spec_l71Op.j1 k y0 y1 y2 y3 y4 y5 y6 y7 y8 y9) (spec_l71Op.j1 (k + 1) y0 y1 y2 y3 y4 y5 y6 y7 y8 y9)) ∧ (∀ y0 y1 y2 y3 y4 y5 y6 y7 y8, LeO (spec_l71Op.j2 k y0 y1 y2 y3 y4 y5 y6 y7 y8) (spec_l71Op.j2 (k + 1) y0 y1 y2 y3 y4 y5 y6 y7 y8)) ∧ (∀ y0 y1 y2 y3 y4 y5 y6 y7, LeO (spec_l71Op.j3 k y0 y1 y2 y3 y4 y5 y6 y7) (spec_l71Op.j3 (k + 1) y0 y1 y2 y3 y4 y5 y6 y7))
 | 0 => ⟨fun _ _ _ _ _ _ _ _ _ _ r h => by simp [spec_l71Op.j0] at h, fun _ _ _ _ _ _ _ _ _ _ r h => by simp [spec_l71Op.j1] at h, fun _ _ _ _ _ _ _ _ _ r h => by simp [spec_l71Op.j2] at h, fun _ _ _ _ _ _ _ _ r h => by simp [spec_l71Op.j3] at h⟩
 | k + 1 => by
  obtain ⟨ih0, ih1, ih2, ih3⟩ := spec_l71Op.mono_l k
  refine ⟨?_, ?_, ?_, ?_⟩
  ·intro y0 y1 y2 y3 y4 y5 y6 y7 y8 y9
   unfold spec_l71Op.j0
   repeat' first
   | (with_reducible exact ih0 _ _ _ _ _ _ _ _ _ _)
   | (with_reducible exact ih1 _ _ _ _ _ _ _ _ _ _)
   | (with_reducible exact ih2 _ _ _ _ _ _ _ _ _)
   | (with_reducible exact ih3 _ _ _ _ _ _ _ _)
   | (with_reducible exact spec_l2Form.mono _ _)
   | (with_reducible exact spec_l6Rd_pick.mono _ _ _ _)
   | (with_reducible exact spec_l71Good.mono _ _ _)
   | (with_reducible exact LeO.refl _)
   | (with_reducible exact LeO.none _)
   | (with_reducible refine LeO.ite ?_ ?_)
   | (with_reducible refine LeO.bind ?_ (fun _ => ?_))
   | exact ih0 _ _ _ _ _ _ _ _ _ _
   | exact ih1 _ _ _ _ _ _ _ _ _ _
   | exact ih2 _ _ _ _ _ _ _ _ _
   | exact ih3 _ _ _ _ _ _ _ _
   | exact spec_l2Form.mono _ _
   | exact spec_l6Rd_pick.mono _ _ _ _
   | exact spec_l71Good.mono _ _ _
   | exact LeO.none _
   | refine LeO.ite ?_ ?_
   | refine LeO.bind ?_ (fun _ => ?_)
  ·intro y0 y1 y2 y3 y4 y5 y6 y7 y8 y9
   unfold spec_l71Op.j1
   repeat' first
   | (with_reducible exact ih0 _ _ _ _ _ _ _ _ _ _)
   | (with_reducible exact ih1 _ _ _ _ _ _ _ _ _ _)
   | (with_reducible exact ih2 _ _ _ _ _ _ _ _ _)
   | (with_reducible exact ih3 _ _ _ _ _ _ _ _)
   | (with_reducible exact spec_l2Form.mono _ _)
   | (with_reducible exact spec_l6Rd_pick.mono _ _ _ _)
   | (with_reducible exact spec_l71Good.mono _ _ _)
   | (with_reducible exact LeO.refl _)
   | (with_reducible exact LeO.none _)
   | (with_reducible refine LeO.ite ?_ ?_)
   | (with_reducible refine LeO.bind ?_ (fun _ => ?_))
   | exact ih0 _ _ _ _ _ _ _ _ _ _
   | exact ih1 _ _ _ _ _ _ _ _ _ _
   | exact ih2 _ _ _ _ _ _ _ _ _
   | exact ih3 _ _ _ _ _ _ _ _
   | exact spec_l2Form.mono _ _
   | exact spec_l6Rd_pick.mono _ _ _ _
   | exact spec_l71Good.mono _ _ _
   | exact LeO.none _
   | refine LeO.ite ?_ ?_
   | refine LeO.bind ?_ (fun _ => ?_)
  ·intro y0 y1 y2 y3 y4 y5 y6 y7 y8
   unfold spec_l71Op.j2
   repeat' first
   | (with_reducible exact ih0 _ _ _ _ _ _ _ _ _ _)
   | (with_reducible exact ih1 _ _ _ _ _ _ _ _ _ _)
   | (with_reducible exact ih2 _ _ _ _ _ _ _ _ _)
   | (with_reducible exact ih3 _ _ _ _ _ _ _ _)
   | (with_reducible exact spec_l2Form.mono _ _)
   | (with_reducible exact spec_l6Rd_pick.mono _ _ _ _)
   | (with_reducible exact spec_l71Good.mono _ _ _)
   | (with_reducible exact LeO.refl _)
   | (with_reducible exact LeO.none _)
   | (with_reducible refine LeO.ite ?_ ?_)
   | (with_reducible refine LeO.bind ?_ (fun _ => ?_))
   | exact ih0 _ _ _ _ _ _ _ _ _ _
   | exact ih1 _ _ _ _ _ _ _ _ _ _
   | exact ih2 _ _ _ _ _ _ _ _ _
   | exact ih3 _ _ _ _ _ _ _ _
   | exact spec_l2Form.mono _ _
   | exact spec_l6Rd_pick.mono _ _ _ _
   | exact spec_l71Good.mono _ _ _
   | exact LeO.none _
   | refine LeO.ite ?_ ?_
   | refine LeO.bind ?_ (fun _ => ?_)
  ·intro y0 y1 y2 y3 y4 y5 y6 y7
   unfold spec_l71Op.j3
   repeat' first
   | (with_reducible exact ih0 _ _ _ _ _ _ _ _ _ _)
   | (with_reducible exact ih1 _ _ _ _ _ _ _ _ _ _)
   | (with_reducible exact ih2 _ _ _ _ _ _ _ _ _)
   | (with_reducible exact ih3 _ _ _ _ _ _ _ _)
   | (with_reducible exact spec_l2Form.mono _ _)
   | (with_reducible exact spec_l6Rd_pick.mono _ _ _ _)
   | (with_reducible exact spec_l71Good.mono _ _ _)
   | (with_reducible exact LeO.refl _)
   | (with_reducible exact LeO.none _)
   | (with_reducible refine LeO.ite ?_ ?_)
   | (with_reducible refine LeO.bind ?_ (fun _ => ?_))
   | exact ih0 _ _ _ _ _ _ _ _ _ _
   | exact ih1 _ _ _ _ _ _ _ _ _ _
   | exact ih2 _ _ _ _ _ _ _ _ _
   | exact ih3 _ _ _ _ _ _ _ _
   | exact spec_l2Form.mono _ _
   | exact spec_l6Rd_pick.mono _ _ _ _
   | exact spec_l71Good.mono _ _ _
   | exact LeO.none _
   | refine LeO.ite ?_ ?_
   | refine LeO.bind ?_ (fun _ => ?_)
theorem spec_l71Op.mono : ∀ a0 a1 a2 k, LeO (spec_l71Op.f k a0 a1 a2) (spec_l71Op.f (k + 1) a0 a1 a2) := by
 intro a0 a1 a2 k
 obtain ⟨ih0, ih1, ih2, ih3⟩ := spec_l71Op.mono_l k
 unfold spec_l71Op.f
 repeat' first
   | (with_reducible exact ih0 _ _ _ _ _ _ _ _ _ _)
   | (with_reducible exact ih1 _ _ _ _ _ _ _ _ _ _)
   | (with_reducible exact ih2 _ _ _ _ _ _ _ _ _)
   | (with_reducible exact ih3 _ _ _ _ _ _ _ _)
   | (with_reducible exact spec_l2Form.mono _ _)
   | (with_reducible exact spec_l6Rd_pick.mono _ _ _ _)
   | (with_reducible exact spec_l71Good.mono _ _ _)
   | (with_reducible exact LeO.refl _)
   | (with_reducible exact LeO.none _)
   | (with_reducible refine LeO.ite ?_ ?_)
   | (with_reducible refine LeO.bind ?_ (fun _ => ?_))
   | exact ih0 _ _ _ _ _ _ _ _ _ _
   | exact ih1 _ _ _ _ _ _ _ _ _ _
   | exact ih2 _ _ _ _ _ _ _ _ _
   | exact ih3 _ _ _ _ _ _ _ _
   | exact spec_l2Form.mono _ _
   | exact spec_l6Rd_pick.mono _ _ _ _
   | exact spec_l71Good.mono _ _ _
   | exact LeO.none _
   | refine LeO.ite ?_ ?_
   | refine LeO.bind ?_ (fun _ => ?_)
theorem spec_l71Op.calls (k : Nat) (g : Nat) (s0_0 : List Int) (s0_1 : Int) (a1 : Int) (r1 : Int) (r2 : Int) (r3 : Int) (r4 : Int) (r5 : Int) (r6 : Int) (r7 : Int) (w0 w : World) (hI : IsS84 w0 w g s0_0 s0_1) (hB : Below w0.heap.size w0 w) (h : spec_l71Op.f k s0_0 s0_1 a1 = some (r1, r2, r3, r4, r5, r6, r7)) :
  Calls Try.prog 90 #[.pointer (some ⟨g, 0, none⟩), .int .i64 a1] w fun e w' => e = .returned (.agg #[.int .i64 r1, .int .i64 r2, .int .i64 r3, .int .i64 r4, .int .i64 r5, .int .i64 r6]) ∧ IsS84 w0 w' g s0_0 r7 ∧ Below w0.heap.size w0 w' ∧ KeepBut w w' g none := by
 have hu29 := Try.underlying29
 have hu27 := Try.underlying27
 have HI0 := Aside0.mk hI
 have HK := Aside0.mk (KeepBut.refl w g none)
 have HL := Aside0.mk hB.size
 clear hI
 have HW0 := Aside0.mk hB.size
 have HB := Aside0.mk hB
 clear hB
 have H : ((spec_l6Rd_pick.f k s0_0 s0_1 14).bind fun bt202 => ((spec_l2Form.f k (wrap64 (1 + bt202.1))).bind fun t205 => (if 0 < (t205.length : Int) then (if rdOf false t205 0 = true then ((spec_l6Rd_pick.f k s0_0 bt202.2 4).bind fun bt209 => (spec_l71Op.j0 k a1 t205 s0_0 bt209.2 (wrap64 (1 + bt202.1)) bt209.1 0 0 0 0)) else (spec_l71Op.j0 k a1 t205 s0_0 bt202.2 (wrap64 (1 + bt202.1)) 0 0 0 0 0)) else (none)))) = some (r1, r2, r3, r4, r5, r6, r7) := h
 clear h
 replace H := Option.bind_eq_some_iff.mp H
 obtain ⟨⟨t202, t203⟩, A30, H⟩ := H
 replace H : ((spec_l2Form.f k (wrap64 (1 + t202))).bind fun t205 => (if 0 < (t205.length : Int) then (if rdOf false t205 0 = true then ((spec_l6Rd_pick.f k s0_0 t203 4).bind fun bt209 => (spec_l71Op.j0 k a1 t205 s0_0 bt209.2 (wrap64 (1 + t202)) bt209.1 0 0 0 0)) else (spec_l71Op.j0 k a1 t205 s0_0 t203 (wrap64 (1 + t202)) 0 0 0 0 0)) else (none))) = some (r1, r2, r3, r4, r5, r6, r7) := H
 have A3 := Aside0.mk A30
 clear A30
 replace H := Option.bind_eq_some_iff.mp H
 obtain ⟨t205, A40, H⟩ := H
 replace H : (if 0 < (t205.length : Int) then (if rdOf false t205 0 = true then ((spec_l6Rd_pick.f k s0_0 t203 4).bind fun bt209 => (spec_l71Op.j0 k a1 t205 s0_0 bt209.2 (wrap64 (1 + t202)) bt209.1 0 0 0 0)) else (spec_l71Op.j0 k a1 t205 s0_0 t203 (wrap64 (1 + t202)) 0 0 0 0 0)) else (none)) = some (r1, r2, r3, r4, r5, r6, r7) := H
 have A4 := Aside0.mk A40
 clear A40
 by_cases c5 : 0 < (t205.length : Int)
 ·rw [if_pos c5] at H
  have c5b0 : decide (0 < (t205.length : Int)) = true := decide_eq_true c5
  have c5b1 : decide (0 < t205.length) = true := decide_eq_true (by omega)
  clear c5
  have HC6 := Aside0.mk H
  clear H
  go_enter Try.func90, Try.ntmps90
  go_upto_if 16 with (first | ((with_reducible refine gate_dst (N := 4) rfl ?_); refine box_event ?hg (N := 4) ?hd (cs := #[.int .i64 0, .int .i64 0, .int .i64 0, .int .i64 0, .int .i64 0, .int .i64 0]) (t := 29) ?hr ?_; (case hd => rfl); (case hg => rfl); (case hr => first | (go_simp; done) | (go_simp; rfl)); intro gb201 hg w7 hbox hb; have n0_ := Aside0.mk (IsS84.below (by repeat (with_reducible first | exact HI0.out | apply sA | apply sN | apply sD | apply sS)) hb); have n1_ := Aside0.mk (KeepBut.trans (by repeat (with_reducible first | exact HK.out | apply pS | apply pN | apply pD | apply pA)) (KeepBut.of_below hb g none) (.inl rfl)); have n2_ := Aside0.mk (below_step (by repeat (with_reducible first | exact HB.out | apply bA | apply bN | apply b1 | refine below_set ?_ (IsS84.ge HI0.out))) hb); have n3_ := Aside0.mk (hbox); have n4_ := Aside0.mk ((by rw [hg]; exact (keep_size (w := w) (g := g) (row := none) (by repeat (with_reducible first | exact HK.out | apply pS | apply pN | apply pD | apply pA))) : w.heap.size ≤ gb201)); have n5_ := Aside0.mk ((Nat.le_trans HW0.out (by rw [hg]; exact (keep_size (w := w) (g := g) (row := none) (by repeat (with_reducible first | exact HK.out | apply pS | apply pN | apply pD | apply pA))) : w.heap.size ≤ gb201) : w0.heap.size ≤ gb201)); have n6_ := Aside0.mk ((by rw [hg]; exact Nat.ne_of_lt (IsS84.lt (show IsS84 w0 _ g s0_0 s0_1 from by repeat (with_reducible first | exact HI0.out | apply sA | apply sN | apply sD | apply sS))) : g ≠ gb201)); have n7_ := Aside0.mk ((by rw [hg]; exact Nat.ne_of_gt (IsS84.lt (show IsS84 w0 _ g s0_0 s0_1 from by repeat (with_reducible first | exact HI0.out | apply sA | apply sN | apply sD | apply sS))) : gb201 ≠ g)); clear HI0; clear HK; clear HB; have HI0 := n0_; have HK := n1_; have HB := n2_; have BK201 := n3_; have GW201 := n4_; have GE201 := n5_; have NB0_201 := n6_; have NB201_0 := n7_; clear n0_ n1_ n2_ n3_ n4_ n5_ n6_ n7_; clear hb hbox hg) | ((with_reducible refine gate_callee (f := 71) rfl ?_); refine goesL_ (some 8) rfl rfl Try.func71 (by kernel_rfl) rfl #[.pointer (some ⟨g, 0, none⟩), .int .i64 14] rfl (by (try simp only [List.map_toArray, List.map_cons, List.map_nil]) <;> rfl) ?_; (with_reducible refine (spec_l6Rd_pick.calls k g s0_0 s0_1 14 t202 t203 w0 _ ?side1 ?side2 A3.out).mono ?_); (case side1 => repeat (with_reducible first | exact HI0.out | apply sA | apply sN | apply sD | apply sS | refine IsS84.far ?_ NB0_201.out _)); (case side2 => repeat (with_reducible first | exact HB.out | apply bA | apply bN | apply b1 | refine below_set ?_ (IsS84.ge HI0.out) | refine below_set ?_ GE201.out)); rintro e w8 ⟨rfl, hi, hb, hk⟩; refine ⟨_, rfl, ?_⟩; replace BK201 := Aside0.mk (KeepBut.blk hk (g' := gb201) (o := .cells #[.int .i64 0, .int .i64 0, .int .i64 0, .int .i64 0, .int .i64 0, .int .i64 0] 29 (0, 0)) (by exact blkU BK201.out) NB201_0.out (by simp)); replace HK := Aside0.mk (KeepBut.trans (by repeat (with_reducible first | exact HK.out | apply pS | apply pN | apply pD | apply pA | refine keep_far ?_ GW201.out _)) hk (.inl rfl)); replace HB := Aside0.mk (hb); replace HI0 := Aside0.mk (hi); (try clear hb); (try clear hb2); (try clear hk); (try clear hi)) | ((with_reducible refine gate_dst (N := 5) rfl ?_); refine box_event ?hg (N := 5) ?hd (cs := #[.int .i64 0, .int .i64 0, .int .i64 0, .int .i64 0, .int .i64 0, .int .i64 0]) (t := 29) ?hr ?_; (case hd => rfl); (case hg => rfl); (case hr => first | (go_simp; done) | (go_simp; rfl)); intro gb204 hg w9 hbox hb; have n0_ := Aside0.mk (IsS84.below (by repeat (with_reducible first | exact HI0.out | apply sA | apply sN | apply sD | apply sS | refine IsS84.far ?_ NB0_201.out _)) hb); have n1_ := Aside0.mk (blk_below (g := gb201) (o := .cells #[.int .i64 0, .int .i64 0, .int .i64 0, .int .i64 0, .int .i64 0, .int .i64 0] 29 (0, 0)) (by exact blkU BK201.out) hb); have n2_ := Aside0.mk (KeepBut.trans (by repeat (with_reducible first | exact HK.out | apply pS | apply pN | apply pD | apply pA | refine keep_far ?_ GW201.out _)) (KeepBut.of_below hb g none) (.inl rfl)); have n3_ := Aside0.mk (below_step (by repeat (with_reducible first | exact HB.out | apply bA | apply bN | apply b1 | refine below_set ?_ (IsS84.ge HI0.out) | refine below_set ?_ GE201.out)) hb); have n4_ := Aside0.mk (hbox); have n5_ := Aside0.mk ((by rw [hg]; exact (keep_size (w := w) (g := g) (row := none) (by repeat (with_reducible first | exact HK.out | apply pS | apply pN | apply pD | apply pA | refine keep_far ?_ GW201.out _))) : w.heap.size ≤ gb204)); have n6_ := Aside0.mk ((Nat.le_trans HW0.out (by rw [hg]; exact (keep_size (w := w) (g := g) (row := none) (by repeat (with_reducible first | exact HK.out | apply pS | apply pN | apply pD | apply pA | refine keep_far ?_ GW201.out _))) : w.heap.size ≤ gb204) : w0.heap.size ≤ gb204)); have n7_ := Aside0.mk ((by rw [hg]; exact Nat.ne_of_lt (blk_lt (g := gb201) (o := .cells #[.int .i64 0, .int .i64 0, .int .i64 0, .int .i64 0, .int .i64 0, .int .i64 0] 29 (0, 0)) (by exact blkU BK201.out)) : gb201 ≠ gb204)); have n8_ := Aside0.mk ((by rw [hg]; exact Nat.ne_of_gt (blk_lt (g := gb201) (o := .cells #[.int .i64 0, .int .i64 0, .int .i64 0, .int .i64 0, .int .i64 0, .int .i64 0] 29 (0, 0)) (by exact blkU BK201.out)) : gb204 ≠ gb201)); have n9_ := Aside0.mk ((by rw [hg]; exact Nat.ne_of_lt (IsS84.lt (show IsS84 w0 _ g s0_0 t203 from by repeat (with_reducible first | exact HI0.out | apply sA | apply sN | apply sD | apply sS | refine IsS84.far ?_ NB0_201.out _))) : g ≠ gb204)); have n10_ := Aside0.mk ((by rw [hg]; exact Nat.ne_of_gt (IsS84.lt (show IsS84 w0 _ g s0_0 t203 from by repeat (with_reducible first | exact HI0.out | apply sA | apply sN | apply sD | apply sS | refine IsS84.far ?_ NB0_201.out _))) : gb204 ≠ g)); clear HI0; clear BK201; clear HK; clear HB; have HI0 := n0_; have BK201 := n1_; have HK := n2_; have HB := n3_; have BK204 := n4_; have GW204 := n5_; have GE204 := n6_; have NB201_204 := n7_; have NB204_201 := n8_; have NB0_204 := n9_; have NB204_0 := n10_; clear n0_ n1_ n2_ n3_ n4_ n5_ n6_ n7_ n8_ n9_ n10_; clear hb hbox hg; have hnb10 := NB204_201.out; have hnc10 := NB201_204.out; have hnb11 := NB204_0.out; have hnc11 := NB0_204.out; obtain ⟨hcz12_0, hcz12_1, hcz12_2, hcz12_3, hcz12_4, hcz12_5⟩ := six_cells BK204.out; obtain ⟨hfz12_0, hfz12_1, hfz12_2, hfz12_3, hfz12_4, hfz12_5⟩ := six_marks BK204.out) | ((with_reducible refine gate_callee (f := 57) rfl ?_); refine goesL_ (some 13) rfl rfl Try.func57 (by kernel_rfl) rfl #[.int .i64 (wrap64 (1 + t202))] rfl (by (try simp only [List.map_toArray, List.map_cons, List.map_nil]) <;> rfl) ?_; (with_reducible refine (spec_l2Form.calls k (wrap64 (1 + t202)) t205 _ A4.out).mono ?_); rintro e w13 ⟨v206, rfl, ho0, hb⟩; refine ⟨_, rfl, ?_⟩; have n0_ := Aside0.mk (Kd.R_lower ho0 (keep_size (w := w) (g := g) (row := none) (by repeat (with_reducible first | exact HK.out | apply pS | apply pN | apply pD | apply pA | refine keep_far ?_ GW201.out _ | refine keep_far ?_ GW204.out _)))); have n1_ := Aside0.mk (IsS84.below (show IsS84 w0 ((((((w9.setCell ⟨gb204, 0, none⟩ (.int .i64 (wrap64 (1 + t202)))).setCell ⟨gb204, 1, none⟩ (.int .i64 0)).setCell ⟨gb204, 2, none⟩ (.int .i64 0)).setCell ⟨gb204, 3, none⟩ (.int .i64 0)).setCell ⟨gb204, 4, none⟩ (.int .i64 0)).setCell ⟨gb204, 5, none⟩ (.int .i64 0)) g s0_0 t203 from by repeat (with_reducible first | exact HI0.out | apply sA | apply sN | apply sD | apply sS | refine IsS84.far ?_ NB0_201.out _ | refine IsS84.far ?_ NB0_204.out _)) hb); have n2_ := Aside0.mk (blk_below (g := gb201) (o := .cells #[.int .i64 0, .int .i64 0, .int .i64 0, .int .i64 0, .int .i64 0, .int .i64 0] 29 (0, 0)) (by (with_reducible repeat (first | apply kN | apply kD | apply kA)); refine blk_far ?_ NB201_204.out _; (with_reducible repeat (first | apply kN | apply kD | apply kA)); refine blk_far ?_ NB201_204.out _; (with_reducible repeat (first | apply kN | apply kD | apply kA)); refine blk_far ?_ NB201_204.out _; (with_reducible repeat (first | apply kN | apply kD | apply kA)); refine blk_far ?_ NB201_204.out _; (with_reducible repeat (first | apply kN | apply kD | apply kA)); refine blk_far ?_ NB201_204.out _; (with_reducible repeat (first | apply kN | apply kD | apply kA)); refine blk_far ?_ NB201_204.out _; exact blkU BK201.out) hb); have n3_ := Aside0.mk (blk_below (g := gb204) (o := .cells #[.int .i64 (wrap64 (1 + t202)), .int .i64 0, .int .i64 0, .int .i64 0, .int .i64 0, .int .i64 0] 29 (0, 0)) (by (with_reducible repeat (first | apply kN | apply kD | apply kA)); refine blk_put (cs := #[.int .i64 (wrap64 (1 + t202)), .int .i64 0, .int .i64 0, .int .i64 0, .int .i64 0, .int .i64 0]) ?_ 5 _ rfl; (with_reducible repeat (first | apply kN | apply kD | apply kA)); refine blk_put (cs := #[.int .i64 (wrap64 (1 + t202)), .int .i64 0, .int .i64 0, .int .i64 0, .int .i64 0, .int .i64 0]) ?_ 4 _ rfl; (with_reducible repeat (first | apply kN | apply kD | apply kA)); refine blk_put (cs := #[.int .i64 (wrap64 (1 + t202)), .int .i64 0, .int .i64 0, .int .i64 0, .int .i64 0, .int .i64 0]) ?_ 3 _ rfl; (with_reducible repeat (first | apply kN | apply kD | apply kA)); refine blk_put (cs := #[.int .i64 (wrap64 (1 + t202)), .int .i64 0, .int .i64 0, .int .i64 0, .int .i64 0, .int .i64 0]) ?_ 2 _ rfl; (with_reducible repeat (first | apply kN | apply kD | apply kA)); refine blk_put (cs := #[.int .i64 (wrap64 (1 + t202)), .int .i64 0, .int .i64 0, .int .i64 0, .int .i64 0, .int .i64 0]) ?_ 1 _ rfl; (with_reducible repeat (first | apply kN | apply kD | apply kA)); refine blk_put (cs := #[.int .i64 0, .int .i64 0, .int .i64 0, .int .i64 0, .int .i64 0, .int .i64 0]) ?_ 0 _ rfl; exact blkU BK204.out) hb); have n4_ := Aside0.mk (KeepBut.trans (by repeat (with_reducible first | exact HK.out | apply pS | apply pN | apply pD | apply pA | refine keep_far ?_ GW201.out _ | refine keep_far ?_ GW204.out _)) (KeepBut.of_below hb g none) (.inl rfl)); have n5_ := Aside0.mk (below_step (by repeat (with_reducible first | exact HB.out | apply bA | apply bN | apply b1 | refine below_set ?_ (IsS84.ge HI0.out) | refine below_set ?_ GE201.out | refine below_set ?_ GE204.out)) hb); clear HI0; clear BK201; clear BK204; clear HK; clear HB; have HO207 := n0_; have HI0 := n1_; have BK201 := n2_; have BK204 := n3_; have HK := n4_; have HB := n5_; clear n0_ n1_ n2_ n3_ n4_ n5_; (try clear hb); (try clear hb2); (try clear hk); (try clear hi); (try clear ho0); obtain ⟨Ao14, co14, eo14⟩ := Kd.R_slice HO207.out; subst eo14; have p208 : 0 ≤ (0 : Int) := (by omega); have q208 : 0 < (t205.length : Int) := of_decide_eq_true (by assumption); obtain ⟨ad208, e208, hx208_0⟩ := Kd.at_bool (Kd.R_reads' HO207.out).2.2 0 p208 q208; cases e208; have qi208 : (0 < t205.length) = True := eq_true (by omega); (try rw [show ((0 : Int)).toNat = 0 from rfl] at hx208_0); (try rw [Addr.add_zero'] at hx208_0); replace p208 := eq_true p208; replace q208 := eq_true q208))
  (try simp only [Act.put, List.setIfInBounds_toArray, List.set_cons_zero, List.set_cons_succ])
  go_cut [] (fun wc => ∃ (kq : Nat) (x1001_5 : Int) (x205001_5 : Int), Aside0 (spec_l71Op.j0 kq a1 t205 s0_0 x1001_5 (wrap64 (1 + t202)) x205001_5 0 0 0 0 = some (r1, r2, r3, r4, r5, r6, r7)) ∧ Aside0 (kq ≤ k) ∧ Aside0 (Kd.R Kd.bool 4 wc w.heap.size (fun _ => True) (.slice (some ad208) t205.length co14) t205) ∧ Aside0 (wc.heap[gb201]? = some (.cells #[.int .i64 0, .int .i64 0, .int .i64 0, .int .i64 0, .int .i64 0, .int .i64 0] 29 (0, 0))) ∧ Aside0 (wc.heap[gb204]? = some (.cells #[.int .i64 (wrap64 (1 + t202)), .int .i64 x205001_5, .int .i64 0, .int .i64 0, .int .i64 0, .int .i64 0] 29 (0, 0))) ∧ Aside0 (IsS84 w0 wc g s0_0 x1001_5) ∧ Aside0 (KeepBut w wc g none) ∧ Aside0 (Below w0.heap.size w0 wc))
  case first =>
   have H := HC6.out
   clear HC6
   obtain ⟨bq15, hbq15⟩ : ∃ b_ : Bool, b_ = (rdOf false t205 0) := ⟨_, rfl⟩
   replace H : (if bq15 = true then ((spec_l6Rd_pick.f k s0_0 t203 4).bind fun bt209 => (spec_l71Op.j0 k a1 t205 s0_0 bt209.2 (wrap64 (1 + t202)) bt209.1 0 0 0 0)) else (spec_l71Op.j0 k a1 t205 s0_0 t203 (wrap64 (1 + t202)) 0 0 0 0 0)) = some (r1, r2, r3, r4, r5, r6, r7) := by rw [← hbq15] at H; exact H
   have Nbq15 := Aside0.mk hbq15
   clear hbq15
   (try rw [← Nbq15.out])
   by_cases c16 : bq15 = true
   ·subst c16
    have H1 : ((spec_l6Rd_pick.f k s0_0 t203 4).bind fun bt209 => (spec_l71Op.j0 k a1 t205 s0_0 bt209.2 (wrap64 (1 + t202)) bt209.1 0 0 0 0)) = some (r1, r2, r3, r4, r5, r6, r7) := by rw [if_pos rfl] at H; exact H
    clear H
    have H := H1
    clear H1
    replace H := Option.bind_eq_some_iff.mp H
    obtain ⟨⟨t209, t210⟩, A170, H⟩ := H
    replace H : (spec_l71Op.j0 k a1 t205 s0_0 t210 (wrap64 (1 + t202)) t209 0 0 0 0) = some (r1, r2, r3, r4, r5, r6, r7) := H
    have A17 := Aside0.mk A170
    clear A170
    have H' := Aside0.mk H
    clear H
    go_wp2_with (first | ((with_reducible refine gate_callee (f := 71) rfl ?_); refine goesL_ (some 18) rfl rfl Try.func71 (by kernel_rfl) rfl #[.pointer (some ⟨g, 0, none⟩), .int .i64 4] rfl (by (try simp only [List.map_toArray, List.map_cons, List.map_nil]) <;> rfl) ?_; (with_reducible refine (spec_l6Rd_pick.calls k g s0_0 t203 4 t209 t210 w0 _ ?side1 ?side2 A17.out).mono ?_); (case side1 => repeat (with_reducible first | exact HI0.out | apply sA | apply sN | apply sD | apply sS | refine IsS84.far ?_ NB0_201.out _ | refine IsS84.far ?_ NB0_204.out _)); (case side2 => repeat (with_reducible first | exact HB.out | apply bA | apply bN | apply b1 | refine below_set ?_ (IsS84.ge HI0.out) | refine below_set ?_ GE201.out | refine below_set ?_ GE204.out)); rintro e w18 ⟨rfl, hi, hb, hk⟩; refine ⟨_, rfl, ?_⟩; replace BK201 := Aside0.mk (KeepBut.blk hk (g' := gb201) (o := .cells #[.int .i64 0, .int .i64 0, .int .i64 0, .int .i64 0, .int .i64 0, .int .i64 0] 29 (0, 0)) (by exact blkU BK201.out) NB201_0.out (by simp)); replace BK204 := Aside0.mk (KeepBut.blk hk (g' := gb204) (o := .cells #[.int .i64 (wrap64 (1 + t202)), .int .i64 0, .int .i64 0, .int .i64 0, .int .i64 0, .int .i64 0] 29 (0, 0)) (by exact blkU BK204.out) NB204_0.out (by simp)); replace HO207 := Aside0.mk (Kd.R_mono (Kd.R_keep (IsS84.apart (show IsS84 w0 _ g s0_0 t203 from by repeat (with_reducible first | exact HI0.out | apply sA | apply sN | apply sD | apply sS | refine IsS84.far ?_ NB0_201.out _ | refine IsS84.far ?_ NB0_204.out _)) (by exact rU HO207.out) (by decide)) hk (fun _ h => h.2)) (fun _ h => h.1)); replace HK := Aside0.mk (KeepBut.trans (by repeat (with_reducible first | exact HK.out | apply pS | apply pN | apply pD | apply pA | refine keep_far ?_ GW201.out _ | refine keep_far ?_ GW204.out _)) hk (.inl rfl)); replace HB := Aside0.mk (hb); replace HI0 := Aside0.mk (hi); (try clear hb); (try clear hb2); (try clear hk); (try clear hi); have hnb19 := NB204_201.out; have hnc19 := NB201_204.out; have hnb20 := NB204_0.out; have hnc20 := NB0_204.out; obtain ⟨hcz21_0, hcz21_1, hcz21_2, hcz21_3, hcz21_4, hcz21_5⟩ := six_cells BK204.out; obtain ⟨hfz21_0, hfz21_1, hfz21_2, hfz21_3, hfz21_4, hfz21_5⟩ := six_marks BK204.out))
    go_meet
    case rel => exact ⟨_, (t210), (t209), H', ⟨by first | omega | exact Nat.le_refl _⟩, ⟨by (with_reducible repeat (first | apply rA | apply rN | apply rD)); exact Kd.R_mono (Kd.R_far (p := ⟨gb204, 1, none⟩) (Kd.R_types HO207.out BK204.out (by decide)) (fun _ hk => hk.2) (.int .i64 t209)) (fun _ hk => trivial)⟩, ⟨by (with_reducible repeat (first | apply kN | apply kD | apply kA)); refine blk_far ?_ NB201_204.out _; exact blkU BK201.out⟩, ⟨by (with_reducible repeat (first | apply kN | apply kD | apply kA)); refine blk_put (cs := #[.int .i64 (wrap64 (1 + t202)), .int .i64 0, .int .i64 0, .int .i64 0, .int .i64 0, .int .i64 0]) ?_ 1 _ rfl; exact blkU BK204.out⟩, ⟨by repeat (with_reducible first | exact HI0.out | apply sA | apply sN | apply sD | apply sS | refine IsS84.far ?_ NB0_201.out _ | refine IsS84.far ?_ NB0_204.out _)⟩, ⟨by repeat (with_reducible first | exact HK.out | apply pS | apply pN | apply pD | apply pA | refine keep_far ?_ GW201.out _ | refine keep_far ?_ GW204.out _)⟩, ⟨by repeat (with_reducible first | exact HB.out | apply bA | apply bN | apply b1 | refine below_set ?_ (IsS84.ge HI0.out) | refine below_set ?_ GE201.out | refine below_set ?_ GE204.out)⟩⟩
   ·replace c16 := Bool.eq_false_iff.mpr c16
    subst c16
    have H1 : (spec_l71Op.j0 k a1 t205 s0_0 t203 (wrap64 (1 + t202)) 0 0 0 0 0) = some (r1, r2, r3, r4, r5, r6, r7) := by rw [if_neg (show ¬ (false = true) by decide)] at H; exact H
    clear H
    have H := H1
    clear H1
    have H' := Aside0.mk H
    clear H
    go_wp2
    go_meet
    case rel => exact ⟨_, (t203), (0), H', ⟨by first | omega | exact Nat.le_refl _⟩, ⟨by exact rU HO207.out⟩, ⟨by exact blkU BK201.out⟩, ⟨by exact blkU BK204.out⟩, ⟨by repeat (with_reducible first | exact HI0.out | apply sA | apply sN | apply sD | apply sS | refine IsS84.far ?_ NB0_201.out _ | refine IsS84.far ?_ NB0_204.out _)⟩, ⟨by repeat (with_reducible first | exact HK.out | apply pS | apply pN | apply pD | apply pA | refine keep_far ?_ GW201.out _ | refine keep_far ?_ GW204.out _)⟩, ⟨by repeat (with_reducible first | exact HB.out | apply bA | apply bN | apply b1 | refine below_set ?_ (IsS84.ge HI0.out) | refine below_set ?_ GE201.out | refine below_set ?_ GE204.out)⟩⟩
  case rest =>
   clear HC6
   (try clear c1); (try clear q1); (try clear c2); (try clear p2); (try clear q2); (try clear hx2); (try clear qi2); (try clear c5); (try clear c5b0); (try clear c5b1); (try clear p6); (try clear c7); (try clear c9); (try clear c10); (try clear c11); (try clear q15); (try clear c16); (try clear c19); (try clear c20); (try clear p20); (try clear q20); (try clear hx20); (try clear qi20); (try clear hcz12_0); (try clear hcz12_1); (try clear hcz12_2); (try clear hcz12_3); (try clear hcz12_4); (try clear hcz12_5); (try clear hcz21_0); (try clear hcz21_1); (try clear hcz21_2); (try clear hcz21_3); (try clear hcz21_4); (try clear hcz21_5); (try clear hfz12_0); (try clear hfz12_1); (try clear hfz12_2); (try clear hfz12_3); (try clear hfz12_4); (try clear hfz12_5); (try clear hfz21_0); (try clear hfz21_1); (try clear hfz21_2); (try clear hfz21_3); (try clear hfz21_4); (try clear hfz21_5); (try clear hx208_0); (try clear p208); (try clear q208)
   obtain ⟨kq, x1001_5, x205001_5, HA, HJ5, HO_6, BK201, BK204, HI0, HK, HB⟩ := hcut
   cases kq with
   | zero => exact absurd HA.out (by simp [spec_l71Op.j0])
   | succ kj5 =>
    have H := HA.out
    clear HA
    simp only [spec_l71Op.j0] at H
    by_cases c22 : 1 < (t205.length : Int)
    ·rw [if_pos c22] at H
     have c22b0 : decide (1 < (t205.length : Int)) = true := decide_eq_true c22
     have c22b1 : decide (1 < t205.length) = true := decide_eq_true (by omega)
     clear c22
     have HC23 := Aside0.mk H
     clear H
     have p211 : 0 ≤ (1 : Int) := (by omega)
     have q211 : 1 < (t205.length : Int) := of_decide_eq_true (by assumption)
     obtain ⟨ad211, e211, hx211_0⟩ := Kd.at_bool (Kd.R_reads' HO_6.out).2.2 1 p211 q211
     obtain rfl : ad208 = ad211 := (by injection e211)
     (try simp only [show (1 : Int).toNat = 1 from rfl, Nat.reduceMul, Nat.reduceEqDiff, Go.Addr.add, ↓reduceIte] at hx211_0)
     have qi211 : (1 < t205.length) = True := eq_true (by omega)
     (try rw [show ((1 : Int)).toNat = 1 from rfl] at hx211_0)
     replace p211 := eq_true p211
     replace q211 := eq_true q211
     go_upto_if 22 with (fail)
     go_cut [] (fun wc => ∃ (kq : Nat) (x1001_22 : Int) (x205002_22 : Int), Aside0 (spec_l71Op.j1 kq a1 t205 s0_0 x1001_22 (wrap64 (1 + t202)) x205001_5 x205002_22 0 0 0 = some (r1, r2, r3, r4, r5, r6, r7)) ∧ Aside0 (kq ≤ kj5) ∧ Aside0 (Kd.R Kd.bool 4 wc w.heap.size (fun _ => True) (.slice (some ad208) t205.length co14) t205) ∧ Aside0 (wc.heap[gb201]? = some (.cells #[.int .i64 0, .int .i64 0, .int .i64 0, .int .i64 0, .int .i64 0, .int .i64 0] 29 (0, 0))) ∧ Aside0 (wc.heap[gb204]? = some (.cells #[.int .i64 (wrap64 (1 + t202)), .int .i64 x205001_5, .int .i64 x205002_22, .int .i64 0, .int .i64 0, .int .i64 0] 29 (0, 0))) ∧ Aside0 (IsS84 w0 wc g s0_0 x1001_22) ∧ Aside0 (KeepBut w wc g none) ∧ Aside0 (Below w0.heap.size w0 wc))
     case first =>
      have H := HC23.out
      clear HC23
      obtain ⟨bq24, hbq24⟩ : ∃ b_ : Bool, b_ = (rdOf false t205 1) := ⟨_, rfl⟩
      replace H : (if bq24 = true then ((spec_l6Rd_pick.f kj5 s0_0 x1001_5 4).bind fun bt212 => (spec_l71Op.j1 kj5 a1 t205 s0_0 bt212.2 (wrap64 (1 + t202)) x205001_5 bt212.1 0 0 0)) else (spec_l71Op.j1 kj5 a1 t205 s0_0 x1001_5 (wrap64 (1 + t202)) x205001_5 0 0 0 0)) = some (r1, r2, r3, r4, r5, r6, r7) := by rw [← hbq24] at H; exact H
      have Nbq24 := Aside0.mk hbq24
      clear hbq24
      (try rw [← Nbq24.out])
      by_cases c25 : bq24 = true
      ·subst c25
       have H1 : ((spec_l6Rd_pick.f kj5 s0_0 x1001_5 4).bind fun bt212 => (spec_l71Op.j1 kj5 a1 t205 s0_0 bt212.2 (wrap64 (1 + t202)) x205001_5 bt212.1 0 0 0)) = some (r1, r2, r3, r4, r5, r6, r7) := by rw [if_pos rfl] at H; exact H
       clear H
       have H := H1
       clear H1
       replace H := Option.bind_eq_some_iff.mp H
       obtain ⟨⟨t212, t213⟩, A260, H⟩ := H
       replace H : (spec_l71Op.j1 kj5 a1 t205 s0_0 t213 (wrap64 (1 + t202)) x205001_5 t212 0 0 0) = some (r1, r2, r3, r4, r5, r6, r7) := H
       have A26 := Aside0.mk A260
       clear A260
       have H' := Aside0.mk H
       clear H
       go_wp2_with (first | ((with_reducible refine gate_callee (f := 71) rfl ?_); refine goesL_ (some 24) rfl rfl Try.func71 (by kernel_rfl) rfl #[.pointer (some ⟨g, 0, none⟩), .int .i64 4] rfl (by (try simp only [List.map_toArray, List.map_cons, List.map_nil]) <;> rfl) ?_; (with_reducible refine (spec_l6Rd_pick.calls kj5 g s0_0 x1001_5 4 t212 t213 w0 _ ?side1 ?side2 A26.out).mono ?_); (case side1 => repeat (with_reducible first | exact HI0.out | apply sA | apply sN | apply sD | apply sS | refine IsS84.far ?_ NB0_201.out _ | refine IsS84.far ?_ NB0_204.out _)); (case side2 => repeat (with_reducible first | exact HB.out | apply bA | apply bN | apply b1 | refine below_set ?_ (IsS84.ge HI0.out) | refine below_set ?_ GE201.out | refine below_set ?_ GE204.out)); rintro e w27 ⟨rfl, hi, hb, hk⟩; refine ⟨_, rfl, ?_⟩; replace HO_6 := Aside0.mk (Kd.R_mono (Kd.R_keep (IsS84.apart (show IsS84 w0 _ g s0_0 x1001_5 from by repeat (with_reducible first | exact HI0.out | apply sA | apply sN | apply sD | apply sS | refine IsS84.far ?_ NB0_201.out _ | refine IsS84.far ?_ NB0_204.out _)) (by exact rU HO_6.out) (by decide)) hk (fun _ h => h.2)) (fun _ h => h.1)); replace BK201 := Aside0.mk (KeepBut.blk hk (g' := gb201) (o := .cells #[.int .i64 0, .int .i64 0, .int .i64 0, .int .i64 0, .int .i64 0, .int .i64 0] 29 (0, 0)) (by exact blkU BK201.out) NB201_0.out (by simp)); replace BK204 := Aside0.mk (KeepBut.blk hk (g' := gb204) (o := .cells #[.int .i64 (wrap64 (1 + t202)), .int .i64 x205001_5, .int .i64 0, .int .i64 0, .int .i64 0, .int .i64 0] 29 (0, 0)) (by exact blkU BK204.out) NB204_0.out (by simp)); replace HK := Aside0.mk (KeepBut.trans (by repeat (with_reducible first | exact HK.out | apply pS | apply pN | apply pD | apply pA | refine keep_far ?_ GW201.out _ | refine keep_far ?_ GW204.out _)) hk (.inl rfl)); replace HB := Aside0.mk (hb); replace HI0 := Aside0.mk (hi); (try clear hb); (try clear hb2); (try clear hk); (try clear hi); have hnb28 := NB204_201.out; have hnc28 := NB201_204.out; have hnb29 := NB204_0.out; have hnc29 := NB0_204.out; obtain ⟨hcz30_0, hcz30_1, hcz30_2, hcz30_3, hcz30_4, hcz30_5⟩ := six_cells BK204.out; obtain ⟨hfz30_0, hfz30_1, hfz30_2, hfz30_3, hfz30_4, hfz30_5⟩ := six_marks BK204.out))
       go_meet
       case rel => exact ⟨_, (t213), (t212), H', ⟨by have := HJ5.out; first | omega | exact Nat.le_refl _⟩, ⟨by (with_reducible repeat (first | apply rA | apply rN | apply rD)); exact Kd.R_mono (Kd.R_far (p := ⟨gb204, 2, none⟩) (Kd.R_types HO_6.out BK204.out (by decide)) (fun _ hk => hk.2) (.int .i64 t212)) (fun _ hk => trivial)⟩, ⟨by (with_reducible repeat (first | apply kN | apply kD | apply kA)); refine blk_far ?_ NB201_204.out _; exact blkU BK201.out⟩, ⟨by (with_reducible repeat (first | apply kN | apply kD | apply kA)); refine blk_put (cs := #[.int .i64 (wrap64 (1 + t202)), .int .i64 x205001_5, .int .i64 0, .int .i64 0, .int .i64 0, .int .i64 0]) ?_ 2 _ rfl; exact blkU BK204.out⟩, ⟨by repeat (with_reducible first | exact HI0.out | apply sA | apply sN | apply sD | apply sS | refine IsS84.far ?_ NB0_201.out _ | refine IsS84.far ?_ NB0_204.out _)⟩, ⟨by repeat (with_reducible first | exact HK.out | apply pS | apply pN | apply pD | apply pA | refine keep_far ?_ GW201.out _ | refine keep_far ?_ GW204.out _)⟩, ⟨by repeat (with_reducible first | exact HB.out | apply bA | apply bN | apply b1 | refine below_set ?_ (IsS84.ge HI0.out) | refine below_set ?_ GE201.out | refine below_set ?_ GE204.out)⟩⟩
      ·replace c25 := Bool.eq_false_iff.mpr c25
       subst c25
       have H1 : (spec_l71Op.j1 kj5 a1 t205 s0_0 x1001_5 (wrap64 (1 + t202)) x205001_5 0 0 0 0) = some (r1, r2, r3, r4, r5, r6, r7) := by rw [if_neg (show ¬ (false = true) by decide)] at H; exact H
       clear H
       have H := H1
       clear H1
       have H' := Aside0.mk H
       clear H
       go_wp2
       go_meet
       case rel => exact ⟨_, (x1001_5), (0), H', ⟨by have := HJ5.out; first | omega | exact Nat.le_refl _⟩, ⟨by exact rU HO_6.out⟩, ⟨by exact blkU BK201.out⟩, ⟨by exact blkU BK204.out⟩, ⟨by repeat (with_reducible first | exact HI0.out | apply sA | apply sN | apply sD | apply sS | refine IsS84.far ?_ NB0_201.out _ | refine IsS84.far ?_ NB0_204.out _)⟩, ⟨by repeat (with_reducible first | exact HK.out | apply pS | apply pN | apply pD | apply pA | refine keep_far ?_ GW201.out _ | refine keep_far ?_ GW204.out _)⟩, ⟨by repeat (with_reducible first | exact HB.out | apply bA | apply bN | apply b1 | refine below_set ?_ (IsS84.ge HI0.out) | refine below_set ?_ GE201.out | refine below_set ?_ GE204.out)⟩⟩
     case rest =>
      clear HC23
      (try clear c1); (try clear q1); (try clear c2); (try clear p2); (try clear q2); (try clear hx2); (try clear qi2); (try clear c5); (try clear c5b0); (try clear c5b1); (try clear p6); (try clear c7); (try clear c9); (try clear c10); (try clear c11); (try clear q15); (try clear c16); (try clear c19); (try clear c20); (try clear p20); (try clear q20); (try clear hx20); (try clear qi20); (try clear p21); (try clear q21); (try clear hx21); (try clear qi21); (try clear c22); (try clear c22b0); (try clear c22b1); (try clear q24); (try clear c25); (try clear c28); (try clear c29); (try clear hcz12_0); (try clear hcz12_1); (try clear hcz12_2); (try clear hcz12_3); (try clear hcz12_4); (try clear hcz12_5); (try clear hcz21_0); (try clear hcz21_1); (try clear hcz21_2); (try clear hcz21_3); (try clear hcz21_4); (try clear hcz21_5); (try clear hcz30_0); (try clear hcz30_1); (try clear hcz30_2); (try clear hcz30_3); (try clear hcz30_4); (try clear hcz30_5); (try clear hfz12_0); (try clear hfz12_1); (try clear hfz12_2); (try clear hfz12_3); (try clear hfz12_4); (try clear hfz12_5); (try clear hfz21_0); (try clear hfz21_1); (try clear hfz21_2); (try clear hfz21_3); (try clear hfz21_4); (try clear hfz21_5); (try clear hfz30_0); (try clear hfz30_1); (try clear hfz30_2); (try clear hfz30_3); (try clear hfz30_4); (try clear hfz30_5); (try clear hx208_0); (try clear hx211_0); (try clear p2); (try clear p20); (try clear p208); (try clear p211); (try clear p6); (try clear q1); (try clear q15); (try clear q2); (try clear q20); (try clear q208); (try clear q211)
      obtain ⟨kq, x1001_22, x205002_22, HA, HJ22, HO_6, BK201, BK204, HI0, HK, HB⟩ := hcut
      cases kq with
      | zero => exact absurd HA.out (by simp [spec_l71Op.j1])
      | succ kj22 =>
       have H := HA.out
       clear HA
       simp only [spec_l71Op.j1] at H
       by_cases c31 : 2 < (t205.length : Int)
       ·rw [if_pos c31] at H
        have c31b0 : decide (2 < (t205.length : Int)) = true := decide_eq_true c31
        have c31b1 : decide (2 < t205.length) = true := decide_eq_true (by omega)
        clear c31
        have HC32 := Aside0.mk H
        clear H
        have p214 : 0 ≤ (2 : Int) := (by omega)
        have q214 : 2 < (t205.length : Int) := of_decide_eq_true (by assumption)
        obtain ⟨ad214, e214, hx214_0⟩ := Kd.at_bool (Kd.R_reads' HO_6.out).2.2 2 p214 q214
        obtain rfl : ad208 = ad214 := (by injection e214)
        (try simp only [show (2 : Int).toNat = 2 from rfl, Nat.reduceMul, Nat.reduceEqDiff, Go.Addr.add, ↓reduceIte] at hx214_0)
        have qi214 : (2 < t205.length) = True := eq_true (by omega)
        (try rw [show ((2 : Int)).toNat = 2 from rfl] at hx214_0)
        replace p214 := eq_true p214
        replace q214 := eq_true q214
        go_upto_if 28 with (fail)
        go_cut [] (fun wc => ∃ (kq : Nat) (x1001_31 : Int) (x205003_31 : Int), Aside0 (spec_l71Op.j2 kq t205 s0_0 x1001_31 (wrap64 (1 + t202)) x205001_5 x205002_22 x205003_31 0 0 = some (r1, r2, r3, r4, r5, r6, r7)) ∧ Aside0 (kq ≤ kj22) ∧ Aside0 (Kd.R Kd.bool 4 wc w.heap.size (fun _ => True) (.slice (some ad208) t205.length co14) t205) ∧ Aside0 (wc.heap[gb201]? = some (.cells #[.int .i64 0, .int .i64 0, .int .i64 0, .int .i64 0, .int .i64 0, .int .i64 0] 29 (0, 0))) ∧ Aside0 (wc.heap[gb204]? = some (.cells #[.int .i64 (wrap64 (1 + t202)), .int .i64 x205001_5, .int .i64 x205002_22, .int .i64 x205003_31, .int .i64 0, .int .i64 0] 29 (0, 0))) ∧ Aside0 (IsS84 w0 wc g s0_0 x1001_31) ∧ Aside0 (KeepBut w wc g none) ∧ Aside0 (Below w0.heap.size w0 wc))
        case first =>
         have H := HC32.out
         clear HC32
         obtain ⟨bq33, hbq33⟩ : ∃ b_ : Bool, b_ = (rdOf false t205 2) := ⟨_, rfl⟩
         replace H : (if bq33 = true then ((spec_l6Rd_pick.f kj22 s0_0 x1001_22 a1).bind fun bt215 => (spec_l71Op.j2 kj22 t205 s0_0 bt215.2 (wrap64 (1 + t202)) x205001_5 x205002_22 bt215.1 0 0)) else (spec_l71Op.j2 kj22 t205 s0_0 x1001_22 (wrap64 (1 + t202)) x205001_5 x205002_22 0 0 0)) = some (r1, r2, r3, r4, r5, r6, r7) := by rw [← hbq33] at H; exact H
         have Nbq33 := Aside0.mk hbq33
         clear hbq33
         (try rw [← Nbq33.out])
         by_cases c34 : bq33 = true
         ·subst c34
          have H1 : ((spec_l6Rd_pick.f kj22 s0_0 x1001_22 a1).bind fun bt215 => (spec_l71Op.j2 kj22 t205 s0_0 bt215.2 (wrap64 (1 + t202)) x205001_5 x205002_22 bt215.1 0 0)) = some (r1, r2, r3, r4, r5, r6, r7) := by rw [if_pos rfl] at H; exact H
          clear H
          have H := H1
          clear H1
          replace H := Option.bind_eq_some_iff.mp H
          obtain ⟨⟨t215, t216⟩, A350, H⟩ := H
          replace H : (spec_l71Op.j2 kj22 t205 s0_0 t216 (wrap64 (1 + t202)) x205001_5 x205002_22 t215 0 0) = some (r1, r2, r3, r4, r5, r6, r7) := H
          have A35 := Aside0.mk A350
          clear A350
          have H' := Aside0.mk H
          clear H
          go_wp2_with (first | ((with_reducible refine gate_callee (f := 71) rfl ?_); refine goesL_ (some 31) rfl rfl Try.func71 (by kernel_rfl) rfl #[.pointer (some ⟨g, 0, none⟩), .int .i64 a1] rfl (by (try simp only [List.map_toArray, List.map_cons, List.map_nil]) <;> rfl) ?_; (with_reducible refine (spec_l6Rd_pick.calls kj22 g s0_0 x1001_22 a1 t215 t216 w0 _ ?side1 ?side2 A35.out).mono ?_); (case side1 => repeat (with_reducible first | exact HI0.out | apply sA | apply sN | apply sD | apply sS | refine IsS84.far ?_ NB0_201.out _ | refine IsS84.far ?_ NB0_204.out _)); (case side2 => repeat (with_reducible first | exact HB.out | apply bA | apply bN | apply b1 | refine below_set ?_ (IsS84.ge HI0.out) | refine below_set ?_ GE201.out | refine below_set ?_ GE204.out)); rintro e w36 ⟨rfl, hi, hb, hk⟩; refine ⟨_, rfl, ?_⟩; replace HO_6 := Aside0.mk (Kd.R_mono (Kd.R_keep (IsS84.apart (show IsS84 w0 _ g s0_0 x1001_22 from by repeat (with_reducible first | exact HI0.out | apply sA | apply sN | apply sD | apply sS | refine IsS84.far ?_ NB0_201.out _ | refine IsS84.far ?_ NB0_204.out _)) (by exact rU HO_6.out) (by decide)) hk (fun _ h => h.2)) (fun _ h => h.1)); replace BK201 := Aside0.mk (KeepBut.blk hk (g' := gb201) (o := .cells #[.int .i64 0, .int .i64 0, .int .i64 0, .int .i64 0, .int .i64 0, .int .i64 0] 29 (0, 0)) (by exact blkU BK201.out) NB201_0.out (by simp)); replace BK204 := Aside0.mk (KeepBut.blk hk (g' := gb204) (o := .cells #[.int .i64 (wrap64 (1 + t202)), .int .i64 x205001_5, .int .i64 x205002_22, .int .i64 0, .int .i64 0, .int .i64 0] 29 (0, 0)) (by exact blkU BK204.out) NB204_0.out (by simp)); replace HK := Aside0.mk (KeepBut.trans (by repeat (with_reducible first | exact HK.out | apply pS | apply pN | apply pD | apply pA | refine keep_far ?_ GW201.out _ | refine keep_far ?_ GW204.out _)) hk (.inl rfl)); replace HB := Aside0.mk (hb); replace HI0 := Aside0.mk (hi); (try clear hb); (try clear hb2); (try clear hk); (try clear hi); have hnb37 := NB204_201.out; have hnc37 := NB201_204.out; have hnb38 := NB204_0.out; have hnc38 := NB0_204.out; obtain ⟨hcz39_0, hcz39_1, hcz39_2, hcz39_3, hcz39_4, hcz39_5⟩ := six_cells BK204.out; obtain ⟨hfz39_0, hfz39_1, hfz39_2, hfz39_3, hfz39_4, hfz39_5⟩ := six_marks BK204.out))
          go_meet
          case rel => exact ⟨_, (t216), (t215), H', ⟨by have := HJ5.out; have := HJ22.out; first | omega | exact Nat.le_refl _⟩, ⟨by (with_reducible repeat (first | apply rA | apply rN | apply rD)); exact Kd.R_mono (Kd.R_far (p := ⟨gb204, 3, none⟩) (Kd.R_types HO_6.out BK204.out (by decide)) (fun _ hk => hk.2) (.int .i64 t215)) (fun _ hk => trivial)⟩, ⟨by (with_reducible repeat (first | apply kN | apply kD | apply kA)); refine blk_far ?_ NB201_204.out _; exact blkU BK201.out⟩, ⟨by (with_reducible repeat (first | apply kN | apply kD | apply kA)); refine blk_put (cs := #[.int .i64 (wrap64 (1 + t202)), .int .i64 x205001_5, .int .i64 x205002_22, .int .i64 0, .int .i64 0, .int .i64 0]) ?_ 3 _ rfl; exact blkU BK204.out⟩, ⟨by repeat (with_reducible first | exact HI0.out | apply sA | apply sN | apply sD | apply sS | refine IsS84.far ?_ NB0_201.out _ | refine IsS84.far ?_ NB0_204.out _)⟩, ⟨by repeat (with_reducible first | exact HK.out | apply pS | apply pN | apply pD | apply pA | refine keep_far ?_ GW201.out _ | refine keep_far ?_ GW204.out _)⟩, ⟨by repeat (with_reducible first | exact HB.out | apply bA | apply bN | apply b1 | refine below_set ?_ (IsS84.ge HI0.out) | refine below_set ?_ GE201.out | refine below_set ?_ GE204.out)⟩⟩
         ·replace c34 := Bool.eq_false_iff.mpr c34
          subst c34
          have H1 : (spec_l71Op.j2 kj22 t205 s0_0 x1001_22 (wrap64 (1 + t202)) x205001_5 x205002_22 0 0 0) = some (r1, r2, r3, r4, r5, r6, r7) := by rw [if_neg (show ¬ (false = true) by decide)] at H; exact H
          clear H
          have H := H1
          clear H1
          have H' := Aside0.mk H
          clear H
          go_wp2
          go_meet
          case rel => exact ⟨_, (x1001_22), (0), H', ⟨by have := HJ5.out; have := HJ22.out; first | omega | exact Nat.le_refl _⟩, ⟨by exact rU HO_6.out⟩, ⟨by exact blkU BK201.out⟩, ⟨by exact blkU BK204.out⟩, ⟨by repeat (with_reducible first | exact HI0.out | apply sA | apply sN | apply sD | apply sS | refine IsS84.far ?_ NB0_201.out _ | refine IsS84.far ?_ NB0_204.out _)⟩, ⟨by repeat (with_reducible first | exact HK.out | apply pS | apply pN | apply pD | apply pA | refine keep_far ?_ GW201.out _ | refine keep_far ?_ GW204.out _)⟩, ⟨by repeat (with_reducible first | exact HB.out | apply bA | apply bN | apply b1 | refine below_set ?_ (IsS84.ge HI0.out) | refine below_set ?_ GE201.out | refine below_set ?_ GE204.out)⟩⟩
        case rest =>
         clear HC32
         (try clear c1); (try clear q1); (try clear c2); (try clear p2); (try clear q2); (try clear hx2); (try clear qi2); (try clear c3); (try clear q3); (try clear c5); (try clear c5b0); (try clear c5b1); (try clear p6); (try clear c7); (try clear c9); (try clear c10); (try clear c11); (try clear q15); (try clear c16); (try clear c19); (try clear c20); (try clear p20); (try clear q20); (try clear hx20); (try clear qi20); (try clear p21); (try clear q21); (try clear hx21); (try clear qi21); (try clear c22); (try clear c22b0); (try clear c22b1); (try clear q24); (try clear c25); (try clear c28); (try clear c29); (try clear c31); (try clear c31b0); (try clear c31b1); (try clear q33); (try clear c34); (try clear c37); (try clear c38); (try clear hcz12_0); (try clear hcz12_1); (try clear hcz12_2); (try clear hcz12_3); (try clear hcz12_4); (try clear hcz12_5); (try clear hcz21_0); (try clear hcz21_1); (try clear hcz21_2); (try clear hcz21_3); (try clear hcz21_4); (try clear hcz21_5); (try clear hcz30_0); (try clear hcz30_1); (try clear hcz30_2); (try clear hcz30_3); (try clear hcz30_4); (try clear hcz30_5); (try clear hcz39_0); (try clear hcz39_1); (try clear hcz39_2); (try clear hcz39_3); (try clear hcz39_4); (try clear hcz39_5); (try clear hfz12_0); (try clear hfz12_1); (try clear hfz12_2); (try clear hfz12_3); (try clear hfz12_4); (try clear hfz12_5); (try clear hfz21_0); (try clear hfz21_1); (try clear hfz21_2); (try clear hfz21_3); (try clear hfz21_4); (try clear hfz21_5); (try clear hfz30_0); (try clear hfz30_1); (try clear hfz30_2); (try clear hfz30_3); (try clear hfz30_4); (try clear hfz30_5); (try clear hfz39_0); (try clear hfz39_1); (try clear hfz39_2); (try clear hfz39_3); (try clear hfz39_4); (try clear hfz39_5); (try clear hx208_0); (try clear hx211_0); (try clear hx214_0); (try clear p2); (try clear p20); (try clear p208); (try clear p21); (try clear p211); (try clear p214); (try clear p6); (try clear q1); (try clear q15); (try clear q2); (try clear q20); (try clear q208); (try clear q21); (try clear q211); (try clear q214); (try clear q24)
         obtain ⟨kq, x1001_31, x205003_31, HA, HJ31, HO_6, BK201, BK204, HI0, HK, HB⟩ := hcut
         cases kq with
         | zero => exact absurd HA.out (by simp [spec_l71Op.j2])
         | succ kj31 =>
          have H := HA.out
          clear HA
          simp only [spec_l71Op.j2] at H
          by_cases c40 : 3 < (t205.length : Int)
          ·rw [if_pos c40] at H
           have c40b0 : decide (3 < (t205.length : Int)) = true := decide_eq_true c40
           have c40b1 : decide (3 < t205.length) = true := decide_eq_true (by omega)
           clear c40
           have HC41 := Aside0.mk H
           clear H
           have p217 : 0 ≤ (3 : Int) := (by omega)
           have q217 : 3 < (t205.length : Int) := of_decide_eq_true (by assumption)
           obtain ⟨ad217, e217, hx217_0⟩ := Kd.at_bool (Kd.R_reads' HO_6.out).2.2 3 p217 q217
           obtain rfl : ad208 = ad217 := (by injection e217)
           (try simp only [show (3 : Int).toNat = 3 from rfl, Nat.reduceMul, Nat.reduceEqDiff, Go.Addr.add, ↓reduceIte] at hx217_0)
           have qi217 : (3 < t205.length) = True := eq_true (by omega)
           (try rw [show ((3 : Int)).toNat = 3 from rfl] at hx217_0)
           replace p217 := eq_true p217
           replace q217 := eq_true q217
           go_upto_if 35 with (fail)
           go_cut [] (fun wc => ∃ (kq : Nat) (x1001_40 : Int) (x205004_40 : Int) (x205005_40 : Int), Aside0 (spec_l71Op.j3 kq s0_0 x1001_40 (wrap64 (1 + t202)) x205001_5 x205002_22 x205003_31 x205004_40 x205005_40 = some (r1, r2, r3, r4, r5, r6, r7)) ∧ Aside0 (kq ≤ kj31) ∧ Aside0 (wc.heap[gb201]? = some (.cells #[.int .i64 0, .int .i64 0, .int .i64 0, .int .i64 0, .int .i64 0, .int .i64 0] 29 (0, 0))) ∧ Aside0 (wc.heap[gb204]? = some (.cells #[.int .i64 (wrap64 (1 + t202)), .int .i64 x205001_5, .int .i64 x205002_22, .int .i64 x205003_31, .int .i64 x205004_40, .int .i64 x205005_40] 29 (0, 0))) ∧ Aside0 (IsS84 w0 wc g s0_0 x1001_40) ∧ Aside0 (KeepBut w wc g none) ∧ Aside0 (Below w0.heap.size w0 wc))
           case first =>
            have H := HC41.out
            clear HC41
            obtain ⟨bq42, hbq42⟩ : ∃ b_ : Bool, b_ = (rdOf false t205 3) := ⟨_, rfl⟩
            replace H : (if bq42 = true then ((spec_l71Good.f kj31 s0_0 x1001_31).bind fun bt218 => (spec_l71Op.j3 kj31 s0_0 bt218.2.2 (wrap64 (1 + t202)) x205001_5 x205002_22 x205003_31 bt218.1 bt218.2.1)) else (spec_l71Op.j3 kj31 s0_0 x1001_31 (wrap64 (1 + t202)) x205001_5 x205002_22 x205003_31 0 0)) = some (r1, r2, r3, r4, r5, r6, r7) := by rw [← hbq42] at H; exact H
            have Nbq42 := Aside0.mk hbq42
            clear hbq42
            (try rw [← Nbq42.out])
            by_cases c43 : bq42 = true
            ·subst c43
             have H1 : ((spec_l71Good.f kj31 s0_0 x1001_31).bind fun bt218 => (spec_l71Op.j3 kj31 s0_0 bt218.2.2 (wrap64 (1 + t202)) x205001_5 x205002_22 x205003_31 bt218.1 bt218.2.1)) = some (r1, r2, r3, r4, r5, r6, r7) := by rw [if_pos rfl] at H; exact H
             clear H
             have H := H1
             clear H1
             replace H := Option.bind_eq_some_iff.mp H
             obtain ⟨⟨t218, t219, t220⟩, A440, H⟩ := H
             replace H : (spec_l71Op.j3 kj31 s0_0 t220 (wrap64 (1 + t202)) x205001_5 x205002_22 x205003_31 t218 t219) = some (r1, r2, r3, r4, r5, r6, r7) := H
             have A44 := Aside0.mk A440
             clear A440
             have H' := Aside0.mk H
             clear H
             go_wp2_with (first | ((with_reducible refine gate_callee (f := 103) rfl ?_); refine goesL_ (some 37) rfl rfl Try.func103 (by kernel_rfl) rfl #[.pointer (some ⟨g, 0, none⟩)] rfl (by (try simp only [List.map_toArray, List.map_cons, List.map_nil]) <;> rfl) ?_; (with_reducible refine (spec_l71Good.calls kj31 g s0_0 x1001_31 t218 t219 t220 w0 _ ?side1 ?side2 A44.out).mono ?_); (case side1 => repeat (with_reducible first | exact HI0.out | apply sA | apply sN | apply sD | apply sS | refine IsS84.far ?_ NB0_201.out _ | refine IsS84.far ?_ NB0_204.out _)); (case side2 => repeat (with_reducible first | exact HB.out | apply bA | apply bN | apply b1 | refine below_set ?_ (IsS84.ge HI0.out) | refine below_set ?_ GE201.out | refine below_set ?_ GE204.out)); rintro e w45 ⟨rfl, hi, hb, hk⟩; refine ⟨_, rfl, ?_⟩; replace HO_6 := Aside0.mk (Kd.R_mono (Kd.R_keep (IsS84.apart (show IsS84 w0 _ g s0_0 x1001_31 from by repeat (with_reducible first | exact HI0.out | apply sA | apply sN | apply sD | apply sS | refine IsS84.far ?_ NB0_201.out _ | refine IsS84.far ?_ NB0_204.out _)) (by exact rU HO_6.out) (by decide)) hk (fun _ h => h.2)) (fun _ h => h.1)); replace BK201 := Aside0.mk (KeepBut.blk hk (g' := gb201) (o := .cells #[.int .i64 0, .int .i64 0, .int .i64 0, .int .i64 0, .int .i64 0, .int .i64 0] 29 (0, 0)) (by exact blkU BK201.out) NB201_0.out (by simp)); replace BK204 := Aside0.mk (KeepBut.blk hk (g' := gb204) (o := .cells #[.int .i64 (wrap64 (1 + t202)), .int .i64 x205001_5, .int .i64 x205002_22, .int .i64 x205003_31, .int .i64 0, .int .i64 0] 29 (0, 0)) (by exact blkU BK204.out) NB204_0.out (by simp)); replace HK := Aside0.mk (KeepBut.trans (by repeat (with_reducible first | exact HK.out | apply pS | apply pN | apply pD | apply pA | refine keep_far ?_ GW201.out _ | refine keep_far ?_ GW204.out _)) hk (.inl rfl)); replace HB := Aside0.mk (hb); replace HI0 := Aside0.mk (hi); (try clear hb); (try clear hb2); (try clear hk); (try clear hi); have hnb46 := NB204_201.out; have hnc46 := NB201_204.out; have hnb47 := NB204_0.out; have hnc47 := NB0_204.out; obtain ⟨hcz48_0, hcz48_1, hcz48_2, hcz48_3, hcz48_4, hcz48_5⟩ := six_cells BK204.out; obtain ⟨hfz48_0, hfz48_1, hfz48_2, hfz48_3, hfz48_4, hfz48_5⟩ := six_marks BK204.out))
             go_meet
             case rel => exact ⟨_, (t220), (t218), (t219), H', ⟨by have := HJ5.out; have := HJ22.out; have := HJ31.out; first | omega | exact Nat.le_refl _⟩, ⟨by (with_reducible repeat (first | apply kN | apply kD | apply kA)); refine blk_far ?_ NB201_204.out _; (with_reducible repeat (first | apply kN | apply kD | apply kA)); refine blk_far ?_ NB201_204.out _; exact blkU BK201.out⟩, ⟨by (with_reducible repeat (first | apply kN | apply kD | apply kA)); refine blk_put (cs := #[.int .i64 (wrap64 (1 + t202)), .int .i64 x205001_5, .int .i64 x205002_22, .int .i64 x205003_31, .int .i64 t218, .int .i64 0]) ?_ 5 _ rfl; (with_reducible repeat (first | apply kN | apply kD | apply kA)); refine blk_put (cs := #[.int .i64 (wrap64 (1 + t202)), .int .i64 x205001_5, .int .i64 x205002_22, .int .i64 x205003_31, .int .i64 0, .int .i64 0]) ?_ 4 _ rfl; exact blkU BK204.out⟩, ⟨by repeat (with_reducible first | exact HI0.out | apply sA | apply sN | apply sD | apply sS | refine IsS84.far ?_ NB0_201.out _ | refine IsS84.far ?_ NB0_204.out _)⟩, ⟨by repeat (with_reducible first | exact HK.out | apply pS | apply pN | apply pD | apply pA | refine keep_far ?_ GW201.out _ | refine keep_far ?_ GW204.out _)⟩, ⟨by repeat (with_reducible first | exact HB.out | apply bA | apply bN | apply b1 | refine below_set ?_ (IsS84.ge HI0.out) | refine below_set ?_ GE201.out | refine below_set ?_ GE204.out)⟩⟩
            ·replace c43 := Bool.eq_false_iff.mpr c43
             subst c43
             have H1 : (spec_l71Op.j3 kj31 s0_0 x1001_31 (wrap64 (1 + t202)) x205001_5 x205002_22 x205003_31 0 0) = some (r1, r2, r3, r4, r5, r6, r7) := by rw [if_neg (show ¬ (false = true) by decide)] at H; exact H
             clear H
             have H := H1
             clear H1
             have H' := Aside0.mk H
             clear H
             go_wp2
             go_meet
             case rel => exact ⟨_, (x1001_31), (0), (0), H', ⟨by have := HJ5.out; have := HJ22.out; have := HJ31.out; first | omega | exact Nat.le_refl _⟩, ⟨by exact blkU BK201.out⟩, ⟨by exact blkU BK204.out⟩, ⟨by repeat (with_reducible first | exact HI0.out | apply sA | apply sN | apply sD | apply sS | refine IsS84.far ?_ NB0_201.out _ | refine IsS84.far ?_ NB0_204.out _)⟩, ⟨by repeat (with_reducible first | exact HK.out | apply pS | apply pN | apply pD | apply pA | refine keep_far ?_ GW201.out _ | refine keep_far ?_ GW204.out _)⟩, ⟨by repeat (with_reducible first | exact HB.out | apply bA | apply bN | apply b1 | refine below_set ?_ (IsS84.ge HI0.out) | refine below_set ?_ GE201.out | refine below_set ?_ GE204.out)⟩⟩
           case rest =>
            clear HC41
            (try clear c1); (try clear q1); (try clear c2); (try clear p2); (try clear q2); (try clear hx2); (try clear qi2); (try clear c3); (try clear q3); (try clear c4); (try clear q4); (try clear c5); (try clear c5b0); (try clear c5b1); (try clear p6); (try clear c7); (try clear c9); (try clear c10); (try clear c11); (try clear q15); (try clear c16); (try clear c19); (try clear c20); (try clear p20); (try clear q20); (try clear hx20); (try clear qi20); (try clear p21); (try clear q21); (try clear hx21); (try clear qi21); (try clear c22); (try clear c22b0); (try clear c22b1); (try clear q24); (try clear c25); (try clear c28); (try clear c29); (try clear c31); (try clear c31b0); (try clear c31b1); (try clear q33); (try clear c34); (try clear c37); (try clear c38); (try clear c40); (try clear c40b0); (try clear c40b1); (try clear q42); (try clear c43); (try clear c46); (try clear c47); (try clear hcz12_0); (try clear hcz12_1); (try clear hcz12_2); (try clear hcz12_3); (try clear hcz12_4); (try clear hcz12_5); (try clear hcz21_0); (try clear hcz21_1); (try clear hcz21_2); (try clear hcz21_3); (try clear hcz21_4); (try clear hcz21_5); (try clear hcz30_0); (try clear hcz30_1); (try clear hcz30_2); (try clear hcz30_3); (try clear hcz30_4); (try clear hcz30_5); (try clear hcz39_0); (try clear hcz39_1); (try clear hcz39_2); (try clear hcz39_3); (try clear hcz39_4); (try clear hcz39_5); (try clear hcz48_0); (try clear hcz48_1); (try clear hcz48_2); (try clear hcz48_3); (try clear hcz48_4); (try clear hcz48_5); (try clear hfz12_0); (try clear hfz12_1); (try clear hfz12_2); (try clear hfz12_3); (try clear hfz12_4); (try clear hfz12_5); (try clear hfz21_0); (try clear hfz21_1); (try clear hfz21_2); (try clear hfz21_3); (try clear hfz21_4); (try clear hfz21_5); (try clear hfz30_0); (try clear hfz30_1); (try clear hfz30_2); (try clear hfz30_3); (try clear hfz30_4); (try clear hfz30_5); (try clear hfz39_0); (try clear hfz39_1); (try clear hfz39_2); (try clear hfz39_3); (try clear hfz39_4); (try clear hfz39_5); (try clear hfz48_0); (try clear hfz48_1); (try clear hfz48_2); (try clear hfz48_3); (try clear hfz48_4); (try clear hfz48_5); (try clear hx208_0); (try clear hx211_0); (try clear hx214_0); (try clear hx217_0); (try clear p2); (try clear p20); (try clear p208); (try clear p21); (try clear p211); (try clear p214); (try clear p217); (try clear p6); (try clear q1); (try clear q15); (try clear q2); (try clear q20); (try clear q208); (try clear q21); (try clear q211); (try clear q214); (try clear q217); (try clear q24); (try clear q3); (try clear q33)
            obtain ⟨kq, x1001_40, x205004_40, x205005_40, HA, HJ40, BK201, BK204, HI0, HK, HB⟩ := hcut
            cases kq with
            | zero => exact absurd HA.out (by simp [spec_l71Op.j3])
            | succ kj40 =>
             have H := HA.out
             clear HA
             simp only [spec_l71Op.j3] at H
             by_cases c49 : (wrap64 (1 + t202)) = 8
             ·rw [if_pos c49] at H
              have c49b0 : ((wrap64 (1 + t202)) == 8) = true := beq_iff_eq.mpr c49
              have c49b1 : ((wrap64 (1 + t202)) != 8) = false := bne_eq_false_iff_eq.mpr c49
              clear c49
              replace H := Option.bind_eq_some_iff.mp H
              obtain ⟨⟨t221, t222⟩, A500, H⟩ := H
              replace H : (some ((wrap64 (1 + t202)), x205001_5, x205002_22, x205003_31, 1, wrap64 (1 + t221), t222)) = some (r1, r2, r3, r4, r5, r6, r7) := H
              have A50 := Aside0.mk A500
              clear A500
              simp only [Option.some.injEq, Prod.mk.injEq] at H
              obtain ⟨rfl, rfl, rfl, rfl, rfl, rfl, rfl⟩ := H
              have hnb51 := NB204_201.out
              have hnc51 := NB201_204.out
              have hnb52 := NB204_0.out
              have hnc52 := NB0_204.out
              have hcz53_0 : wc.cell? ⟨gb204, 0, none⟩ = some (.int .i64 (wrap64 (1 + t202))) := (blk_cell BK204.out 0).trans rfl
              have hcz53_1 : wc.cell? ⟨gb204, 1, none⟩ = some (.int .i64 x205001_5) := (blk_cell BK204.out 1).trans rfl
              have hcz53_2 : wc.cell? ⟨gb204, 2, none⟩ = some (.int .i64 x205002_22) := (blk_cell BK204.out 2).trans rfl
              have hcz53_3 : wc.cell? ⟨gb204, 3, none⟩ = some (.int .i64 x205003_31) := (blk_cell BK204.out 3).trans rfl
              have hcz53_4 : wc.cell? ⟨gb204, 4, none⟩ = some (.int .i64 x205004_40) := (blk_cell BK204.out 4).trans rfl
              have hcz53_5 : wc.cell? ⟨gb204, 5, none⟩ = some (.int .i64 x205005_40) := (blk_cell BK204.out 5).trans rfl
              have hfz53_0 := blk_frozen BK204.out 0
              have hfz53_1 := blk_frozen BK204.out 1
              have hfz53_2 := blk_frozen BK204.out 2
              have hfz53_3 := blk_frozen BK204.out 3
              have hfz53_4 := blk_frozen BK204.out 4
              have hfz53_5 := blk_frozen BK204.out 5
              go_wp2_with (first | ((with_reducible refine gate_callee (f := 71) rfl ?_); refine goesL_ (some 44) rfl rfl Try.func71 (by kernel_rfl) rfl #[.pointer (some ⟨g, 0, none⟩), .int .i64 3] rfl (by (try simp only [List.map_toArray, List.map_cons, List.map_nil]) <;> rfl) ?_; (with_reducible refine (spec_l6Rd_pick.calls kj40 g s0_0 x1001_40 3 t221 t222 w0 _ ?side1 ?side2 A50.out).mono ?_); (case side1 => repeat (with_reducible first | exact HI0.out | apply sA | apply sN | apply sD | apply sS | refine IsS84.far ?_ NB0_201.out _ | refine IsS84.far ?_ NB0_204.out _)); (case side2 => repeat (with_reducible first | exact HB.out | apply bA | apply bN | apply b1 | refine below_set ?_ (IsS84.ge HI0.out) | refine below_set ?_ GE201.out | refine below_set ?_ GE204.out)); rintro e w54 ⟨rfl, hi, hb, hk⟩; refine ⟨_, rfl, ?_⟩; replace BK201 := Aside0.mk (KeepBut.blk hk (g' := gb201) (o := .cells #[.int .i64 0, .int .i64 0, .int .i64 0, .int .i64 0, .int .i64 0, .int .i64 0] 29 (0, 0)) (by exact blkU BK201.out) NB201_0.out (by simp)); replace BK204 := Aside0.mk (KeepBut.blk hk (g' := gb204) (o := .cells #[.int .i64 (wrap64 (1 + t202)), .int .i64 x205001_5, .int .i64 x205002_22, .int .i64 x205003_31, .int .i64 x205004_40, .int .i64 x205005_40] 29 (0, 0)) (by exact blkU BK204.out) NB204_0.out (by simp)); replace HK := Aside0.mk (KeepBut.trans (by repeat (with_reducible first | exact HK.out | apply pS | apply pN | apply pD | apply pA | refine keep_far ?_ GW201.out _ | refine keep_far ?_ GW204.out _)) hk (.inl rfl)); replace HB := Aside0.mk (hb); replace HI0 := Aside0.mk (hi); (try clear hb); (try clear hb2); (try clear hk); (try clear hi); obtain ⟨hcz55_0, hcz55_1, hcz55_2, hcz55_3, hcz55_4, hcz55_5⟩ := six_cells BK204.out; obtain ⟨hfz55_0, hfz55_1, hfz55_2, hfz55_3, hfz55_4, hfz55_5⟩ := six_marks BK204.out; have hnb56 := NB201_0.out; have hnc56 := NB0_201.out; obtain ⟨hcz57_0, hcz57_1, hcz57_2, hcz57_3, hcz57_4, hcz57_5⟩ := six_cells BK201.out; obtain ⟨hfz57_0, hfz57_1, hfz57_2, hfz57_3, hfz57_4, hfz57_5⟩ := six_marks BK201.out))
              refine bodyPost_ret (results_cell_row rfl _ _ gb201 29 #[.int .i64 (wrap64 (1 + t202)), .int .i64 x205001_5, .int .i64 x205002_22, .int .i64 x205003_31, .int .i64 1, .int .i64 (wrap64 (1 + t221))] (0, 0) _ rfl (by (with_reducible repeat (first | apply kN | apply kD | apply kA)); refine blk_put (cs := #[.int .i64 (wrap64 (1 + t202)), .int .i64 x205001_5, .int .i64 x205002_22, .int .i64 x205003_31, .int .i64 1, .int .i64 0]) ?_ 5 _ rfl; (with_reducible repeat (first | apply kN | apply kD | apply kA)); refine blk_put (cs := #[.int .i64 (wrap64 (1 + t202)), .int .i64 x205001_5, .int .i64 x205002_22, .int .i64 x205003_31, .int .i64 0, .int .i64 0]) ?_ 4 _ rfl; (with_reducible repeat (first | apply kN | apply kD | apply kA)); refine blk_put (cs := #[.int .i64 (wrap64 (1 + t202)), .int .i64 x205001_5, .int .i64 x205002_22, .int .i64 0, .int .i64 0, .int .i64 0]) ?_ 3 _ rfl; (with_reducible repeat (first | apply kN | apply kD | apply kA)); refine blk_put (cs := #[.int .i64 (wrap64 (1 + t202)), .int .i64 x205001_5, .int .i64 0, .int .i64 0, .int .i64 0, .int .i64 0]) ?_ 2 _ rfl; (with_reducible repeat (first | apply kN | apply kD | apply kA)); refine blk_put (cs := #[.int .i64 (wrap64 (1 + t202)), .int .i64 0, .int .i64 0, .int .i64 0, .int .i64 0, .int .i64 0]) ?_ 1 _ rfl; (with_reducible repeat (first | apply kN | apply kD | apply kA)); refine blk_put (cs := #[.int .i64 0, .int .i64 0, .int .i64 0, .int .i64 0, .int .i64 0, .int .i64 0]) ?_ 0 _ rfl; (with_reducible repeat (first | apply kN | apply kD | apply kA)); refine blk_far ?_ NB201_204.out _; (with_reducible repeat (first | apply kN | apply kD | apply kA)); refine blk_far ?_ NB201_204.out _; exact blkU BK201.out) Try.underlying29 rfl (by kernel_rfl)) rfl ?_
              exact ⟨by first | rfl | (simp [errW_none, errW_some] <;> rfl) | (simp [*, errW_none, errW_some] <;> rfl), by repeat (with_reducible first | exact HI0.out | apply sA | apply sN | apply sD | apply sS | refine IsS84.far ?_ NB0_201.out _ | refine IsS84.far ?_ NB0_204.out _), by repeat (with_reducible first | exact HB.out | apply bA | apply bN | apply b1 | refine below_set ?_ (IsS84.ge HI0.out) | refine below_set ?_ GE201.out | refine below_set ?_ GE204.out), by repeat (with_reducible first | exact HK.out | apply pS | apply pN | apply pD | apply pA | refine keep_far ?_ GW201.out _ | refine keep_far ?_ GW204.out _)⟩
             ·rw [if_neg c49] at H
              have c49b0 : ((wrap64 (1 + t202)) == 8) = false := beq_eq_false_iff_ne.mpr c49
              have c49b1 : ((wrap64 (1 + t202)) != 8) = true := bne_iff_ne.mpr c49
              by_cases c58 : (wrap64 (1 + t202)) = 13
              ·rw [if_pos c58] at H
               have c58b0 : ((wrap64 (1 + t202)) == 13) = true := beq_iff_eq.mpr c58
               have c58b1 : ((wrap64 (1 + t202)) != 13) = false := bne_eq_false_iff_eq.mpr c58
               clear c58
               replace H := Option.bind_eq_some_iff.mp H
               obtain ⟨⟨t223, t224⟩, A590, H⟩ := H
               replace H : (some ((wrap64 (1 + t202)), x205001_5, x205002_22, x205003_31, 1, t223, t224)) = some (r1, r2, r3, r4, r5, r6, r7) := H
               have A59 := Aside0.mk A590
               clear A590
               simp only [Option.some.injEq, Prod.mk.injEq] at H
               obtain ⟨rfl, rfl, rfl, rfl, rfl, rfl, rfl⟩ := H
               have hnb60 := NB204_201.out
               have hnc60 := NB201_204.out
               have hnb61 := NB204_0.out
               have hnc61 := NB0_204.out
               have hcz62_0 : wc.cell? ⟨gb204, 0, none⟩ = some (.int .i64 (wrap64 (1 + t202))) := (blk_cell BK204.out 0).trans rfl
               have hcz62_1 : wc.cell? ⟨gb204, 1, none⟩ = some (.int .i64 x205001_5) := (blk_cell BK204.out 1).trans rfl
               have hcz62_2 : wc.cell? ⟨gb204, 2, none⟩ = some (.int .i64 x205002_22) := (blk_cell BK204.out 2).trans rfl
               have hcz62_3 : wc.cell? ⟨gb204, 3, none⟩ = some (.int .i64 x205003_31) := (blk_cell BK204.out 3).trans rfl
               have hcz62_4 : wc.cell? ⟨gb204, 4, none⟩ = some (.int .i64 x205004_40) := (blk_cell BK204.out 4).trans rfl
               have hcz62_5 : wc.cell? ⟨gb204, 5, none⟩ = some (.int .i64 x205005_40) := (blk_cell BK204.out 5).trans rfl
               have hfz62_0 := blk_frozen BK204.out 0
               have hfz62_1 := blk_frozen BK204.out 1
               have hfz62_2 := blk_frozen BK204.out 2
               have hfz62_3 := blk_frozen BK204.out 3
               have hfz62_4 := blk_frozen BK204.out 4
               have hfz62_5 := blk_frozen BK204.out 5
               go_wp2_with (first | ((with_reducible refine gate_callee (f := 71) rfl ?_); refine goesL_ (some 51) rfl rfl Try.func71 (by kernel_rfl) rfl #[.pointer (some ⟨g, 0, none⟩), .int .i64 2] rfl (by (try simp only [List.map_toArray, List.map_cons, List.map_nil]) <;> rfl) ?_; (with_reducible refine (spec_l6Rd_pick.calls kj40 g s0_0 x1001_40 2 t223 t224 w0 _ ?side1 ?side2 A59.out).mono ?_); (case side1 => repeat (with_reducible first | exact HI0.out | apply sA | apply sN | apply sD | apply sS | refine IsS84.far ?_ NB0_201.out _ | refine IsS84.far ?_ NB0_204.out _)); (case side2 => repeat (with_reducible first | exact HB.out | apply bA | apply bN | apply b1 | refine below_set ?_ (IsS84.ge HI0.out) | refine below_set ?_ GE201.out | refine below_set ?_ GE204.out)); rintro e w63 ⟨rfl, hi, hb, hk⟩; refine ⟨_, rfl, ?_⟩; replace BK201 := Aside0.mk (KeepBut.blk hk (g' := gb201) (o := .cells #[.int .i64 0, .int .i64 0, .int .i64 0, .int .i64 0, .int .i64 0, .int .i64 0] 29 (0, 0)) (by exact blkU BK201.out) NB201_0.out (by simp)); replace BK204 := Aside0.mk (KeepBut.blk hk (g' := gb204) (o := .cells #[.int .i64 (wrap64 (1 + t202)), .int .i64 x205001_5, .int .i64 x205002_22, .int .i64 x205003_31, .int .i64 x205004_40, .int .i64 x205005_40] 29 (0, 0)) (by exact blkU BK204.out) NB204_0.out (by simp)); replace HK := Aside0.mk (KeepBut.trans (by repeat (with_reducible first | exact HK.out | apply pS | apply pN | apply pD | apply pA | refine keep_far ?_ GW201.out _ | refine keep_far ?_ GW204.out _)) hk (.inl rfl)); replace HB := Aside0.mk (hb); replace HI0 := Aside0.mk (hi); (try clear hb); (try clear hb2); (try clear hk); (try clear hi); obtain ⟨hcz64_0, hcz64_1, hcz64_2, hcz64_3, hcz64_4, hcz64_5⟩ := six_cells BK204.out; obtain ⟨hfz64_0, hfz64_1, hfz64_2, hfz64_3, hfz64_4, hfz64_5⟩ := six_marks BK204.out; have hnb65 := NB201_0.out; have hnc65 := NB0_201.out; obtain ⟨hcz66_0, hcz66_1, hcz66_2, hcz66_3, hcz66_4, hcz66_5⟩ := six_cells BK201.out; obtain ⟨hfz66_0, hfz66_1, hfz66_2, hfz66_3, hfz66_4, hfz66_5⟩ := six_marks BK201.out))
               refine bodyPost_ret (results_cell_row rfl _ _ gb201 29 #[.int .i64 (wrap64 (1 + t202)), .int .i64 x205001_5, .int .i64 x205002_22, .int .i64 x205003_31, .int .i64 1, .int .i64 t223] (0, 0) _ rfl (by (with_reducible repeat (first | apply kN | apply kD | apply kA)); refine blk_put (cs := #[.int .i64 (wrap64 (1 + t202)), .int .i64 x205001_5, .int .i64 x205002_22, .int .i64 x205003_31, .int .i64 1, .int .i64 0]) ?_ 5 _ rfl; (with_reducible repeat (first | apply kN | apply kD | apply kA)); refine blk_put (cs := #[.int .i64 (wrap64 (1 + t202)), .int .i64 x205001_5, .int .i64 x205002_22, .int .i64 x205003_31, .int .i64 0, .int .i64 0]) ?_ 4 _ rfl; (with_reducible repeat (first | apply kN | apply kD | apply kA)); refine blk_put (cs := #[.int .i64 (wrap64 (1 + t202)), .int .i64 x205001_5, .int .i64 x205002_22, .int .i64 0, .int .i64 0, .int .i64 0]) ?_ 3 _ rfl; (with_reducible repeat (first | apply kN | apply kD | apply kA)); refine blk_put (cs := #[.int .i64 (wrap64 (1 + t202)), .int .i64 x205001_5, .int .i64 0, .int .i64 0, .int .i64 0, .int .i64 0]) ?_ 2 _ rfl; (with_reducible repeat (first | apply kN | apply kD | apply kA)); refine blk_put (cs := #[.int .i64 (wrap64 (1 + t202)), .int .i64 0, .int .i64 0, .int .i64 0, .int .i64 0, .int .i64 0]) ?_ 1 _ rfl; (with_reducible repeat (first | apply kN | apply kD | apply kA)); refine blk_put (cs := #[.int .i64 0, .int .i64 0, .int .i64 0, .int .i64 0, .int .i64 0, .int .i64 0]) ?_ 0 _ rfl; (with_reducible repeat (first | apply kN | apply kD | apply kA)); refine blk_far ?_ NB201_204.out _; (with_reducible repeat (first | apply kN | apply kD | apply kA)); refine blk_far ?_ NB201_204.out _; exact blkU BK201.out) Try.underlying29 rfl (by kernel_rfl)) rfl ?_
               exact ⟨by first | rfl | (simp [errW_none, errW_some] <;> rfl) | (simp [*, errW_none, errW_some] <;> rfl), by repeat (with_reducible first | exact HI0.out | apply sA | apply sN | apply sD | apply sS | refine IsS84.far ?_ NB0_201.out _ | refine IsS84.far ?_ NB0_204.out _), by repeat (with_reducible first | exact HB.out | apply bA | apply bN | apply b1 | refine below_set ?_ (IsS84.ge HI0.out) | refine below_set ?_ GE201.out | refine below_set ?_ GE204.out), by repeat (with_reducible first | exact HK.out | apply pS | apply pN | apply pD | apply pA | refine keep_far ?_ GW201.out _ | refine keep_far ?_ GW204.out _)⟩
              ·rw [if_neg c58] at H
               have c58b0 : ((wrap64 (1 + t202)) == 13) = false := beq_eq_false_iff_ne.mpr c58
               have c58b1 : ((wrap64 (1 + t202)) != 13) = true := bne_iff_ne.mpr c58
               simp only [Option.some.injEq, Prod.mk.injEq] at H
               obtain ⟨rfl, rfl, rfl, rfl, rfl, rfl, rfl⟩ := H
               have hnb67 := NB204_201.out
               have hnc67 := NB201_204.out
               have hnb68 := NB204_0.out
               have hnc68 := NB0_204.out
               have hcz69_0 : wc.cell? ⟨gb204, 0, none⟩ = some (.int .i64 (wrap64 (1 + t202))) := (blk_cell BK204.out 0).trans rfl
               have hcz69_1 : wc.cell? ⟨gb204, 1, none⟩ = some (.int .i64 x205001_5) := (blk_cell BK204.out 1).trans rfl
               have hcz69_2 : wc.cell? ⟨gb204, 2, none⟩ = some (.int .i64 x205002_22) := (blk_cell BK204.out 2).trans rfl
               have hcz69_3 : wc.cell? ⟨gb204, 3, none⟩ = some (.int .i64 x205003_31) := (blk_cell BK204.out 3).trans rfl
               have hcz69_4 : wc.cell? ⟨gb204, 4, none⟩ = some (.int .i64 x205004_40) := (blk_cell BK204.out 4).trans rfl
               have hcz69_5 : wc.cell? ⟨gb204, 5, none⟩ = some (.int .i64 x205005_40) := (blk_cell BK204.out 5).trans rfl
               have hfz69_0 := blk_frozen BK204.out 0
               have hfz69_1 := blk_frozen BK204.out 1
               have hfz69_2 := blk_frozen BK204.out 2
               have hfz69_3 := blk_frozen BK204.out 3
               have hfz69_4 := blk_frozen BK204.out 4
               have hfz69_5 := blk_frozen BK204.out 5
               have hnb70 := NB201_0.out
               have hnc70 := NB0_201.out
               have hcz71_0 : wc.cell? ⟨gb201, 0, none⟩ = some (.int .i64 0) := (blk_cell BK201.out 0).trans rfl
               have hcz71_1 : wc.cell? ⟨gb201, 1, none⟩ = some (.int .i64 0) := (blk_cell BK201.out 1).trans rfl
               have hcz71_2 : wc.cell? ⟨gb201, 2, none⟩ = some (.int .i64 0) := (blk_cell BK201.out 2).trans rfl
               have hcz71_3 : wc.cell? ⟨gb201, 3, none⟩ = some (.int .i64 0) := (blk_cell BK201.out 3).trans rfl
               have hcz71_4 : wc.cell? ⟨gb201, 4, none⟩ = some (.int .i64 0) := (blk_cell BK201.out 4).trans rfl
               have hcz71_5 : wc.cell? ⟨gb201, 5, none⟩ = some (.int .i64 0) := (blk_cell BK201.out 5).trans rfl
               have hfz71_0 := blk_frozen BK201.out 0
               have hfz71_1 := blk_frozen BK201.out 1
               have hfz71_2 := blk_frozen BK201.out 2
               have hfz71_3 := blk_frozen BK201.out 3
               have hfz71_4 := blk_frozen BK201.out 4
               have hfz71_5 := blk_frozen BK201.out 5
               go_wp2
               refine bodyPost_ret (results_cell_row rfl _ _ gb201 29 #[.int .i64 (wrap64 (1 + t202)), .int .i64 x205001_5, .int .i64 x205002_22, .int .i64 x205003_31, .int .i64 x205004_40, .int .i64 x205005_40] (0, 0) _ rfl (by (with_reducible repeat (first | apply kN | apply kD | apply kA)); refine blk_put (cs := #[.int .i64 (wrap64 (1 + t202)), .int .i64 x205001_5, .int .i64 x205002_22, .int .i64 x205003_31, .int .i64 x205004_40, .int .i64 0]) ?_ 5 _ rfl; (with_reducible repeat (first | apply kN | apply kD | apply kA)); refine blk_put (cs := #[.int .i64 (wrap64 (1 + t202)), .int .i64 x205001_5, .int .i64 x205002_22, .int .i64 x205003_31, .int .i64 0, .int .i64 0]) ?_ 4 _ rfl; (with_reducible repeat (first | apply kN | apply kD | apply kA)); refine blk_put (cs := #[.int .i64 (wrap64 (1 + t202)), .int .i64 x205001_5, .int .i64 x205002_22, .int .i64 0, .int .i64 0, .int .i64 0]) ?_ 3 _ rfl; (with_reducible repeat (first | apply kN | apply kD | apply kA)); refine blk_put (cs := #[.int .i64 (wrap64 (1 + t202)), .int .i64 x205001_5, .int .i64 0, .int .i64 0, .int .i64 0, .int .i64 0]) ?_ 2 _ rfl; (with_reducible repeat (first | apply kN | apply kD | apply kA)); refine blk_put (cs := #[.int .i64 (wrap64 (1 + t202)), .int .i64 0, .int .i64 0, .int .i64 0, .int .i64 0, .int .i64 0]) ?_ 1 _ rfl; (with_reducible repeat (first | apply kN | apply kD | apply kA)); refine blk_put (cs := #[.int .i64 0, .int .i64 0, .int .i64 0, .int .i64 0, .int .i64 0, .int .i64 0]) ?_ 0 _ rfl; exact blkU BK201.out) Try.underlying29 rfl (by kernel_rfl)) rfl ?_
               exact ⟨by first | rfl | (simp [errW_none, errW_some] <;> rfl) | (simp [*, errW_none, errW_some] <;> rfl), by repeat (with_reducible first | exact HI0.out | apply sA | apply sN | apply sD | apply sS | refine IsS84.far ?_ NB0_201.out _ | refine IsS84.far ?_ NB0_204.out _), by repeat (with_reducible first | exact HB.out | apply bA | apply bN | apply b1 | refine below_set ?_ (IsS84.ge HI0.out) | refine below_set ?_ GE201.out | refine below_set ?_ GE204.out), by repeat (with_reducible first | exact HK.out | apply pS | apply pN | apply pD | apply pA | refine keep_far ?_ GW201.out _ | refine keep_far ?_ GW204.out _)⟩
          ·rw [if_neg c40] at H
           exact absurd H (by simp)
       ·rw [if_neg c31] at H
        exact absurd H (by simp)
    ·rw [if_neg c22] at H
     exact absurd H (by simp)
 ·rw [if_neg c5] at H
  exact absurd H (by simp)
end Go.Proofs.Ytmklpbmlgjkbiaa.PS
end
section
namespace Go.Proofs.Ytmklpbmlgjkbiaa.PS
open Go.RowKit Go.Proofs.YtmklpbmlgjkbiaaW.PrintWords Go.Proofs.YtmklpbmlgjkbiaaW.PrintLast Go.Proofs.YtmklpbmlgjkbiaaW.PrintMore
attribute [local go_sem] max2_int min2_int max_two min_two max_three min_three max_four min_four   -- for this text's walks alone
def spec_l71AnyOp.f (k : Nat) (s0_0 : List Int) (s0_1 : Int) : Option (Int × Int × Int × Int × Int × Int × Int) := (spec_l71Op.f k s0_0 s0_1 16).bind fun bt226 => ((spec_l6Rd_pick.f k s0_0 bt226.2.2.2.2.2.2 20).bind fun bt234 => (if bt234.1 = 0 then ((spec_l6Rd_pick.f k s0_0 bt234.2 17).bind fun bt236 => (some (bt236.1, bt226.2.1, bt226.2.2.1, bt226.2.2.2.1, bt226.2.2.2.2.1, bt226.2.2.2.2.2.1, bt236.2))) else (if bt234.1 = 1 then ((spec_l6Rd_pick.f k s0_0 bt234.2 6).bind fun bt238 => (some (bt226.1, wrap64 (bt238.1 - 1), bt226.2.2.1, bt226.2.2.2.1, bt226.2.2.2.2.1, bt226.2.2.2.2.2.1, bt238.2))) else (if bt234.1 = 2 then ((spec_l71Val.f k s0_0 bt234.2).bind fun bt240 => (some (bt226.1, bt226.2.1, bt226.2.2.1, bt226.2.2.2.1, bt240.1, bt240.2.1, bt240.2.2))) else (some (bt226.1, bt226.2.1, bt226.2.2.1, bt226.2.2.2.1, bt226.2.2.2.2.1, bt226.2.2.2.2.2.1, bt234.2))))))
theorem spec_l71AnyOp.mono : ∀ a0 a1 k, LeO (spec_l71AnyOp.f k a0 a1) (spec_l71AnyOp.f (k + 1) a0 a1) := by
 intro a0 a1 k
 unfold spec_l71AnyOp.f
 repeat' first
   | (with_reducible exact spec_l6Rd_pick.mono _ _ _ _)
   | (with_reducible exact spec_l71Op.mono _ _ _ _)
   | (with_reducible exact spec_l71Val.mono _ _ _)
   | (with_reducible exact LeO.refl _)
   | (with_reducible exact LeO.none _)
   | (with_reducible refine LeO.ite ?_ ?_)
   | (with_reducible refine LeO.bind ?_ (fun _ => ?_))
   | exact spec_l6Rd_pick.mono _ _ _ _
   | exact spec_l71Op.mono _ _ _ _
   | exact spec_l71Val.mono _ _ _
   | exact LeO.none _
   | refine LeO.ite ?_ ?_
   | refine LeO.bind ?_ (fun _ => ?_)
theorem spec_l71AnyOp.calls (k : Nat) (g : Nat) (s0_0 : List Int) (s0_1 : Int) (r1 : Int) (r2 : Int) (r3 : Int) (r4 : Int) (r5 : Int) (r6 : Int) (r7 : Int) (w0 w : World) (hI : IsS84 w0 w g s0_0 s0_1) (hB : Below w0.heap.size w0 w) (h : spec_l71AnyOp.f k s0_0 s0_1 = some (r1, r2, r3, r4, r5, r6, r7)) :
  Calls Try.prog 70 #[.pointer (some ⟨g, 0, none⟩)] w fun e w' => e = .returned (.agg #[.int .i64 r1, .int .i64 r2, .int .i64 r3, .int .i64 r4, .int .i64 r5, .int .i64 r6]) ∧ IsS84 w0 w' g s0_0 r7 ∧ Below w0.heap.size w0 w' ∧ KeepBut w w' g none := by
 have hu29 := Try.underlying29
 have hu27 := Try.underlying27
 have HI0 := Aside0.mk hI
 have HK := Aside0.mk (KeepBut.refl w g none)
 have HL := Aside0.mk hB.size
 clear hI
 have HW0 := Aside0.mk hB.size
 have HB := Aside0.mk hB
 clear hB
 have H : ((spec_l71Op.f k s0_0 s0_1 16).bind fun bt226 => ((spec_l6Rd_pick.f k s0_0 bt226.2.2.2.2.2.2 20).bind fun bt234 => (if bt234.1 = 0 then ((spec_l6Rd_pick.f k s0_0 bt234.2 17).bind fun bt236 => (some (bt236.1, bt226.2.1, bt226.2.2.1, bt226.2.2.2.1, bt226.2.2.2.2.1, bt226.2.2.2.2.2.1, bt236.2))) else (if bt234.1 = 1 then ((spec_l6Rd_pick.f k s0_0 bt234.2 6).bind fun bt238 => (some (bt226.1, wrap64 (bt238.1 - 1), bt226.2.2.1, bt226.2.2.2.1, bt226.2.2.2.2.1, bt226.2.2.2.2.2.1, bt238.2))) else (if bt234.1 = 2 then ((spec_l71Val.f k s0_0 bt234.2).bind fun bt240 => (some (bt226.1, bt226.2.1, bt226.2.2.1, bt226.2.2.2.1, bt240.1, bt240.2.1, bt240.2.2))) else (some (bt226.1, bt226.2.1, bt226.2.2.1, bt226.2.2.2.1, bt226.2.2.2.2.1, bt226.2.2.2.2.2.1, bt234.2))))))) = some (r1, r2, r3, r4, r5, r6, r7) := h
 clear h
 replace H := Option.bind_eq_some_iff.mp H
 obtain ⟨⟨t226, t227, t228, t229, t230, t231, t232⟩, A20, H⟩ := H
 replace H : ((spec_l6Rd_pick.f k s0_0 t232 20).bind fun bt234 => (if bt234.1 = 0 then ((spec_l6Rd_pick.f k s0_0 bt234.2 17).bind fun bt236 => (some (bt236.1, t227, t228, t229, t230, t231, bt236.2))) else (if bt234.1 = 1 then ((spec_l6Rd_pick.f k s0_0 bt234.2 6).bind fun bt238 => (some (t226, wrap64 (bt238.1 - 1), t228, t229, t230, t231, bt238.2))) else (if bt234.1 = 2 then ((spec_l71Val.f k s0_0 bt234.2).bind fun bt240 => (some (t226, t227, t228, t229, bt240.1, bt240.2.1, bt240.2.2))) else (some (t226, t227, t228, t229, t230, t231, bt234.2)))))) = some (r1, r2, r3, r4, r5, r6, r7) := H
 have A2 := Aside0.mk A20
 clear A20
 replace H := Option.bind_eq_some_iff.mp H
 obtain ⟨⟨t234, t235⟩, A30, H⟩ := H
 replace H : (if t234 = 0 then ((spec_l6Rd_pick.f k s0_0 t235 17).bind fun bt236 => (some (bt236.1, t227, t228, t229, t230, t231, bt236.2))) else (if t234 = 1 then ((spec_l6Rd_pick.f k s0_0 t235 6).bind fun bt238 => (some (t226, wrap64 (bt238.1 - 1), t228, t229, t230, t231, bt238.2))) else (if t234 = 2 then ((spec_l71Val.f k s0_0 t235).bind fun bt240 => (some (t226, t227, t228, t229, bt240.1, bt240.2.1, bt240.2.2))) else (some (t226, t227, t228, t229, t230, t231, t235))))) = some (r1, r2, r3, r4, r5, r6, r7) := H
 have A3 := Aside0.mk A30
 clear A30
 by_cases c4 : t234 = 0
 ·rw [if_pos c4] at H
  have c4b0 : (t234 == 0) = true := beq_iff_eq.mpr c4
  have c4b1 : (t234 != 0) = false := bne_eq_false_iff_eq.mpr c4
  clear c4
  replace H := Option.bind_eq_some_iff.mp H
  obtain ⟨⟨t236, t237⟩, A50, H⟩ := H
  replace H : (some (t236, t227, t228, t229, t230, t231, t237)) = some (r1, r2, r3, r4, r5, r6, r7) := H
  have A5 := Aside0.mk A50
  clear A50
  simp only [Option.some.injEq, Prod.mk.injEq] at H
  obtain ⟨rfl, rfl, rfl, rfl, rfl, rfl, rfl⟩ := H
  go_enter Try.func70, Try.ntmps70
  go_wp2_with (first | ((with_reducible refine gate_dst (N := 2) rfl ?_); refine box_event ?hg (N := 2) ?hd (cs := #[.int .i64 0, .int .i64 0, .int .i64 0, .int .i64 0, .int .i64 0, .int .i64 0]) (t := 29) ?hr ?_; (case hd => rfl); (case hg => rfl); (case hr => first | (go_simp; done) | (go_simp; rfl)); intro gb225 hg w6 hbox hb; have n0_ := Aside0.mk (IsS84.below (by repeat (with_reducible first | exact HI0.out | apply sA | apply sN | apply sD | apply sS)) hb); have n1_ := Aside0.mk (KeepBut.trans (by repeat (with_reducible first | exact HK.out | apply pS | apply pN | apply pD | apply pA)) (KeepBut.of_below hb g none) (.inl rfl)); have n2_ := Aside0.mk (below_step (by repeat (with_reducible first | exact HB.out | apply bA | apply bN | apply b1 | refine below_set ?_ (IsS84.ge HI0.out))) hb); have n3_ := Aside0.mk (hbox); have n4_ := Aside0.mk ((by rw [hg]; exact (keep_size (w := w) (g := g) (row := none) (by repeat (with_reducible first | exact HK.out | apply pS | apply pN | apply pD | apply pA))) : w.heap.size ≤ gb225)); have n5_ := Aside0.mk ((Nat.le_trans HW0.out (by rw [hg]; exact (keep_size (w := w) (g := g) (row := none) (by repeat (with_reducible first | exact HK.out | apply pS | apply pN | apply pD | apply pA))) : w.heap.size ≤ gb225) : w0.heap.size ≤ gb225)); have n6_ := Aside0.mk ((by rw [hg]; exact Nat.ne_of_lt (IsS84.lt (show IsS84 w0 _ g s0_0 s0_1 from by repeat (with_reducible first | exact HI0.out | apply sA | apply sN | apply sD | apply sS))) : g ≠ gb225)); have n7_ := Aside0.mk ((by rw [hg]; exact Nat.ne_of_gt (IsS84.lt (show IsS84 w0 _ g s0_0 s0_1 from by repeat (with_reducible first | exact HI0.out | apply sA | apply sN | apply sD | apply sS))) : gb225 ≠ g)); clear HI0; clear HK; clear HB; have HI0 := n0_; have HK := n1_; have HB := n2_; have BK225 := n3_; have GW225 := n4_; have GE225 := n5_; have NB0_225 := n6_; have NB225_0 := n7_; clear n0_ n1_ n2_ n3_ n4_ n5_ n6_ n7_; clear hb hbox hg) | ((with_reducible refine gate_callee (f := 90) rfl ?_); refine goesL_ (some 5) rfl rfl Try.func90 (by kernel_rfl) rfl #[.pointer (some ⟨g, 0, none⟩), .int .i64 16] rfl (by (try simp only [List.map_toArray, List.map_cons, List.map_nil]) <;> rfl) ?_; (with_reducible refine (spec_l71Op.calls k g s0_0 s0_1 16 t226 t227 t228 t229 t230 t231 t232 w0 _ ?side1 ?side2 A2.out).mono ?_); (case side1 => repeat (with_reducible first | exact HI0.out | apply sA | apply sN | apply sD | apply sS | refine IsS84.far ?_ NB0_225.out _)); (case side2 => repeat (with_reducible first | exact HB.out | apply bA | apply bN | apply b1 | refine below_set ?_ (IsS84.ge HI0.out) | refine below_set ?_ GE225.out)); rintro e w7 ⟨rfl, hi, hb, hk⟩; refine ⟨_, rfl, ?_⟩; replace BK225 := Aside0.mk (KeepBut.blk hk (g' := gb225) (o := .cells #[.int .i64 0, .int .i64 0, .int .i64 0, .int .i64 0, .int .i64 0, .int .i64 0] 29 (0, 0)) (by exact blkU BK225.out) NB225_0.out (by simp)); replace HK := Aside0.mk (KeepBut.trans (by repeat (with_reducible first | exact HK.out | apply pS | apply pN | apply pD | apply pA | refine keep_far ?_ GW225.out _)) hk (.inl rfl)); replace HB := Aside0.mk (hb); replace HI0 := Aside0.mk (hi); (try clear hb); (try clear hb2); (try clear hk); (try clear hi)) | ((with_reducible refine gate_dst (N := 3) rfl ?_); refine box_event ?hg (N := 3) ?hd (cs := #[.int .i64 0, .int .i64 0, .int .i64 0, .int .i64 0, .int .i64 0, .int .i64 0]) (t := 29) ?hr ?_; (case hd => rfl); (case hg => rfl); (case hr => first | (go_simp; done) | (go_simp; rfl)); intro gb233 hg w8 hbox hb; have n0_ := Aside0.mk (IsS84.below (by repeat (with_reducible first | exact HI0.out | apply sA | apply sN | apply sD | apply sS | refine IsS84.far ?_ NB0_225.out _)) hb); have n1_ := Aside0.mk (blk_below (g := gb225) (o := .cells #[.int .i64 0, .int .i64 0, .int .i64 0, .int .i64 0, .int .i64 0, .int .i64 0] 29 (0, 0)) (by exact blkU BK225.out) hb); have n2_ := Aside0.mk (KeepBut.trans (by repeat (with_reducible first | exact HK.out | apply pS | apply pN | apply pD | apply pA | refine keep_far ?_ GW225.out _)) (KeepBut.of_below hb g none) (.inl rfl)); have n3_ := Aside0.mk (below_step (by repeat (with_reducible first | exact HB.out | apply bA | apply bN | apply b1 | refine below_set ?_ (IsS84.ge HI0.out) | refine below_set ?_ GE225.out)) hb); have n4_ := Aside0.mk (hbox); have n5_ := Aside0.mk ((by rw [hg]; exact (keep_size (w := w) (g := g) (row := none) (by repeat (with_reducible first | exact HK.out | apply pS | apply pN | apply pD | apply pA | refine keep_far ?_ GW225.out _))) : w.heap.size ≤ gb233)); have n6_ := Aside0.mk ((Nat.le_trans HW0.out (by rw [hg]; exact (keep_size (w := w) (g := g) (row := none) (by repeat (with_reducible first | exact HK.out | apply pS | apply pN | apply pD | apply pA | refine keep_far ?_ GW225.out _))) : w.heap.size ≤ gb233) : w0.heap.size ≤ gb233)); have n7_ := Aside0.mk ((by rw [hg]; exact Nat.ne_of_lt (blk_lt (g := gb225) (o := .cells #[.int .i64 0, .int .i64 0, .int .i64 0, .int .i64 0, .int .i64 0, .int .i64 0] 29 (0, 0)) (by exact blkU BK225.out)) : gb225 ≠ gb233)); have n8_ := Aside0.mk ((by rw [hg]; exact Nat.ne_of_gt (blk_lt (g := gb225) (o := .cells #[.int .i64 0, .int .i64 0, .int .i64 0, .int .i64 0, .int .i64 0, .int .i64 0] 29 (0, 0)) (by exact blkU BK225.out)) : gb233 ≠ gb225)); have n9_ := Aside0.mk ((by rw [hg]; exact Nat.ne_of_lt (IsS84.lt (show IsS84 w0 _ g s0_0 t232 from by repeat (with_reducible first | exact HI0.out | apply sA | apply sN | apply sD | apply sS | refine IsS84.far ?_ NB0_225.out _))) : g ≠ gb233)); have n10_ := Aside0.mk ((by rw [hg]; exact Nat.ne_of_gt (IsS84.lt (show IsS84 w0 _ g s0_0 t232 from by repeat (with_reducible first | exact HI0.out | apply sA | apply sN | apply sD | apply sS | refine IsS84.far ?_ NB0_225.out _))) : gb233 ≠ g)); clear HI0; clear BK225; clear HK; clear HB; have HI0 := n0_; have BK225 := n1_; have HK := n2_; have HB := n3_; have BK233 := n4_; have GW233 := n5_; have GE233 := n6_; have NB225_233 := n7_; have NB233_225 := n8_; have NB0_233 := n9_; have NB233_0 := n10_; clear n0_ n1_ n2_ n3_ n4_ n5_ n6_ n7_ n8_ n9_ n10_; clear hb hbox hg; have hnb9 := NB233_225.out; have hnc9 := NB225_233.out; have hnb10 := NB233_0.out; have hnc10 := NB0_233.out; obtain ⟨hcz11_0, hcz11_1, hcz11_2, hcz11_3, hcz11_4, hcz11_5⟩ := six_cells BK233.out; obtain ⟨hfz11_0, hfz11_1, hfz11_2, hfz11_3, hfz11_4, hfz11_5⟩ := six_marks BK233.out) | ((with_reducible refine gate_callee (f := 71) rfl ?_); refine goesL_ (some 7) rfl rfl Try.func71 (by kernel_rfl) rfl #[.pointer (some ⟨g, 0, none⟩), .int .i64 20] rfl (by (try simp only [List.map_toArray, List.map_cons, List.map_nil]) <;> rfl) ?_; (with_reducible refine (spec_l6Rd_pick.calls k g s0_0 t232 20 t234 t235 w0 _ ?side1 ?side2 A3.out).mono ?_); (case side1 => repeat (with_reducible first | exact HI0.out | apply sA | apply sN | apply sD | apply sS | refine IsS84.far ?_ NB0_225.out _ | refine IsS84.far ?_ NB0_233.out _)); (case side2 => repeat (with_reducible first | exact HB.out | apply bA | apply bN | apply b1 | refine below_set ?_ (IsS84.ge HI0.out) | refine below_set ?_ GE225.out | refine below_set ?_ GE233.out)); rintro e w12 ⟨rfl, hi, hb, hk⟩; refine ⟨_, rfl, ?_⟩; replace BK225 := Aside0.mk (KeepBut.blk hk (g' := gb225) (o := .cells #[.int .i64 0, .int .i64 0, .int .i64 0, .int .i64 0, .int .i64 0, .int .i64 0] 29 (0, 0)) (by (with_reducible repeat (first | apply kN | apply kD | apply kA)); refine blk_far ?_ NB225_233.out _; (with_reducible repeat (first | apply kN | apply kD | apply kA)); refine blk_far ?_ NB225_233.out _; (with_reducible repeat (first | apply kN | apply kD | apply kA)); refine blk_far ?_ NB225_233.out _; (with_reducible repeat (first | apply kN | apply kD | apply kA)); refine blk_far ?_ NB225_233.out _; (with_reducible repeat (first | apply kN | apply kD | apply kA)); refine blk_far ?_ NB225_233.out _; (with_reducible repeat (first | apply kN | apply kD | apply kA)); refine blk_far ?_ NB225_233.out _; exact blkU BK225.out) NB225_0.out (by simp)); replace BK233 := Aside0.mk (KeepBut.blk hk (g' := gb233) (o := .cells #[.int .i64 t226, .int .i64 t227, .int .i64 t228, .int .i64 t229, .int .i64 t230, .int .i64 t231] 29 (0, 0)) (by (with_reducible repeat (first | apply kN | apply kD | apply kA)); refine blk_put (cs := #[.int .i64 t226, .int .i64 t227, .int .i64 t228, .int .i64 t229, .int .i64 t230, .int .i64 0]) ?_ 5 _ rfl; (with_reducible repeat (first | apply kN | apply kD | apply kA)); refine blk_put (cs := #[.int .i64 t226, .int .i64 t227, .int .i64 t228, .int .i64 t229, .int .i64 0, .int .i64 0]) ?_ 4 _ rfl; (with_reducible repeat (first | apply kN | apply kD | apply kA)); refine blk_put (cs := #[.int .i64 t226, .int .i64 t227, .int .i64 t228, .int .i64 0, .int .i64 0, .int .i64 0]) ?_ 3 _ rfl; (with_reducible repeat (first | apply kN | apply kD | apply kA)); refine blk_put (cs := #[.int .i64 t226, .int .i64 t227, .int .i64 0, .int .i64 0, .int .i64 0, .int .i64 0]) ?_ 2 _ rfl; (with_reducible repeat (first | apply kN | apply kD | apply kA)); refine blk_put (cs := #[.int .i64 t226, .int .i64 0, .int .i64 0, .int .i64 0, .int .i64 0, .int .i64 0]) ?_ 1 _ rfl; (with_reducible repeat (first | apply kN | apply kD | apply kA)); refine blk_put (cs := #[.int .i64 0, .int .i64 0, .int .i64 0, .int .i64 0, .int .i64 0, .int .i64 0]) ?_ 0 _ rfl; exact blkU BK233.out) NB233_0.out (by simp)); replace HK := Aside0.mk (KeepBut.trans (by repeat (with_reducible first | exact HK.out | apply pS | apply pN | apply pD | apply pA | refine keep_far ?_ GW225.out _ | refine keep_far ?_ GW233.out _)) hk (.inl rfl)); replace HB := Aside0.mk (hb); replace HI0 := Aside0.mk (hi); (try clear hb); (try clear hb2); (try clear hk); (try clear hi)) | ((with_reducible refine gate_callee (f := 71) rfl ?_); refine goesL_ (some 11) rfl rfl Try.func71 (by kernel_rfl) rfl #[.pointer (some ⟨g, 0, none⟩), .int .i64 17] rfl (by (try simp only [List.map_toArray, List.map_cons, List.map_nil]) <;> rfl) ?_; (with_reducible refine (spec_l6Rd_pick.calls k g s0_0 t235 17 t236 t237 w0 _ ?side1 ?side2 A5.out).mono ?_); (case side1 => repeat (with_reducible first | exact HI0.out | apply sA | apply sN | apply sD | apply sS | refine IsS84.far ?_ NB0_225.out _ | refine IsS84.far ?_ NB0_233.out _)); (case side2 => repeat (with_reducible first | exact HB.out | apply bA | apply bN | apply b1 | refine below_set ?_ (IsS84.ge HI0.out) | refine below_set ?_ GE225.out | refine below_set ?_ GE233.out)); rintro e w13 ⟨rfl, hi, hb, hk⟩; refine ⟨_, rfl, ?_⟩; replace BK225 := Aside0.mk (KeepBut.blk hk (g' := gb225) (o := .cells #[.int .i64 0, .int .i64 0, .int .i64 0, .int .i64 0, .int .i64 0, .int .i64 0] 29 (0, 0)) (by exact blkU BK225.out) NB225_0.out (by simp)); replace BK233 := Aside0.mk (KeepBut.blk hk (g' := gb233) (o := .cells #[.int .i64 t226, .int .i64 t227, .int .i64 t228, .int .i64 t229, .int .i64 t230, .int .i64 t231] 29 (0, 0)) (by exact blkU BK233.out) NB233_0.out (by simp)); replace HK := Aside0.mk (KeepBut.trans (by repeat (with_reducible first | exact HK.out | apply pS | apply pN | apply pD | apply pA | refine keep_far ?_ GW225.out _ | refine keep_far ?_ GW233.out _)) hk (.inl rfl)); replace HB := Aside0.mk (hb); replace HI0 := Aside0.mk (hi); (try clear hb); (try clear hb2); (try clear hk); (try clear hi); obtain ⟨hcz14_0, hcz14_1, hcz14_2, hcz14_3, hcz14_4, hcz14_5⟩ := six_cells BK233.out; obtain ⟨hfz14_0, hfz14_1, hfz14_2, hfz14_3, hfz14_4, hfz14_5⟩ := six_marks BK233.out; have hnb15 := NB225_0.out; have hnc15 := NB0_225.out; obtain ⟨hcz16_0, hcz16_1, hcz16_2, hcz16_3, hcz16_4, hcz16_5⟩ := six_cells BK225.out; obtain ⟨hfz16_0, hfz16_1, hfz16_2, hfz16_3, hfz16_4, hfz16_5⟩ := six_marks BK225.out))
  refine bodyPost_ret (results_cell_row rfl _ _ gb225 29 #[.int .i64 t236, .int .i64 t227, .int .i64 t228, .int .i64 t229, .int .i64 t230, .int .i64 t231] (0, 0) _ rfl (by (with_reducible repeat (first | apply kN | apply kD | apply kA)); refine blk_put (cs := #[.int .i64 t236, .int .i64 t227, .int .i64 t228, .int .i64 t229, .int .i64 t230, .int .i64 0]) ?_ 5 _ rfl; (with_reducible repeat (first | apply kN | apply kD | apply kA)); refine blk_put (cs := #[.int .i64 t236, .int .i64 t227, .int .i64 t228, .int .i64 t229, .int .i64 0, .int .i64 0]) ?_ 4 _ rfl; (with_reducible repeat (first | apply kN | apply kD | apply kA)); refine blk_put (cs := #[.int .i64 t236, .int .i64 t227, .int .i64 t228, .int .i64 0, .int .i64 0, .int .i64 0]) ?_ 3 _ rfl; (with_reducible repeat (first | apply kN | apply kD | apply kA)); refine blk_put (cs := #[.int .i64 t236, .int .i64 t227, .int .i64 0, .int .i64 0, .int .i64 0, .int .i64 0]) ?_ 2 _ rfl; (with_reducible repeat (first | apply kN | apply kD | apply kA)); refine blk_put (cs := #[.int .i64 t236, .int .i64 0, .int .i64 0, .int .i64 0, .int .i64 0, .int .i64 0]) ?_ 1 _ rfl; (with_reducible repeat (first | apply kN | apply kD | apply kA)); refine blk_put (cs := #[.int .i64 0, .int .i64 0, .int .i64 0, .int .i64 0, .int .i64 0, .int .i64 0]) ?_ 0 _ rfl; (with_reducible repeat (first | apply kN | apply kD | apply kA)); refine blk_far ?_ NB225_233.out _; exact blkU BK225.out) Try.underlying29 rfl (by kernel_rfl)) rfl ?_
  exact ⟨by first | rfl | (simp [errW_none, errW_some] <;> rfl) | (simp [*, errW_none, errW_some] <;> rfl), by repeat (with_reducible first | exact HI0.out | apply sA | apply sN | apply sD | apply sS | refine IsS84.far ?_ NB0_225.out _ | refine IsS84.far ?_ NB0_233.out _), by repeat (with_reducible first | exact HB.out | apply bA | apply bN | apply b1 | refine below_set ?_ (IsS84.ge HI0.out) | refine below_set ?_ GE225.out | refine below_set ?_ GE233.out), by repeat (with_reducible first | exact HK.out | apply pS | apply pN | apply pD | apply pA | refine keep_far ?_ GW225.out _ | refine keep_far ?_ GW233.out _)⟩
 ·rw [if_neg c4] at H
  have c4b0 : (t234 == 0) = false := beq_eq_false_iff_ne.mpr c4
  have c4b1 : (t234 != 0) = true := bne_iff_ne.mpr c4
  by_cases c17 : t234 = 1
  ·rw [if_pos c17] at H
   have c17b0 : (t234 == 1) = true := beq_iff_eq.mpr c17
   have c17b1 : (t234 != 1) = false := bne_eq_false_iff_eq.mpr c17
   clear c17
   replace H := Option.bind_eq_some_iff.mp H
   obtain ⟨⟨t238, t239⟩, A180, H⟩ := H
   replace H : (some (t226, wrap64 (t238 - 1), t228, t229, t230, t231, t239)) = some (r1, r2, r3, r4, r5, r6, r7) := H
   have A18 := Aside0.mk A180
   clear A180
   simp only [Option.some.injEq, Prod.mk.injEq] at H
   obtain ⟨rfl, rfl, rfl, rfl, rfl, rfl, rfl⟩ := H
   go_enter Try.func70, Try.ntmps70
   go_wp2_with (first | ((with_reducible refine gate_dst (N := 2) rfl ?_); refine box_event ?hg (N := 2) ?hd (cs := #[.int .i64 0, .int .i64 0, .int .i64 0, .int .i64 0, .int .i64 0, .int .i64 0]) (t := 29) ?hr ?_; (case hd => rfl); (case hg => rfl); (case hr => first | (go_simp; done) | (go_simp; rfl)); intro gb225 hg w19 hbox hb; have n0_ := Aside0.mk (IsS84.below (by repeat (with_reducible first | exact HI0.out | apply sA | apply sN | apply sD | apply sS)) hb); have n1_ := Aside0.mk (KeepBut.trans (by repeat (with_reducible first | exact HK.out | apply pS | apply pN | apply pD | apply pA)) (KeepBut.of_below hb g none) (.inl rfl)); have n2_ := Aside0.mk (below_step (by repeat (with_reducible first | exact HB.out | apply bA | apply bN | apply b1 | refine below_set ?_ (IsS84.ge HI0.out))) hb); have n3_ := Aside0.mk (hbox); have n4_ := Aside0.mk ((by rw [hg]; exact (keep_size (w := w) (g := g) (row := none) (by repeat (with_reducible first | exact HK.out | apply pS | apply pN | apply pD | apply pA))) : w.heap.size ≤ gb225)); have n5_ := Aside0.mk ((Nat.le_trans HW0.out (by rw [hg]; exact (keep_size (w := w) (g := g) (row := none) (by repeat (with_reducible first | exact HK.out | apply pS | apply pN | apply pD | apply pA))) : w.heap.size ≤ gb225) : w0.heap.size ≤ gb225)); have n6_ := Aside0.mk ((by rw [hg]; exact Nat.ne_of_lt (IsS84.lt (show IsS84 w0 _ g s0_0 s0_1 from by repeat (with_reducible first | exact HI0.out | apply sA | apply sN | apply sD | apply sS))) : g ≠ gb225)); have n7_ := Aside0.mk ((by rw [hg]; exact Nat.ne_of_gt (IsS84.lt (show IsS84 w0 _ g s0_0 s0_1 from by repeat (with_reducible first | exact HI0.out | apply sA | apply sN | apply sD | apply sS))) : gb225 ≠ g)); clear HI0; clear HK; clear HB; have HI0 := n0_; have HK := n1_; have HB := n2_; have BK225 := n3_; have GW225 := n4_; have GE225 := n5_; have NB0_225 := n6_; have NB225_0 := n7_; clear n0_ n1_ n2_ n3_ n4_ n5_ n6_ n7_; clear hb hbox hg) | ((with_reducible refine gate_callee (f := 90) rfl ?_); refine goesL_ (some 5) rfl rfl Try.func90 (by kernel_rfl) rfl #[.pointer (some ⟨g, 0, none⟩), .int .i64 16] rfl (by (try simp only [List.map_toArray, List.map_cons, List.map_nil]) <;> rfl) ?_; (with_reducible refine (spec_l71Op.calls k g s0_0 s0_1 16 t226 t227 t228 t229 t230 t231 t232 w0 _ ?side1 ?side2 A2.out).mono ?_); (case side1 => repeat (with_reducible first | exact HI0.out | apply sA | apply sN | apply sD | apply sS | refine IsS84.far ?_ NB0_225.out _)); (case side2 => repeat (with_reducible first | exact HB.out | apply bA | apply bN | apply b1 | refine below_set ?_ (IsS84.ge HI0.out) | refine below_set ?_ GE225.out)); rintro e w20 ⟨rfl, hi, hb, hk⟩; refine ⟨_, rfl, ?_⟩; replace BK225 := Aside0.mk (KeepBut.blk hk (g' := gb225) (o := .cells #[.int .i64 0, .int .i64 0, .int .i64 0, .int .i64 0, .int .i64 0, .int .i64 0] 29 (0, 0)) (by exact blkU BK225.out) NB225_0.out (by simp)); replace HK := Aside0.mk (KeepBut.trans (by repeat (with_reducible first | exact HK.out | apply pS | apply pN | apply pD | apply pA | refine keep_far ?_ GW225.out _)) hk (.inl rfl)); replace HB := Aside0.mk (hb); replace HI0 := Aside0.mk (hi); (try clear hb); (try clear hb2); (try clear hk); (try clear hi)) | ((with_reducible refine gate_dst (N := 3) rfl ?_); refine box_event ?hg (N := 3) ?hd (cs := #[.int .i64 0, .int .i64 0, .int .i64 0, .int .i64 0, .int .i64 0, .int .i64 0]) (t := 29) ?hr ?_; (case hd => rfl); (case hg => rfl); (case hr => first | (go_simp; done) | (go_simp; rfl)); intro gb233 hg w21 hbox hb; have n0_ := Aside0.mk (IsS84.below (by repeat (with_reducible first | exact HI0.out | apply sA | apply sN | apply sD | apply sS | refine IsS84.far ?_ NB0_225.out _)) hb); have n1_ := Aside0.mk (blk_below (g := gb225) (o := .cells #[.int .i64 0, .int .i64 0, .int .i64 0, .int .i64 0, .int .i64 0, .int .i64 0] 29 (0, 0)) (by exact blkU BK225.out) hb); have n2_ := Aside0.mk (KeepBut.trans (by repeat (with_reducible first | exact HK.out | apply pS | apply pN | apply pD | apply pA | refine keep_far ?_ GW225.out _)) (KeepBut.of_below hb g none) (.inl rfl)); have n3_ := Aside0.mk (below_step (by repeat (with_reducible first | exact HB.out | apply bA | apply bN | apply b1 | refine below_set ?_ (IsS84.ge HI0.out) | refine below_set ?_ GE225.out)) hb); have n4_ := Aside0.mk (hbox); have n5_ := Aside0.mk ((by rw [hg]; exact (keep_size (w := w) (g := g) (row := none) (by repeat (with_reducible first | exact HK.out | apply pS | apply pN | apply pD | apply pA | refine keep_far ?_ GW225.out _))) : w.heap.size ≤ gb233)); have n6_ := Aside0.mk ((Nat.le_trans HW0.out (by rw [hg]; exact (keep_size (w := w) (g := g) (row := none) (by repeat (with_reducible first | exact HK.out | apply pS | apply pN | apply pD | apply pA | refine keep_far ?_ GW225.out _))) : w.heap.size ≤ gb233) : w0.heap.size ≤ gb233)); have n7_ := Aside0.mk ((by rw [hg]; exact Nat.ne_of_lt (blk_lt (g := gb225) (o := .cells #[.int .i64 0, .int .i64 0, .int .i64 0, .int .i64 0, .int .i64 0, .int .i64 0] 29 (0, 0)) (by exact blkU BK225.out)) : gb225 ≠ gb233)); have n8_ := Aside0.mk ((by rw [hg]; exact Nat.ne_of_gt (blk_lt (g := gb225) (o := .cells #[.int .i64 0, .int .i64 0, .int .i64 0, .int .i64 0, .int .i64 0, .int .i64 0] 29 (0, 0)) (by exact blkU BK225.out)) : gb233 ≠ gb225)); have n9_ := Aside0.mk ((by rw [hg]; exact Nat.ne_of_lt (IsS84.lt (show IsS84 w0 _ g s0_0 t232 from by repeat (with_reducible first | exact HI0.out | apply sA | apply sN | apply sD | apply sS | refine IsS84.far ?_ NB0_225.out _))) : g ≠ gb233)); have n10_ := Aside0.mk ((by rw [hg]; exact Nat.ne_of_gt (IsS84.lt (show IsS84 w0 _ g s0_0 t232 from by repeat (with_reducible first | exact HI0.out | apply sA | apply sN | apply sD | apply sS | refine IsS84.far ?_ NB0_225.out _))) : gb233 ≠ g)); clear HI0; clear BK225; clear HK; clear HB; have HI0 := n0_; have BK225 := n1_; have HK := n2_; have HB := n3_; have BK233 := n4_; have GW233 := n5_; have GE233 := n6_; have NB225_233 := n7_; have NB233_225 := n8_; have NB0_233 := n9_; have NB233_0 := n10_; clear n0_ n1_ n2_ n3_ n4_ n5_ n6_ n7_ n8_ n9_ n10_; clear hb hbox hg; have hnb22 := NB233_225.out; have hnc22 := NB225_233.out; have hnb23 := NB233_0.out; have hnc23 := NB0_233.out; obtain ⟨hcz24_0, hcz24_1, hcz24_2, hcz24_3, hcz24_4, hcz24_5⟩ := six_cells BK233.out; obtain ⟨hfz24_0, hfz24_1, hfz24_2, hfz24_3, hfz24_4, hfz24_5⟩ := six_marks BK233.out) | ((with_reducible refine gate_callee (f := 71) rfl ?_); refine goesL_ (some 7) rfl rfl Try.func71 (by kernel_rfl) rfl #[.pointer (some ⟨g, 0, none⟩), .int .i64 20] rfl (by (try simp only [List.map_toArray, List.map_cons, List.map_nil]) <;> rfl) ?_; (with_reducible refine (spec_l6Rd_pick.calls k g s0_0 t232 20 t234 t235 w0 _ ?side1 ?side2 A3.out).mono ?_); (case side1 => repeat (with_reducible first | exact HI0.out | apply sA | apply sN | apply sD | apply sS | refine IsS84.far ?_ NB0_225.out _ | refine IsS84.far ?_ NB0_233.out _)); (case side2 => repeat (with_reducible first | exact HB.out | apply bA | apply bN | apply b1 | refine below_set ?_ (IsS84.ge HI0.out) | refine below_set ?_ GE225.out | refine below_set ?_ GE233.out)); rintro e w25 ⟨rfl, hi, hb, hk⟩; refine ⟨_, rfl, ?_⟩; replace BK225 := Aside0.mk (KeepBut.blk hk (g' := gb225) (o := .cells #[.int .i64 0, .int .i64 0, .int .i64 0, .int .i64 0, .int .i64 0, .int .i64 0] 29 (0, 0)) (by (with_reducible repeat (first | apply kN | apply kD | apply kA)); refine blk_far ?_ NB225_233.out _; (with_reducible repeat (first | apply kN | apply kD | apply kA)); refine blk_far ?_ NB225_233.out _; (with_reducible repeat (first | apply kN | apply kD | apply kA)); refine blk_far ?_ NB225_233.out _; (with_reducible repeat (first | apply kN | apply kD | apply kA)); refine blk_far ?_ NB225_233.out _; (with_reducible repeat (first | apply kN | apply kD | apply kA)); refine blk_far ?_ NB225_233.out _; (with_reducible repeat (first | apply kN | apply kD | apply kA)); refine blk_far ?_ NB225_233.out _; exact blkU BK225.out) NB225_0.out (by simp)); replace BK233 := Aside0.mk (KeepBut.blk hk (g' := gb233) (o := .cells #[.int .i64 t226, .int .i64 t227, .int .i64 t228, .int .i64 t229, .int .i64 t230, .int .i64 t231] 29 (0, 0)) (by (with_reducible repeat (first | apply kN | apply kD | apply kA)); refine blk_put (cs := #[.int .i64 t226, .int .i64 t227, .int .i64 t228, .int .i64 t229, .int .i64 t230, .int .i64 0]) ?_ 5 _ rfl; (with_reducible repeat (first | apply kN | apply kD | apply kA)); refine blk_put (cs := #[.int .i64 t226, .int .i64 t227, .int .i64 t228, .int .i64 t229, .int .i64 0, .int .i64 0]) ?_ 4 _ rfl; (with_reducible repeat (first | apply kN | apply kD | apply kA)); refine blk_put (cs := #[.int .i64 t226, .int .i64 t227, .int .i64 t228, .int .i64 0, .int .i64 0, .int .i64 0]) ?_ 3 _ rfl; (with_reducible repeat (first | apply kN | apply kD | apply kA)); refine blk_put (cs := #[.int .i64 t226, .int .i64 t227, .int .i64 0, .int .i64 0, .int .i64 0, .int .i64 0]) ?_ 2 _ rfl; (with_reducible repeat (first | apply kN | apply kD | apply kA)); refine blk_put (cs := #[.int .i64 t226, .int .i64 0, .int .i64 0, .int .i64 0, .int .i64 0, .int .i64 0]) ?_ 1 _ rfl; (with_reducible repeat (first | apply kN | apply kD | apply kA)); refine blk_put (cs := #[.int .i64 0, .int .i64 0, .int .i64 0, .int .i64 0, .int .i64 0, .int .i64 0]) ?_ 0 _ rfl; exact blkU BK233.out) NB233_0.out (by simp)); replace HK := Aside0.mk (KeepBut.trans (by repeat (with_reducible first | exact HK.out | apply pS | apply pN | apply pD | apply pA | refine keep_far ?_ GW225.out _ | refine keep_far ?_ GW233.out _)) hk (.inl rfl)); replace HB := Aside0.mk (hb); replace HI0 := Aside0.mk (hi); (try clear hb); (try clear hb2); (try clear hk); (try clear hi)) | ((with_reducible refine gate_callee (f := 71) rfl ?_); refine goesL_ (some 16) rfl rfl Try.func71 (by kernel_rfl) rfl #[.pointer (some ⟨g, 0, none⟩), .int .i64 6] rfl (by (try simp only [List.map_toArray, List.map_cons, List.map_nil]) <;> rfl) ?_; (with_reducible refine (spec_l6Rd_pick.calls k g s0_0 t235 6 t238 t239 w0 _ ?side1 ?side2 A18.out).mono ?_); (case side1 => repeat (with_reducible first | exact HI0.out | apply sA | apply sN | apply sD | apply sS | refine IsS84.far ?_ NB0_225.out _ | refine IsS84.far ?_ NB0_233.out _)); (case side2 => repeat (with_reducible first | exact HB.out | apply bA | apply bN | apply b1 | refine below_set ?_ (IsS84.ge HI0.out) | refine below_set ?_ GE225.out | refine below_set ?_ GE233.out)); rintro e w26 ⟨rfl, hi, hb, hk⟩; refine ⟨_, rfl, ?_⟩; replace BK225 := Aside0.mk (KeepBut.blk hk (g' := gb225) (o := .cells #[.int .i64 0, .int .i64 0, .int .i64 0, .int .i64 0, .int .i64 0, .int .i64 0] 29 (0, 0)) (by exact blkU BK225.out) NB225_0.out (by simp)); replace BK233 := Aside0.mk (KeepBut.blk hk (g' := gb233) (o := .cells #[.int .i64 t226, .int .i64 t227, .int .i64 t228, .int .i64 t229, .int .i64 t230, .int .i64 t231] 29 (0, 0)) (by exact blkU BK233.out) NB233_0.out (by simp)); replace HK := Aside0.mk (KeepBut.trans (by repeat (with_reducible first | exact HK.out | apply pS | apply pN | apply pD | apply pA | refine keep_far ?_ GW225.out _ | refine keep_far ?_ GW233.out _)) hk (.inl rfl)); replace HB := Aside0.mk (hb); replace HI0 := Aside0.mk (hi); (try clear hb); (try clear hb2); (try clear hk); (try clear hi); obtain ⟨hcz27_0, hcz27_1, hcz27_2, hcz27_3, hcz27_4, hcz27_5⟩ := six_cells BK233.out; obtain ⟨hfz27_0, hfz27_1, hfz27_2, hfz27_3, hfz27_4, hfz27_5⟩ := six_marks BK233.out; have hnb28 := NB225_0.out; have hnc28 := NB0_225.out; obtain ⟨hcz29_0, hcz29_1, hcz29_2, hcz29_3, hcz29_4, hcz29_5⟩ := six_cells BK225.out; obtain ⟨hfz29_0, hfz29_1, hfz29_2, hfz29_3, hfz29_4, hfz29_5⟩ := six_marks BK225.out))
   refine bodyPost_ret (results_cell_row rfl _ _ gb225 29 #[.int .i64 t226, .int .i64 (wrap64 (t238 - 1)), .int .i64 t228, .int .i64 t229, .int .i64 t230, .int .i64 t231] (0, 0) _ rfl (by (with_reducible repeat (first | apply kN | apply kD | apply kA)); refine blk_put (cs := #[.int .i64 t226, .int .i64 (wrap64 (t238 - 1)), .int .i64 t228, .int .i64 t229, .int .i64 t230, .int .i64 0]) ?_ 5 _ rfl; (with_reducible repeat (first | apply kN | apply kD | apply kA)); refine blk_put (cs := #[.int .i64 t226, .int .i64 (wrap64 (t238 - 1)), .int .i64 t228, .int .i64 t229, .int .i64 0, .int .i64 0]) ?_ 4 _ rfl; (with_reducible repeat (first | apply kN | apply kD | apply kA)); refine blk_put (cs := #[.int .i64 t226, .int .i64 (wrap64 (t238 - 1)), .int .i64 t228, .int .i64 0, .int .i64 0, .int .i64 0]) ?_ 3 _ rfl; (with_reducible repeat (first | apply kN | apply kD | apply kA)); refine blk_put (cs := #[.int .i64 t226, .int .i64 (wrap64 (t238 - 1)), .int .i64 0, .int .i64 0, .int .i64 0, .int .i64 0]) ?_ 2 _ rfl; (with_reducible repeat (first | apply kN | apply kD | apply kA)); refine blk_put (cs := #[.int .i64 t226, .int .i64 0, .int .i64 0, .int .i64 0, .int .i64 0, .int .i64 0]) ?_ 1 _ rfl; (with_reducible repeat (first | apply kN | apply kD | apply kA)); refine blk_put (cs := #[.int .i64 0, .int .i64 0, .int .i64 0, .int .i64 0, .int .i64 0, .int .i64 0]) ?_ 0 _ rfl; (with_reducible repeat (first | apply kN | apply kD | apply kA)); refine blk_far ?_ NB225_233.out _; exact blkU BK225.out) Try.underlying29 rfl (by kernel_rfl)) rfl ?_
   exact ⟨by first | rfl | (simp [errW_none, errW_some] <;> rfl) | (simp [*, errW_none, errW_some] <;> rfl), by repeat (with_reducible first | exact HI0.out | apply sA | apply sN | apply sD | apply sS | refine IsS84.far ?_ NB0_225.out _ | refine IsS84.far ?_ NB0_233.out _), by repeat (with_reducible first | exact HB.out | apply bA | apply bN | apply b1 | refine below_set ?_ (IsS84.ge HI0.out) | refine below_set ?_ GE225.out | refine below_set ?_ GE233.out), by repeat (with_reducible first | exact HK.out | apply pS | apply pN | apply pD | apply pA | refine keep_far ?_ GW225.out _ | refine keep_far ?_ GW233.out _)⟩
  ·rw [if_neg c17] at H
   have c17b0 : (t234 == 1) = false := beq_eq_false_iff_ne.mpr c17
   have c17b1 : (t234 != 1) = true := bne_iff_ne.mpr c17
   by_cases c30 : t234 = 2
   ·rw [if_pos c30] at H
    have c30b0 : (t234 == 2) = true := beq_iff_eq.mpr c30
    have c30b1 : (t234 != 2) = false := bne_eq_false_iff_eq.mpr c30
    clear c30
    replace H := Option.bind_eq_some_iff.mp H
    obtain ⟨⟨t240, t241, t242⟩, A310, H⟩ := H
    replace H : (some (t226, t227, t228, t229, t240, t241, t242)) = some (r1, r2, r3, r4, r5, r6, r7) := H
    have A31 := Aside0.mk A310
    clear A310
    simp only [Option.some.injEq, Prod.mk.injEq] at H
    obtain ⟨rfl, rfl, rfl, rfl, rfl, rfl, rfl⟩ := H
    go_enter Try.func70, Try.ntmps70
    go_wp2_with (first | ((with_reducible refine gate_dst (N := 2) rfl ?_); refine box_event ?hg (N := 2) ?hd (cs := #[.int .i64 0, .int .i64 0, .int .i64 0, .int .i64 0, .int .i64 0, .int .i64 0]) (t := 29) ?hr ?_; (case hd => rfl); (case hg => rfl); (case hr => first | (go_simp; done) | (go_simp; rfl)); intro gb225 hg w32 hbox hb; have n0_ := Aside0.mk (IsS84.below (by repeat (with_reducible first | exact HI0.out | apply sA | apply sN | apply sD | apply sS)) hb); have n1_ := Aside0.mk (KeepBut.trans (by repeat (with_reducible first | exact HK.out | apply pS | apply pN | apply pD | apply pA)) (KeepBut.of_below hb g none) (.inl rfl)); have n2_ := Aside0.mk (below_step (by repeat (with_reducible first | exact HB.out | apply bA | apply bN | apply b1 | refine below_set ?_ (IsS84.ge HI0.out))) hb); have n3_ := Aside0.mk (hbox); have n4_ := Aside0.mk ((by rw [hg]; exact (keep_size (w := w) (g := g) (row := none) (by repeat (with_reducible first | exact HK.out | apply pS | apply pN | apply pD | apply pA))) : w.heap.size ≤ gb225)); have n5_ := Aside0.mk ((Nat.le_trans HW0.out (by rw [hg]; exact (keep_size (w := w) (g := g) (row := none) (by repeat (with_reducible first | exact HK.out | apply pS | apply pN | apply pD | apply pA))) : w.heap.size ≤ gb225) : w0.heap.size ≤ gb225)); have n6_ := Aside0.mk ((by rw [hg]; exact Nat.ne_of_lt (IsS84.lt (show IsS84 w0 _ g s0_0 s0_1 from by repeat (with_reducible first | exact HI0.out | apply sA | apply sN | apply sD | apply sS))) : g ≠ gb225)); have n7_ := Aside0.mk ((by rw [hg]; exact Nat.ne_of_gt (IsS84.lt (show IsS84 w0 _ g s0_0 s0_1 from by repeat (with_reducible first | exact HI0.out | apply sA | apply sN | apply sD | apply sS))) : gb225 ≠ g)); clear HI0; clear HK; clear HB; have HI0 := n0_; have HK := n1_; have HB := n2_; have BK225 := n3_; have GW225 := n4_; have GE225 := n5_; have NB0_225 := n6_; have NB225_0 := n7_; clear n0_ n1_ n2_ n3_ n4_ n5_ n6_ n7_; clear hb hbox hg) | ((with_reducible refine gate_callee (f := 90) rfl ?_); refine goesL_ (some 5) rfl rfl Try.func90 (by kernel_rfl) rfl #[.pointer (some ⟨g, 0, none⟩), .int .i64 16] rfl (by (try simp only [List.map_toArray, List.map_cons, List.map_nil]) <;> rfl) ?_; (with_reducible refine (spec_l71Op.calls k g s0_0 s0_1 16 t226 t227 t228 t229 t230 t231 t232 w0 _ ?side1 ?side2 A2.out).mono ?_); (case side1 => repeat (with_reducible first | exact HI0.out | apply sA | apply sN | apply sD | apply sS | refine IsS84.far ?_ NB0_225.out _)); (case side2 => repeat (with_reducible first | exact HB.out | apply bA | apply bN | apply b1 | refine below_set ?_ (IsS84.ge HI0.out) | refine below_set ?_ GE225.out)); rintro e w33 ⟨rfl, hi, hb, hk⟩; refine ⟨_, rfl, ?_⟩; replace BK225 := Aside0.mk (KeepBut.blk hk (g' := gb225) (o := .cells #[.int .i64 0, .int .i64 0, .int .i64 0, .int .i64 0, .int .i64 0, .int .i64 0] 29 (0, 0)) (by exact blkU BK225.out) NB225_0.out (by simp)); replace HK := Aside0.mk (KeepBut.trans (by repeat (with_reducible first | exact HK.out | apply pS | apply pN | apply pD | apply pA | refine keep_far ?_ GW225.out _)) hk (.inl rfl)); replace HB := Aside0.mk (hb); replace HI0 := Aside0.mk (hi); (try clear hb); (try clear hb2); (try clear hk); (try clear hi)) | ((with_reducible refine gate_dst (N := 3) rfl ?_); refine box_event ?hg (N := 3) ?hd (cs := #[.int .i64 0, .int .i64 0, .int .i64 0, .int .i64 0, .int .i64 0, .int .i64 0]) (t := 29) ?hr ?_; (case hd => rfl); (case hg => rfl); (case hr => first | (go_simp; done) | (go_simp; rfl)); intro gb233 hg w34 hbox hb; have n0_ := Aside0.mk (IsS84.below (by repeat (with_reducible first | exact HI0.out | apply sA | apply sN | apply sD | apply sS | refine IsS84.far ?_ NB0_225.out _)) hb); have n1_ := Aside0.mk (blk_below (g := gb225) (o := .cells #[.int .i64 0, .int .i64 0, .int .i64 0, .int .i64 0, .int .i64 0, .int .i64 0] 29 (0, 0)) (by exact blkU BK225.out) hb); have n2_ := Aside0.mk (KeepBut.trans (by repeat (with_reducible first | exact HK.out | apply pS | apply pN | apply pD | apply pA | refine keep_far ?_ GW225.out _)) (KeepBut.of_below hb g none) (.inl rfl)); have n3_ := Aside0.mk (below_step (by repeat (with_reducible first | exact HB.out | apply bA | apply bN | apply b1 | refine below_set ?_ (IsS84.ge HI0.out) | refine below_set ?_ GE225.out)) hb); have n4_ := Aside0.mk (hbox); have n5_ := Aside0.mk ((by rw [hg]; exact (keep_size (w := w) (g := g) (row := none) (by repeat (with_reducible first | exact HK.out | apply pS | apply pN | apply pD | apply pA | refine keep_far ?_ GW225.out _))) : w.heap.size ≤ gb233)); have n6_ := Aside0.mk ((Nat.le_trans HW0.out (by rw [hg]; exact (keep_size (w := w) (g := g) (row := none) (by repeat (with_reducible first | exact HK.out | apply pS | apply pN | apply pD | apply pA | refine keep_far ?_ GW225.out _))) : w.heap.size ≤ gb233) : w0.heap.size ≤ gb233)); have n7_ := Aside0.mk ((by rw [hg]; exact Nat.ne_of_lt (blk_lt (g := gb225) (o := .cells #[.int .i64 0, .int .i64 0, .int .i64 0, .int .i64 0, .int .i64 0, .int .i64 0] 29 (0, 0)) (by exact blkU BK225.out)) : gb225 ≠ gb233)); have n8_ := Aside0.mk ((by rw [hg]; exact Nat.ne_of_gt (blk_lt (g := gb225) (o := .cells #[.int .i64 0, .int .i64 0, .int .i64 0, .int .i64 0, .int .i64 0, .int .i64 0] 29 (0, 0)) (by exact blkU BK225.out)) : gb233 ≠ gb225)); have n9_ := Aside0.mk ((by rw [hg]; exact Nat.ne_of_lt (IsS84.lt (show IsS84 w0 _ g s0_0 t232 from by repeat (with_reducible first | exact HI0.out | apply sA | apply sN | apply sD | apply sS | refine IsS84.far ?_ NB0_225.out _))) : g ≠ gb233)); have n10_ := Aside0.mk ((by rw [hg]; exact Nat.ne_of_gt (IsS84.lt (show IsS84 w0 _ g s0_0 t232 from by repeat (with_reducible first | exact HI0.out | apply sA | apply sN | apply sD | apply sS | refine IsS84.far ?_ NB0_225.out _))) : gb233 ≠ g)); clear HI0; clear BK225; clear HK; clear HB; have HI0 := n0_; have BK225 := n1_; have HK := n2_; have HB := n3_; have BK233 := n4_; have GW233 := n5_; have GE233 := n6_; have NB225_233 := n7_; have NB233_225 := n8_; have NB0_233 := n9_; have NB233_0 := n10_; clear n0_ n1_ n2_ n3_ n4_ n5_ n6_ n7_ n8_ n9_ n10_; clear hb hbox hg; have hnb35 := NB233_225.out; have hnc35 := NB225_233.out; have hnb36 := NB233_0.out; have hnc36 := NB0_233.out; obtain ⟨hcz37_0, hcz37_1, hcz37_2, hcz37_3, hcz37_4, hcz37_5⟩ := six_cells BK233.out; obtain ⟨hfz37_0, hfz37_1, hfz37_2, hfz37_3, hfz37_4, hfz37_5⟩ := six_marks BK233.out) | ((with_reducible refine gate_callee (f := 71) rfl ?_); refine goesL_ (some 7) rfl rfl Try.func71 (by kernel_rfl) rfl #[.pointer (some ⟨g, 0, none⟩), .int .i64 20] rfl (by (try simp only [List.map_toArray, List.map_cons, List.map_nil]) <;> rfl) ?_; (with_reducible refine (spec_l6Rd_pick.calls k g s0_0 t232 20 t234 t235 w0 _ ?side1 ?side2 A3.out).mono ?_); (case side1 => repeat (with_reducible first | exact HI0.out | apply sA | apply sN | apply sD | apply sS | refine IsS84.far ?_ NB0_225.out _ | refine IsS84.far ?_ NB0_233.out _)); (case side2 => repeat (with_reducible first | exact HB.out | apply bA | apply bN | apply b1 | refine below_set ?_ (IsS84.ge HI0.out) | refine below_set ?_ GE225.out | refine below_set ?_ GE233.out)); rintro e w38 ⟨rfl, hi, hb, hk⟩; refine ⟨_, rfl, ?_⟩; replace BK225 := Aside0.mk (KeepBut.blk hk (g' := gb225) (o := .cells #[.int .i64 0, .int .i64 0, .int .i64 0, .int .i64 0, .int .i64 0, .int .i64 0] 29 (0, 0)) (by (with_reducible repeat (first | apply kN | apply kD | apply kA)); refine blk_far ?_ NB225_233.out _; (with_reducible repeat (first | apply kN | apply kD | apply kA)); refine blk_far ?_ NB225_233.out _; (with_reducible repeat (first | apply kN | apply kD | apply kA)); refine blk_far ?_ NB225_233.out _; (with_reducible repeat (first | apply kN | apply kD | apply kA)); refine blk_far ?_ NB225_233.out _; (with_reducible repeat (first | apply kN | apply kD | apply kA)); refine blk_far ?_ NB225_233.out _; (with_reducible repeat (first | apply kN | apply kD | apply kA)); refine blk_far ?_ NB225_233.out _; exact blkU BK225.out) NB225_0.out (by simp)); replace BK233 := Aside0.mk (KeepBut.blk hk (g' := gb233) (o := .cells #[.int .i64 t226, .int .i64 t227, .int .i64 t228, .int .i64 t229, .int .i64 t230, .int .i64 t231] 29 (0, 0)) (by (with_reducible repeat (first | apply kN | apply kD | apply kA)); refine blk_put (cs := #[.int .i64 t226, .int .i64 t227, .int .i64 t228, .int .i64 t229, .int .i64 t230, .int .i64 0]) ?_ 5 _ rfl; (with_reducible repeat (first | apply kN | apply kD | apply kA)); refine blk_put (cs := #[.int .i64 t226, .int .i64 t227, .int .i64 t228, .int .i64 t229, .int .i64 0, .int .i64 0]) ?_ 4 _ rfl; (with_reducible repeat (first | apply kN | apply kD | apply kA)); refine blk_put (cs := #[.int .i64 t226, .int .i64 t227, .int .i64 t228, .int .i64 0, .int .i64 0, .int .i64 0]) ?_ 3 _ rfl; (with_reducible repeat (first | apply kN | apply kD | apply kA)); refine blk_put (cs := #[.int .i64 t226, .int .i64 t227, .int .i64 0, .int .i64 0, .int .i64 0, .int .i64 0]) ?_ 2 _ rfl; (with_reducible repeat (first | apply kN | apply kD | apply kA)); refine blk_put (cs := #[.int .i64 t226, .int .i64 0, .int .i64 0, .int .i64 0, .int .i64 0, .int .i64 0]) ?_ 1 _ rfl; (with_reducible repeat (first | apply kN | apply kD | apply kA)); refine blk_put (cs := #[.int .i64 0, .int .i64 0, .int .i64 0, .int .i64 0, .int .i64 0, .int .i64 0]) ?_ 0 _ rfl; exact blkU BK233.out) NB233_0.out (by simp)); replace HK := Aside0.mk (KeepBut.trans (by repeat (with_reducible first | exact HK.out | apply pS | apply pN | apply pD | apply pA | refine keep_far ?_ GW225.out _ | refine keep_far ?_ GW233.out _)) hk (.inl rfl)); replace HB := Aside0.mk (hb); replace HI0 := Aside0.mk (hi); (try clear hb); (try clear hb2); (try clear hk); (try clear hi)) | ((with_reducible refine gate_callee (f := 91) rfl ?_); refine goesL_ (some 22) rfl rfl Try.func91 (by kernel_rfl) rfl #[.pointer (some ⟨g, 0, none⟩)] rfl (by (try simp only [List.map_toArray, List.map_cons, List.map_nil]) <;> rfl) ?_; (with_reducible refine (spec_l71Val.calls k g s0_0 t235 t240 t241 t242 w0 _ ?side1 ?side2 A31.out).mono ?_); (case side1 => repeat (with_reducible first | exact HI0.out | apply sA | apply sN | apply sD | apply sS | refine IsS84.far ?_ NB0_225.out _ | refine IsS84.far ?_ NB0_233.out _)); (case side2 => repeat (with_reducible first | exact HB.out | apply bA | apply bN | apply b1 | refine below_set ?_ (IsS84.ge HI0.out) | refine below_set ?_ GE225.out | refine below_set ?_ GE233.out)); rintro e w39 ⟨rfl, hi, hb, hk⟩; refine ⟨_, rfl, ?_⟩; replace BK225 := Aside0.mk (KeepBut.blk hk (g' := gb225) (o := .cells #[.int .i64 0, .int .i64 0, .int .i64 0, .int .i64 0, .int .i64 0, .int .i64 0] 29 (0, 0)) (by exact blkU BK225.out) NB225_0.out (by simp)); replace BK233 := Aside0.mk (KeepBut.blk hk (g' := gb233) (o := .cells #[.int .i64 t226, .int .i64 t227, .int .i64 t228, .int .i64 t229, .int .i64 t230, .int .i64 t231] 29 (0, 0)) (by exact blkU BK233.out) NB233_0.out (by simp)); replace HK := Aside0.mk (KeepBut.trans (by repeat (with_reducible first | exact HK.out | apply pS | apply pN | apply pD | apply pA | refine keep_far ?_ GW225.out _ | refine keep_far ?_ GW233.out _)) hk (.inl rfl)); replace HB := Aside0.mk (hb); replace HI0 := Aside0.mk (hi); (try clear hb); (try clear hb2); (try clear hk); (try clear hi); obtain ⟨hcz40_0, hcz40_1, hcz40_2, hcz40_3, hcz40_4, hcz40_5⟩ := six_cells BK233.out; obtain ⟨hfz40_0, hfz40_1, hfz40_2, hfz40_3, hfz40_4, hfz40_5⟩ := six_marks BK233.out; have hnb41 := NB225_0.out; have hnc41 := NB0_225.out; obtain ⟨hcz42_0, hcz42_1, hcz42_2, hcz42_3, hcz42_4, hcz42_5⟩ := six_cells BK225.out; obtain ⟨hfz42_0, hfz42_1, hfz42_2, hfz42_3, hfz42_4, hfz42_5⟩ := six_marks BK225.out))
    refine bodyPost_ret (results_cell_row rfl _ _ gb225 29 #[.int .i64 t226, .int .i64 t227, .int .i64 t228, .int .i64 t229, .int .i64 t240, .int .i64 t241] (0, 0) _ rfl (by (with_reducible repeat (first | apply kN | apply kD | apply kA)); refine blk_put (cs := #[.int .i64 t226, .int .i64 t227, .int .i64 t228, .int .i64 t229, .int .i64 t240, .int .i64 0]) ?_ 5 _ rfl; (with_reducible repeat (first | apply kN | apply kD | apply kA)); refine blk_put (cs := #[.int .i64 t226, .int .i64 t227, .int .i64 t228, .int .i64 t229, .int .i64 0, .int .i64 0]) ?_ 4 _ rfl; (with_reducible repeat (first | apply kN | apply kD | apply kA)); refine blk_put (cs := #[.int .i64 t226, .int .i64 t227, .int .i64 t228, .int .i64 0, .int .i64 0, .int .i64 0]) ?_ 3 _ rfl; (with_reducible repeat (first | apply kN | apply kD | apply kA)); refine blk_put (cs := #[.int .i64 t226, .int .i64 t227, .int .i64 0, .int .i64 0, .int .i64 0, .int .i64 0]) ?_ 2 _ rfl; (with_reducible repeat (first | apply kN | apply kD | apply kA)); refine blk_put (cs := #[.int .i64 t226, .int .i64 0, .int .i64 0, .int .i64 0, .int .i64 0, .int .i64 0]) ?_ 1 _ rfl; (with_reducible repeat (first | apply kN | apply kD | apply kA)); refine blk_put (cs := #[.int .i64 0, .int .i64 0, .int .i64 0, .int .i64 0, .int .i64 0, .int .i64 0]) ?_ 0 _ rfl; (with_reducible repeat (first | apply kN | apply kD | apply kA)); refine blk_far ?_ NB225_233.out _; (with_reducible repeat (first | apply kN | apply kD | apply kA)); refine blk_far ?_ NB225_233.out _; exact blkU BK225.out) Try.underlying29 rfl (by kernel_rfl)) rfl ?_
    exact ⟨by first | rfl | (simp [errW_none, errW_some] <;> rfl) | (simp [*, errW_none, errW_some] <;> rfl), by repeat (with_reducible first | exact HI0.out | apply sA | apply sN | apply sD | apply sS | refine IsS84.far ?_ NB0_225.out _ | refine IsS84.far ?_ NB0_233.out _), by repeat (with_reducible first | exact HB.out | apply bA | apply bN | apply b1 | refine below_set ?_ (IsS84.ge HI0.out) | refine below_set ?_ GE225.out | refine below_set ?_ GE233.out), by repeat (with_reducible first | exact HK.out | apply pS | apply pN | apply pD | apply pA | refine keep_far ?_ GW225.out _ | refine keep_far ?_ GW233.out _)⟩
   ·rw [if_neg c30] at H
    have c30b0 : (t234 == 2) = false := beq_eq_false_iff_ne.mpr c30
    have c30b1 : (t234 != 2) = true := bne_iff_ne.mpr c30
    simp only [Option.some.injEq, Prod.mk.injEq] at H
    obtain ⟨rfl, rfl, rfl, rfl, rfl, rfl, rfl⟩ := H
    go_enter Try.func70, Try.ntmps70
    go_wp2_with (first | ((with_reducible refine gate_dst (N := 2) rfl ?_); refine box_event ?hg (N := 2) ?hd (cs := #[.int .i64 0, .int .i64 0, .int .i64 0, .int .i64 0, .int .i64 0, .int .i64 0]) (t := 29) ?hr ?_; (case hd => rfl); (case hg => rfl); (case hr => first | (go_simp; done) | (go_simp; rfl)); intro gb225 hg w43 hbox hb; have n0_ := Aside0.mk (IsS84.below (by repeat (with_reducible first | exact HI0.out | apply sA | apply sN | apply sD | apply sS)) hb); have n1_ := Aside0.mk (KeepBut.trans (by repeat (with_reducible first | exact HK.out | apply pS | apply pN | apply pD | apply pA)) (KeepBut.of_below hb g none) (.inl rfl)); have n2_ := Aside0.mk (below_step (by repeat (with_reducible first | exact HB.out | apply bA | apply bN | apply b1 | refine below_set ?_ (IsS84.ge HI0.out))) hb); have n3_ := Aside0.mk (hbox); have n4_ := Aside0.mk ((by rw [hg]; exact (keep_size (w := w) (g := g) (row := none) (by repeat (with_reducible first | exact HK.out | apply pS | apply pN | apply pD | apply pA))) : w.heap.size ≤ gb225)); have n5_ := Aside0.mk ((Nat.le_trans HW0.out (by rw [hg]; exact (keep_size (w := w) (g := g) (row := none) (by repeat (with_reducible first | exact HK.out | apply pS | apply pN | apply pD | apply pA))) : w.heap.size ≤ gb225) : w0.heap.size ≤ gb225)); have n6_ := Aside0.mk ((by rw [hg]; exact Nat.ne_of_lt (IsS84.lt (show IsS84 w0 _ g s0_0 s0_1 from by repeat (with_reducible first | exact HI0.out | apply sA | apply sN | apply sD | apply sS))) : g ≠ gb225)); have n7_ := Aside0.mk ((by rw [hg]; exact Nat.ne_of_gt (IsS84.lt (show IsS84 w0 _ g s0_0 s0_1 from by repeat (with_reducible first | exact HI0.out | apply sA | apply sN | apply sD | apply sS))) : gb225 ≠ g)); clear HI0; clear HK; clear HB; have HI0 := n0_; have HK := n1_; have HB := n2_; have BK225 := n3_; have GW225 := n4_; have GE225 := n5_; have NB0_225 := n6_; have NB225_0 := n7_; clear n0_ n1_ n2_ n3_ n4_ n5_ n6_ n7_; clear hb hbox hg) | ((with_reducible refine gate_callee (f := 90) rfl ?_); refine goesL_ (some 5) rfl rfl Try.func90 (by kernel_rfl) rfl #[.pointer (some ⟨g, 0, none⟩), .int .i64 16] rfl (by (try simp only [List.map_toArray, List.map_cons, List.map_nil]) <;> rfl) ?_; (with_reducible refine (spec_l71Op.calls k g s0_0 s0_1 16 t226 t227 t228 t229 t230 t231 t232 w0 _ ?side1 ?side2 A2.out).mono ?_); (case side1 => repeat (with_reducible first | exact HI0.out | apply sA | apply sN | apply sD | apply sS | refine IsS84.far ?_ NB0_225.out _)); (case side2 => repeat (with_reducible first | exact HB.out | apply bA | apply bN | apply b1 | refine below_set ?_ (IsS84.ge HI0.out) | refine below_set ?_ GE225.out)); rintro e w44 ⟨rfl, hi, hb, hk⟩; refine ⟨_, rfl, ?_⟩; replace BK225 := Aside0.mk (KeepBut.blk hk (g' := gb225) (o := .cells #[.int .i64 0, .int .i64 0, .int .i64 0, .int .i64 0, .int .i64 0, .int .i64 0] 29 (0, 0)) (by exact blkU BK225.out) NB225_0.out (by simp)); replace HK := Aside0.mk (KeepBut.trans (by repeat (with_reducible first | exact HK.out | apply pS | apply pN | apply pD | apply pA | refine keep_far ?_ GW225.out _)) hk (.inl rfl)); replace HB := Aside0.mk (hb); replace HI0 := Aside0.mk (hi); (try clear hb); (try clear hb2); (try clear hk); (try clear hi)) | ((with_reducible refine gate_dst (N := 3) rfl ?_); refine box_event ?hg (N := 3) ?hd (cs := #[.int .i64 0, .int .i64 0, .int .i64 0, .int .i64 0, .int .i64 0, .int .i64 0]) (t := 29) ?hr ?_; (case hd => rfl); (case hg => rfl); (case hr => first | (go_simp; done) | (go_simp; rfl)); intro gb233 hg w45 hbox hb; have n0_ := Aside0.mk (IsS84.below (by repeat (with_reducible first | exact HI0.out | apply sA | apply sN | apply sD | apply sS | refine IsS84.far ?_ NB0_225.out _)) hb); have n1_ := Aside0.mk (blk_below (g := gb225) (o := .cells #[.int .i64 0, .int .i64 0, .int .i64 0, .int .i64 0, .int .i64 0, .int .i64 0] 29 (0, 0)) (by exact blkU BK225.out) hb); have n2_ := Aside0.mk (KeepBut.trans (by repeat (with_reducible first | exact HK.out | apply pS | apply pN | apply pD | apply pA | refine keep_far ?_ GW225.out _)) (KeepBut.of_below hb g none) (.inl rfl)); have n3_ := Aside0.mk (below_step (by repeat (with_reducible first | exact HB.out | apply bA | apply bN | apply b1 | refine below_set ?_ (IsS84.ge HI0.out) | refine below_set ?_ GE225.out)) hb); have n4_ := Aside0.mk (hbox); have n5_ := Aside0.mk ((by rw [hg]; exact (keep_size (w := w) (g := g) (row := none) (by repeat (with_reducible first | exact HK.out | apply pS | apply pN | apply pD | apply pA | refine keep_far ?_ GW225.out _))) : w.heap.size ≤ gb233)); have n6_ := Aside0.mk ((Nat.le_trans HW0.out (by rw [hg]; exact (keep_size (w := w) (g := g) (row := none) (by repeat (with_reducible first | exact HK.out | apply pS | apply pN | apply pD | apply pA | refine keep_far ?_ GW225.out _))) : w.heap.size ≤ gb233) : w0.heap.size ≤ gb233)); have n7_ := Aside0.mk ((by rw [hg]; exact Nat.ne_of_lt (blk_lt (g := gb225) (o := .cells #[.int .i64 0, .int .i64 0, .int .i64 0, .int .i64 0, .int .i64 0, .int .i64 0] 29 (0, 0)) (by exact blkU BK225.out)) : gb225 ≠ gb233)); have n8_ := Aside0.mk ((by rw [hg]; exact Nat.ne_of_gt (blk_lt (g := gb225) (o := .cells #[.int .i64 0, .int .i64 0, .int .i64 0, .int .i64 0, .int .i64 0, .int .i64 0] 29 (0, 0)) (by exact blkU BK225.out)) : gb233 ≠ gb225)); have n9_ := Aside0.mk ((by rw [hg]; exact Nat.ne_of_lt (IsS84.lt (show IsS84 w0 _ g s0_0 t232 from by repeat (with_reducible first | exact HI0.out | apply sA | apply sN | apply sD | apply sS | refine IsS84.far ?_ NB0_225.out _))) : g ≠ gb233)); have n10_ := Aside0.mk ((by rw [hg]; exact Nat.ne_of_gt (IsS84.lt (show IsS84 w0 _ g s0_0 t232 from by repeat (with_reducible first | exact HI0.out | apply sA | apply sN | apply sD | apply sS | refine IsS84.far ?_ NB0_225.out _))) : gb233 ≠ g)); clear HI0; clear BK225; clear HK; clear HB; have HI0 := n0_; have BK225 := n1_; have HK := n2_; have HB := n3_; have BK233 := n4_; have GW233 := n5_; have GE233 := n6_; have NB225_233 := n7_; have NB233_225 := n8_; have NB0_233 := n9_; have NB233_0 := n10_; clear n0_ n1_ n2_ n3_ n4_ n5_ n6_ n7_ n8_ n9_ n10_; clear hb hbox hg; have hnb46 := NB233_225.out; have hnc46 := NB225_233.out; have hnb47 := NB233_0.out; have hnc47 := NB0_233.out; obtain ⟨hcz48_0, hcz48_1, hcz48_2, hcz48_3, hcz48_4, hcz48_5⟩ := six_cells BK233.out; obtain ⟨hfz48_0, hfz48_1, hfz48_2, hfz48_3, hfz48_4, hfz48_5⟩ := six_marks BK233.out) | ((with_reducible refine gate_callee (f := 71) rfl ?_); refine goesL_ (some 7) rfl rfl Try.func71 (by kernel_rfl) rfl #[.pointer (some ⟨g, 0, none⟩), .int .i64 20] rfl (by (try simp only [List.map_toArray, List.map_cons, List.map_nil]) <;> rfl) ?_; (with_reducible refine (spec_l6Rd_pick.calls k g s0_0 t232 20 t234 t235 w0 _ ?side1 ?side2 A3.out).mono ?_); (case side1 => repeat (with_reducible first | exact HI0.out | apply sA | apply sN | apply sD | apply sS | refine IsS84.far ?_ NB0_225.out _ | refine IsS84.far ?_ NB0_233.out _)); (case side2 => repeat (with_reducible first | exact HB.out | apply bA | apply bN | apply b1 | refine below_set ?_ (IsS84.ge HI0.out) | refine below_set ?_ GE225.out | refine below_set ?_ GE233.out)); rintro e w49 ⟨rfl, hi, hb, hk⟩; refine ⟨_, rfl, ?_⟩; replace BK225 := Aside0.mk (KeepBut.blk hk (g' := gb225) (o := .cells #[.int .i64 0, .int .i64 0, .int .i64 0, .int .i64 0, .int .i64 0, .int .i64 0] 29 (0, 0)) (by (with_reducible repeat (first | apply kN | apply kD | apply kA)); refine blk_far ?_ NB225_233.out _; (with_reducible repeat (first | apply kN | apply kD | apply kA)); refine blk_far ?_ NB225_233.out _; (with_reducible repeat (first | apply kN | apply kD | apply kA)); refine blk_far ?_ NB225_233.out _; (with_reducible repeat (first | apply kN | apply kD | apply kA)); refine blk_far ?_ NB225_233.out _; (with_reducible repeat (first | apply kN | apply kD | apply kA)); refine blk_far ?_ NB225_233.out _; (with_reducible repeat (first | apply kN | apply kD | apply kA)); refine blk_far ?_ NB225_233.out _; exact blkU BK225.out) NB225_0.out (by simp)); replace BK233 := Aside0.mk (KeepBut.blk hk (g' := gb233) (o := .cells #[.int .i64 t226, .int .i64 t227, .int .i64 t228, .int .i64 t229, .int .i64 t230, .int .i64 t231] 29 (0, 0)) (by (with_reducible repeat (first | apply kN | apply kD | apply kA)); refine blk_put (cs := #[.int .i64 t226, .int .i64 t227, .int .i64 t228, .int .i64 t229, .int .i64 t230, .int .i64 0]) ?_ 5 _ rfl; (with_reducible repeat (first | apply kN | apply kD | apply kA)); refine blk_put (cs := #[.int .i64 t226, .int .i64 t227, .int .i64 t228, .int .i64 t229, .int .i64 0, .int .i64 0]) ?_ 4 _ rfl; (with_reducible repeat (first | apply kN | apply kD | apply kA)); refine blk_put (cs := #[.int .i64 t226, .int .i64 t227, .int .i64 t228, .int .i64 0, .int .i64 0, .int .i64 0]) ?_ 3 _ rfl; (with_reducible repeat (first | apply kN | apply kD | apply kA)); refine blk_put (cs := #[.int .i64 t226, .int .i64 t227, .int .i64 0, .int .i64 0, .int .i64 0, .int .i64 0]) ?_ 2 _ rfl; (with_reducible repeat (first | apply kN | apply kD | apply kA)); refine blk_put (cs := #[.int .i64 t226, .int .i64 0, .int .i64 0, .int .i64 0, .int .i64 0, .int .i64 0]) ?_ 1 _ rfl; (with_reducible repeat (first | apply kN | apply kD | apply kA)); refine blk_put (cs := #[.int .i64 0, .int .i64 0, .int .i64 0, .int .i64 0, .int .i64 0, .int .i64 0]) ?_ 0 _ rfl; exact blkU BK233.out) NB233_0.out (by simp)); replace HK := Aside0.mk (KeepBut.trans (by repeat (with_reducible first | exact HK.out | apply pS | apply pN | apply pD | apply pA | refine keep_far ?_ GW225.out _ | refine keep_far ?_ GW233.out _)) hk (.inl rfl)); replace HB := Aside0.mk (hb); replace HI0 := Aside0.mk (hi); (try clear hb); (try clear hb2); (try clear hk); (try clear hi); obtain ⟨hcz50_0, hcz50_1, hcz50_2, hcz50_3, hcz50_4, hcz50_5⟩ := six_cells BK233.out; obtain ⟨hfz50_0, hfz50_1, hfz50_2, hfz50_3, hfz50_4, hfz50_5⟩ := six_marks BK233.out; have hnb51 := NB225_0.out; have hnc51 := NB0_225.out; obtain ⟨hcz52_0, hcz52_1, hcz52_2, hcz52_3, hcz52_4, hcz52_5⟩ := six_cells BK225.out; obtain ⟨hfz52_0, hfz52_1, hfz52_2, hfz52_3, hfz52_4, hfz52_5⟩ := six_marks BK225.out))
    refine bodyPost_ret (results_cell_row rfl _ _ gb225 29 #[.int .i64 t226, .int .i64 t227, .int .i64 t228, .int .i64 t229, .int .i64 t230, .int .i64 t231] (0, 0) _ rfl (by (with_reducible repeat (first | apply kN | apply kD | apply kA)); refine blk_put (cs := #[.int .i64 t226, .int .i64 t227, .int .i64 t228, .int .i64 t229, .int .i64 t230, .int .i64 0]) ?_ 5 _ rfl; (with_reducible repeat (first | apply kN | apply kD | apply kA)); refine blk_put (cs := #[.int .i64 t226, .int .i64 t227, .int .i64 t228, .int .i64 t229, .int .i64 0, .int .i64 0]) ?_ 4 _ rfl; (with_reducible repeat (first | apply kN | apply kD | apply kA)); refine blk_put (cs := #[.int .i64 t226, .int .i64 t227, .int .i64 t228, .int .i64 0, .int .i64 0, .int .i64 0]) ?_ 3 _ rfl; (with_reducible repeat (first | apply kN | apply kD | apply kA)); refine blk_put (cs := #[.int .i64 t226, .int .i64 t227, .int .i64 0, .int .i64 0, .int .i64 0, .int .i64 0]) ?_ 2 _ rfl; (with_reducible repeat (first | apply kN | apply kD | apply kA)); refine blk_put (cs := #[.int .i64 t226, .int .i64 0, .int .i64 0, .int .i64 0, .int .i64 0, .int .i64 0]) ?_ 1 _ rfl; (with_reducible repeat (first | apply kN | apply kD | apply kA)); refine blk_put (cs := #[.int .i64 0, .int .i64 0, .int .i64 0, .int .i64 0, .int .i64 0, .int .i64 0]) ?_ 0 _ rfl; exact blkU BK225.out) Try.underlying29 rfl (by kernel_rfl)) rfl ?_
    exact ⟨by first | rfl | (simp [errW_none, errW_some] <;> rfl) | (simp [*, errW_none, errW_some] <;> rfl), by repeat (with_reducible first | exact HI0.out | apply sA | apply sN | apply sD | apply sS | refine IsS84.far ?_ NB0_225.out _ | refine IsS84.far ?_ NB0_233.out _), by repeat (with_reducible first | exact HB.out | apply bA | apply bN | apply b1 | refine below_set ?_ (IsS84.ge HI0.out) | refine below_set ?_ GE225.out | refine below_set ?_ GE233.out), by repeat (with_reducible first | exact HK.out | apply pS | apply pN | apply pD | apply pA | refine keep_far ?_ GW225.out _ | refine keep_far ?_ GW233.out _)⟩
end Go.Proofs.Ytmklpbmlgjkbiaa.PS
end
section
namespace Go.Proofs.Ytmklpbmlgjkbiaa.PS
open Go.RowKit Go.Proofs.YtmklpbmlgjkbiaaW.PrintWords Go.Proofs.YtmklpbmlgjkbiaaW.PrintLast Go.Proofs.YtmklpbmlgjkbiaaW.PrintMore
attribute [local go_sem] max2_int min2_int max_two min_two max_three min_three max_four min_four   -- for this text's walks alone
def spec_l3Goes.f (a0 : Int) : Option (Bool) := if a0 = 5 then (some true) else (if a0 = 8 then (some true) else (if a0 = 9 then (some true) else (some (a0 == 10))))
theorem spec_l3Goes.calls (a0 : Int) (r : Bool) (w : World) (h : spec_l3Goes.f a0 = some r) :
  Calls Try.prog 72 #[.int .i64 a0] w fun e w' => e = .returned (.bool r) ∧ Drawn0 w w' := by
 have H : (if a0 = 5 then (some true) else (if a0 = 8 then (some true) else (if a0 = 9 then (some true) else (some (a0 == 10))))) = some r := h
 clear h
 by_cases c2 : a0 = 5
 ·rw [if_pos c2] at H
  have c2b0 : (a0 == 5) = true := beq_iff_eq.mpr c2
  have c2b1 : (a0 != 5) = false := bne_eq_false_iff_eq.mpr c2
  clear c2
  obtain rfl := Option.some.inj H
  go_enter Try.func72, Try.ntmps72
  go_wp2
  go_ret
  exact ⟨by first | rfl | (simp; done) | (simp [*]; done), by repeat (first | exact Drawn0.refl _ | apply Drawn0.step)⟩
 ·rw [if_neg c2] at H
  have c2b0 : (a0 == 5) = false := beq_eq_false_iff_ne.mpr c2
  have c2b1 : (a0 != 5) = true := bne_iff_ne.mpr c2
  by_cases c3 : a0 = 8
  ·rw [if_pos c3] at H
   have c3b0 : (a0 == 8) = true := beq_iff_eq.mpr c3
   have c3b1 : (a0 != 8) = false := bne_eq_false_iff_eq.mpr c3
   clear c3
   obtain rfl := Option.some.inj H
   go_enter Try.func72, Try.ntmps72
   go_wp2
   go_ret
   exact ⟨by first | rfl | (simp; done) | (simp [*]; done), by repeat (first | exact Drawn0.refl _ | apply Drawn0.step)⟩
  ·rw [if_neg c3] at H
   have c3b0 : (a0 == 8) = false := beq_eq_false_iff_ne.mpr c3
   have c3b1 : (a0 != 8) = true := bne_iff_ne.mpr c3
   by_cases c4 : a0 = 9
   ·rw [if_pos c4] at H
    have c4b0 : (a0 == 9) = true := beq_iff_eq.mpr c4
    have c4b1 : (a0 != 9) = false := bne_eq_false_iff_eq.mpr c4
    clear c4
    obtain rfl := Option.some.inj H
    go_enter Try.func72, Try.ntmps72
    go_wp2
    go_ret
    exact ⟨by first | rfl | (simp; done) | (simp [*]; done), by repeat (first | exact Drawn0.refl _ | apply Drawn0.step)⟩
   ·rw [if_neg c4] at H
    have c4b0 : (a0 == 9) = false := beq_eq_false_iff_ne.mpr c4
    have c4b1 : (a0 != 9) = true := bne_iff_ne.mpr c4
    obtain rfl := Option.some.inj H
    go_enter Try.func72, Try.ntmps72
    go_wp2
    go_ret
    exact ⟨by first | rfl | (simp; done) | (simp [*]; done), by repeat (first | exact Drawn0.refl _ | apply Drawn0.step)⟩
mutual
def spec_CodeOk.l0 : Nat → List (S29) → Int → Option (Bool)
 | 0, _, _ => none
 | k + 1, x0, x3 => if x3 < (x0.length : Int) then (if 0 ≤ x3 then ((opV.f ((rd_T29 x0 x3).f0) ((rd_T29 x0 x3).f1) ((rd_T29 x0 x3).f2) ((rd_T29 x0 x3).f3) ((rd_T29 x0 x3).f4.f0) ((rd_T29 x0 x3).f4.f1)).bind fun t260 => (if t260 = true then ((spec_l3Goes.f ((rd_T29 x0 x3).f0)).bind fun t262 => (if t262 = true then (spec_CodeOk.j1 k x0 x3 (decide (((rd_T29 x0 x3).f3) ≥ (x0.length : Int)))) else (spec_CodeOk.j1 k x0 x3 false))) else (spec_CodeOk.j1 k x0 x3 true))) else (none)) else ((spec_l6In.f (x0.length : Int) 1 16).bind fun t264 => (some t264))
def spec_CodeOk.j1 : Nat → List (S29) → Int → Bool → Option (Bool)
 | 0, _, _, _ => none
 | k + 1, x0, x3, x33 => if x33 = true then (some false) else (spec_CodeOk.l0 k x0 (wrap64 (x3 + 1)))
end
def spec_CodeOk.f (k : Nat) (l0 : List (S29)) : Option (Bool) := spec_CodeOk.l0 k l0 0
theorem spec_CodeOk.mono_l : ∀ k, (∀ y0 y1, LeO (spec_CodeOk.l0 k y0 y1) (spec_CodeOk.l0 (k + 1) y0 y1)) ∧ (∀ y0 y1 y2, LeO (spec_CodeOk.j1 k y0 y1 y2) (spec_CodeOk.j1 (k + 1) y0 y1 y2))
 | 0 => ⟨fun _ _ r h => by simp [spec_CodeOk.l0] at h, fun _ _ _ r h => by simp [spec_CodeOk.j1] at h⟩
 | k + 1 => by
  obtain ⟨ih0, ih1⟩ := spec_CodeOk.mono_l k
  refine ⟨?_, ?_⟩
  ·intro y0 y1
   unfold spec_CodeOk.l0
   repeat' first
   | (with_reducible exact ih0 _ _)
   | (with_reducible exact ih1 _ _ _)
   | (with_reducible exact LeO.refl _)
   | (with_reducible exact LeO.none _)
   | (with_reducible refine LeO.ite ?_ ?_)
   | (with_reducible refine LeO.bind ?_ (fun _ => ?_))
   | exact ih0 _ _
   | exact ih1 _ _ _
   | exact LeO.none _
   | refine LeO.ite ?_ ?_
   | refine LeO.bind ?_ (fun _ => ?_)
  ·intro y0 y1 y2
   unfold spec_CodeOk.j1
   repeat' first
   | (with_reducible exact ih0 _ _)
   | (with_reducible exact ih1 _ _ _)
   | (with_reducible exact LeO.refl _)
   | (with_reducible exact LeO.none _)
   | (with_reducible refine LeO.ite ?_ ?_)
   | (with_reducible refine LeO.bind ?_ (fun _ => ?_))
   | exact ih0 _ _
   | exact ih1 _ _ _
   | exact LeO.none _
   | refine LeO.ite ?_ ?_
   | refine LeO.bind ?_ (fun _ => ?_)
theorem spec_CodeOk.mono : ∀ a0 k, LeO (spec_CodeOk.f k a0) (spec_CodeOk.f (k + 1) a0) := by
 intro a0 k
 obtain ⟨ih0, ih1⟩ := spec_CodeOk.mono_l k
 unfold spec_CodeOk.f
 repeat' first
   | (with_reducible exact ih0 _ _)
   | (with_reducible exact ih1 _ _ _)
   | (with_reducible exact LeO.refl _)
   | (with_reducible exact LeO.none _)
   | (with_reducible refine LeO.ite ?_ ?_)
   | (with_reducible refine LeO.bind ?_ (fun _ => ?_))
   | exact ih0 _ _
   | exact ih1 _ _ _
   | exact LeO.none _
   | refine LeO.ite ?_ ?_
   | refine LeO.bind ?_ (fun _ => ?_)
theorem spec_CodeOk.calls (k : Nat) (A0 : Option Addr) (c0 : Nat) (l0 : List (S29)) (r : Bool) (w : World) (hr0 : Kd.C k29 w A0 l0.length l0) (hc0 : l0.length ≤ c0) (h : spec_CodeOk.f k l0 = some r) :
  Calls Try.prog 33 #[.slice A0 l0.length c0] w fun e w' => e = .returned (.bool r) ∧ Below w.heap.size w w' := by
 have hu29 := Try.underlying29
 have HR0 := Aside0.mk hr0
 have HC0 := Aside0.mk hc0
 clear hr0 hc0
 have HB := Aside0.mk (Below.refl w.heap.size w)
 have H : (spec_CodeOk.l0 k l0 0) = some r := h
 clear h
 have H' := Aside0.mk H
 clear H
 go_enter Try.func33, Try.ntmps33
 go_wp2
 go_loopg [3] k (fun kq v3 w' => ∃ (x3_1 : Int), v3 = .int .i64 x3_1 ∧ Aside0 (spec_CodeOk.l0 kq l0 x3_1 = some r) ∧ Aside0 (kq ≤ k) ∧ Aside0 (Below w.heap.size w w'))
 case atStart => exact ⟨(0), (by first | rfl | (simp; done) | (simp [*]; done)), H', ⟨Nat.le_refl _⟩, ⟨by exact bU HB.out⟩⟩
 case round =>
  clear H'
  obtain ⟨x3_1, rfl, HA, HK1, HB⟩ := hrel
  cases gk with
  | zero => exact absurd HA.out (by simp [spec_CodeOk.l0])
  | succ k1 =>
   have H := HA.out
   clear HA
   simp only [spec_CodeOk.l0] at H
   by_cases c2 : x3_1 < (l0.length : Int)
   ·rw [if_pos c2] at H
    have c2b0 : decide (x3_1 < (l0.length : Int)) = true := decide_eq_true c2
    clear c2
    have HC3 := Aside0.mk H
    clear H
    go_upto_region 4 with (fail)
    go_cut [33] (fun v33 wc => ∃ (kq : Nat) (x33_2 : Bool), v33 = .bool x33_2 ∧ Aside0 (spec_CodeOk.j1 kq l0 x3_1 x33_2 = some r) ∧ Aside0 (kq ≤ k1) ∧ Aside0 (Below w.heap.size w wc))
    case first =>
     have H := HC3.out
     clear HC3
     by_cases c4 : 0 ≤ x3_1
     ·rw [if_pos c4] at H
      have c4b0 : decide (0 ≤ x3_1) = true := decide_eq_true c4
      clear c4
      (first | rw [c4b0] | (simp only [i64_w, i32_w]; rw [c4b0]) | skip)
      replace H := Option.bind_eq_some_iff.mp H
      obtain ⟨t260, A50, H⟩ := H
      replace H : (if t260 = true then ((spec_l3Goes.f ((rd_T29 l0 x3_1).f0)).bind fun t262 => (if t262 = true then (spec_CodeOk.j1 k1 l0 x3_1 (decide (((rd_T29 l0 x3_1).f3) ≥ (l0.length : Int)))) else (spec_CodeOk.j1 k1 l0 x3_1 false))) else (spec_CodeOk.j1 k1 l0 x3_1 true)) = some r := H
      have A5 := Aside0.mk A50
      clear A50
      by_cases c6 : t260 = true
      ·subst c6
       have H1 : ((spec_l3Goes.f ((rd_T29 l0 x3_1).f0)).bind fun t262 => (if t262 = true then (spec_CodeOk.j1 k1 l0 x3_1 (decide (((rd_T29 l0 x3_1).f3) ≥ (l0.length : Int)))) else (spec_CodeOk.j1 k1 l0 x3_1 false))) = some r := by rw [if_pos rfl] at H; exact H
       clear H
       have H := H1
       clear H1
       replace H := Option.bind_eq_some_iff.mp H
       obtain ⟨t262, A70, H⟩ := H
       replace H : (if t262 = true then (spec_CodeOk.j1 k1 l0 x3_1 (decide (((rd_T29 l0 x3_1).f3) ≥ (l0.length : Int)))) else (spec_CodeOk.j1 k1 l0 x3_1 false)) = some r := H
       have A7 := Aside0.mk A70
       clear A70
       by_cases c8 : t262 = true
       ·subst c8
        have H1 : (spec_CodeOk.j1 k1 l0 x3_1 (decide (((rd_T29 l0 x3_1).f3) ≥ (l0.length : Int)))) = some r := by rw [if_pos rfl] at H; exact H
        clear H
        have H := H1
        clear H1
        have H' := Aside0.mk H
        clear H
        have p259 : 0 ≤ (x3_1 : Int) := of_decide_eq_true (by assumption)
        have q259 : x3_1 < (l0.length : Int) := of_decide_eq_true (by assumption)
        obtain ⟨ad259, e259, hx259_0, hx259_1, hx259_2, hx259_3, hx259_4, hx259_5⟩ := at_T29 HR0.out x3_1 p259 q259
        cases e259
        replace hx259_0 := (HB.out.cell (World.block_lt_of_cell? w _ hx259_0)).trans hx259_0
        replace hx259_1 := (HB.out.cell (World.block_lt_of_cell? w _ hx259_1)).trans hx259_1
        replace hx259_2 := (HB.out.cell (World.block_lt_of_cell? w _ hx259_2)).trans hx259_2
        replace hx259_3 := (HB.out.cell (World.block_lt_of_cell? w _ hx259_3)).trans hx259_3
        replace hx259_4 := (HB.out.cell (World.block_lt_of_cell? w _ hx259_4)).trans hx259_4
        replace hx259_5 := (HB.out.cell (World.block_lt_of_cell? w _ hx259_5)).trans hx259_5
        replace p259 := eq_true p259
        replace q259 := eq_true q259
        go_wp2_with (first | ((with_reducible refine gate_callee (f := 23) rfl ?_); refine goesL_ (some 14) rfl rfl Try.func23 (by kernel_rfl) rfl #[.agg #[.int .i64 ((rd_T29 l0 x3_1).f0), .int .i64 ((rd_T29 l0 x3_1).f1), .int .i64 ((rd_T29 l0 x3_1).f2), .int .i64 ((rd_T29 l0 x3_1).f3), .int .i64 ((rd_T29 l0 x3_1).f4.f0), .int .i64 ((rd_T29 l0 x3_1).f4.f1)]] rfl (by (try simp only [List.map_toArray, List.map_cons, List.map_nil]); first | done | rfl | (simp only [List.length_drop, List.length_take]; rfl)) ?_; (with_reducible refine (spec_OpOk.calls ((rd_T29 l0 x3_1).f0) ((rd_T29 l0 x3_1).f1) ((rd_T29 l0 x3_1).f2) ((rd_T29 l0 x3_1).f3) ((rd_T29 l0 x3_1).f4.f0) ((rd_T29 l0 x3_1).f4.f1) true _ A5.out).mono ?_); rintro e w9 ⟨rfl, hb⟩; refine ⟨_, rfl, ?_⟩; replace HB := Aside0.mk (below_step (by exact bU HB.out) hb); (try clear hb); (try clear hb2); (try clear hk); (try clear hi); have p261 : 0 ≤ (x3_1 : Int) := of_decide_eq_true (by assumption); have q261 : x3_1 < (l0.length : Int) := of_decide_eq_true (by assumption); obtain ⟨ad261, e261, hx261_0, hx261_1, hx261_2, hx261_3, hx261_4, hx261_5⟩ := at_T29 HR0.out x3_1 p261 q261; obtain rfl : ad259 = ad261 := (by injection e261); replace hx261_0 := (HB.out.cell (World.block_lt_of_cell? w _ hx261_0)).trans hx261_0; replace hx261_1 := (HB.out.cell (World.block_lt_of_cell? w _ hx261_1)).trans hx261_1; replace hx261_2 := (HB.out.cell (World.block_lt_of_cell? w _ hx261_2)).trans hx261_2; replace hx261_3 := (HB.out.cell (World.block_lt_of_cell? w _ hx261_3)).trans hx261_3; replace hx261_4 := (HB.out.cell (World.block_lt_of_cell? w _ hx261_4)).trans hx261_4; replace hx261_5 := (HB.out.cell (World.block_lt_of_cell? w _ hx261_5)).trans hx261_5; replace p261 := eq_true p261; replace q261 := eq_true q261) | (go_at_call 72; (with_reducible refine (spec_l3Goes.calls ((rd_T29 l0 x3_1).f0) true _ A7.out).mono ?_); rintro e w' ⟨rfl, ⟨nd, rfl⟩⟩; have p263 : 0 ≤ (x3_1 : Int) := of_decide_eq_true (by assumption); have q263 : x3_1 < (l0.length : Int) := of_decide_eq_true (by assumption); obtain ⟨ad263, e263, hx263_0, hx263_1, hx263_2, hx263_3, hx263_4, hx263_5⟩ := at_T29 HR0.out x3_1 p263 q263; obtain rfl : ad259 = ad263 := (by injection e263); replace hx263_0 := (HB.out.cell (World.block_lt_of_cell? w _ hx263_0)).trans hx263_0; replace hx263_1 := (HB.out.cell (World.block_lt_of_cell? w _ hx263_1)).trans hx263_1; replace hx263_2 := (HB.out.cell (World.block_lt_of_cell? w _ hx263_2)).trans hx263_2; replace hx263_3 := (HB.out.cell (World.block_lt_of_cell? w _ hx263_3)).trans hx263_3; replace hx263_4 := (HB.out.cell (World.block_lt_of_cell? w _ hx263_4)).trans hx263_4; replace hx263_5 := (HB.out.cell (World.block_lt_of_cell? w _ hx263_5)).trans hx263_5; replace p263 := eq_true p263; replace q263 := eq_true q263))
        go_meet
        case rel => exact ⟨_, (decide (((rd_T29 l0 x3_1).f3) ≥ (l0.length : Int))), (by first | rfl | (simp; done) | (simp [*]; done)), H', ⟨by have := HK1.out; first | omega | exact Nat.le_refl _⟩, ⟨by exact bU HB.out⟩⟩
       ·replace c8 := Bool.eq_false_iff.mpr c8
        subst c8
        have H1 : (spec_CodeOk.j1 k1 l0 x3_1 false) = some r := by rw [if_neg (show ¬ (false = true) by decide)] at H; exact H
        clear H
        have H := H1
        clear H1
        have H' := Aside0.mk H
        clear H
        have p259 : 0 ≤ (x3_1 : Int) := of_decide_eq_true (by assumption)
        have q259 : x3_1 < (l0.length : Int) := of_decide_eq_true (by assumption)
        obtain ⟨ad259, e259, hx259_0, hx259_1, hx259_2, hx259_3, hx259_4, hx259_5⟩ := at_T29 HR0.out x3_1 p259 q259
        cases e259
        replace hx259_0 := (HB.out.cell (World.block_lt_of_cell? w _ hx259_0)).trans hx259_0
        replace hx259_1 := (HB.out.cell (World.block_lt_of_cell? w _ hx259_1)).trans hx259_1
        replace hx259_2 := (HB.out.cell (World.block_lt_of_cell? w _ hx259_2)).trans hx259_2
        replace hx259_3 := (HB.out.cell (World.block_lt_of_cell? w _ hx259_3)).trans hx259_3
        replace hx259_4 := (HB.out.cell (World.block_lt_of_cell? w _ hx259_4)).trans hx259_4
        replace hx259_5 := (HB.out.cell (World.block_lt_of_cell? w _ hx259_5)).trans hx259_5
        replace p259 := eq_true p259
        replace q259 := eq_true q259
        go_wp2_with (first | ((with_reducible refine gate_callee (f := 23) rfl ?_); refine goesL_ (some 14) rfl rfl Try.func23 (by kernel_rfl) rfl #[.agg #[.int .i64 ((rd_T29 l0 x3_1).f0), .int .i64 ((rd_T29 l0 x3_1).f1), .int .i64 ((rd_T29 l0 x3_1).f2), .int .i64 ((rd_T29 l0 x3_1).f3), .int .i64 ((rd_T29 l0 x3_1).f4.f0), .int .i64 ((rd_T29 l0 x3_1).f4.f1)]] rfl (by (try simp only [List.map_toArray, List.map_cons, List.map_nil]); first | done | rfl | (simp only [List.length_drop, List.length_take]; rfl)) ?_; (with_reducible refine (spec_OpOk.calls ((rd_T29 l0 x3_1).f0) ((rd_T29 l0 x3_1).f1) ((rd_T29 l0 x3_1).f2) ((rd_T29 l0 x3_1).f3) ((rd_T29 l0 x3_1).f4.f0) ((rd_T29 l0 x3_1).f4.f1) true _ A5.out).mono ?_); rintro e w10 ⟨rfl, hb⟩; refine ⟨_, rfl, ?_⟩; replace HB := Aside0.mk (below_step (by exact bU HB.out) hb); (try clear hb); (try clear hb2); (try clear hk); (try clear hi); have p261 : 0 ≤ (x3_1 : Int) := of_decide_eq_true (by assumption); have q261 : x3_1 < (l0.length : Int) := of_decide_eq_true (by assumption); obtain ⟨ad261, e261, hx261_0, hx261_1, hx261_2, hx261_3, hx261_4, hx261_5⟩ := at_T29 HR0.out x3_1 p261 q261; obtain rfl : ad259 = ad261 := (by injection e261); replace hx261_0 := (HB.out.cell (World.block_lt_of_cell? w _ hx261_0)).trans hx261_0; replace hx261_1 := (HB.out.cell (World.block_lt_of_cell? w _ hx261_1)).trans hx261_1; replace hx261_2 := (HB.out.cell (World.block_lt_of_cell? w _ hx261_2)).trans hx261_2; replace hx261_3 := (HB.out.cell (World.block_lt_of_cell? w _ hx261_3)).trans hx261_3; replace hx261_4 := (HB.out.cell (World.block_lt_of_cell? w _ hx261_4)).trans hx261_4; replace hx261_5 := (HB.out.cell (World.block_lt_of_cell? w _ hx261_5)).trans hx261_5; replace p261 := eq_true p261; replace q261 := eq_true q261) | (go_at_call 72; (with_reducible refine (spec_l3Goes.calls ((rd_T29 l0 x3_1).f0) false _ A7.out).mono ?_); rintro e w' ⟨rfl, ⟨nd, rfl⟩⟩))
        go_meet
        case rel => exact ⟨_, (false), (by first | rfl | (simp; done) | (simp [*]; done)), H', ⟨by have := HK1.out; first | omega | exact Nat.le_refl _⟩, ⟨by exact bU HB.out⟩⟩
      ·replace c6 := Bool.eq_false_iff.mpr c6
       subst c6
       have H1 : (spec_CodeOk.j1 k1 l0 x3_1 true) = some r := by rw [if_neg (show ¬ (false = true) by decide)] at H; exact H
       clear H
       have H := H1
       clear H1
       have H' := Aside0.mk H
       clear H
       have p259 : 0 ≤ (x3_1 : Int) := of_decide_eq_true (by assumption)
       have q259 : x3_1 < (l0.length : Int) := of_decide_eq_true (by assumption)
       obtain ⟨ad259, e259, hx259_0, hx259_1, hx259_2, hx259_3, hx259_4, hx259_5⟩ := at_T29 HR0.out x3_1 p259 q259
       cases e259
       replace hx259_0 := (HB.out.cell (World.block_lt_of_cell? w _ hx259_0)).trans hx259_0
       replace hx259_1 := (HB.out.cell (World.block_lt_of_cell? w _ hx259_1)).trans hx259_1
       replace hx259_2 := (HB.out.cell (World.block_lt_of_cell? w _ hx259_2)).trans hx259_2
       replace hx259_3 := (HB.out.cell (World.block_lt_of_cell? w _ hx259_3)).trans hx259_3
       replace hx259_4 := (HB.out.cell (World.block_lt_of_cell? w _ hx259_4)).trans hx259_4
       replace hx259_5 := (HB.out.cell (World.block_lt_of_cell? w _ hx259_5)).trans hx259_5
       replace p259 := eq_true p259
       replace q259 := eq_true q259
       go_wp2_with (first | ((with_reducible refine gate_callee (f := 23) rfl ?_); refine goesL_ (some 14) rfl rfl Try.func23 (by kernel_rfl) rfl #[.agg #[.int .i64 ((rd_T29 l0 x3_1).f0), .int .i64 ((rd_T29 l0 x3_1).f1), .int .i64 ((rd_T29 l0 x3_1).f2), .int .i64 ((rd_T29 l0 x3_1).f3), .int .i64 ((rd_T29 l0 x3_1).f4.f0), .int .i64 ((rd_T29 l0 x3_1).f4.f1)]] rfl (by (try simp only [List.map_toArray, List.map_cons, List.map_nil]); first | done | rfl | (simp only [List.length_drop, List.length_take]; rfl)) ?_; (with_reducible refine (spec_OpOk.calls ((rd_T29 l0 x3_1).f0) ((rd_T29 l0 x3_1).f1) ((rd_T29 l0 x3_1).f2) ((rd_T29 l0 x3_1).f3) ((rd_T29 l0 x3_1).f4.f0) ((rd_T29 l0 x3_1).f4.f1) false _ A5.out).mono ?_); rintro e w11 ⟨rfl, hb⟩; refine ⟨_, rfl, ?_⟩; replace HB := Aside0.mk (below_step (by exact bU HB.out) hb); (try clear hb); (try clear hb2); (try clear hk); (try clear hi)))
       go_meet
       case rel => exact ⟨_, (true), (by first | rfl | (simp; done) | (simp [*]; done)), H', ⟨by have := HK1.out; first | omega | exact Nat.le_refl _⟩, ⟨by exact bU HB.out⟩⟩
     ·rw [if_neg c4] at H
      exact absurd H (by simp)
    case rest =>
     clear HC3
     (try clear c2); (try clear c2b0); (try clear p2); (try clear q2); (try clear hx2); (try clear c3); (try clear c4); (try clear c4b0); (try clear c6); (try clear c8); (try clear hx259_0); (try clear hx259_1); (try clear hx259_2); (try clear hx259_3); (try clear hx259_4); (try clear hx259_5); (try clear hx261_0); (try clear hx261_1); (try clear hx261_2); (try clear hx261_3); (try clear hx261_4); (try clear hx261_5); (try clear hx263_0); (try clear hx263_1); (try clear hx263_2); (try clear hx263_3); (try clear hx263_4); (try clear hx263_5); (try clear p259); (try clear p261); (try clear p263); (try clear q259); (try clear q261); (try clear q263)
     obtain ⟨kq, x33_2, rfl, HA, HJ2, HB⟩ := hcut
     cases kq with
     | zero => exact absurd HA.out (by simp [spec_CodeOk.j1])
     | succ kj2 =>
      have H := HA.out
      clear HA
      simp only [spec_CodeOk.j1] at H
      by_cases c12 : x33_2 = true
      ·subst c12
       have H1 : (some false) = some r := by rw [if_pos rfl] at H; exact H
       clear H
       have H := H1
       clear H1
       obtain rfl := Option.some.inj H
       go_wp2
       go_ret
       exact ⟨by first | rfl | (simp [errW_none, errW_some] <;> rfl) | (simp [*, errW_none, errW_some] <;> rfl), by exact bU HB.out⟩
      ·replace c12 := Bool.eq_false_iff.mpr c12
       subst c12
       have H1 : (spec_CodeOk.l0 kj2 l0 (wrap64 (x3_1 + 1))) = some r := by rw [if_neg (show ¬ (false = true) by decide)] at H; exact H
       clear H
       have H := H1
       clear H1
       have H' := Aside0.mk H
       clear H
       go_wp2
       go_roundg kj2
       case measure => have := HK1.out; have := HJ2.out; omega
       case rel => exact ⟨(wrap64 (x3_1 + 1)), (by first | rfl | (simp; done) | (simp [*]; done)), H', ⟨by have := HK1.out; have := HJ2.out; omega⟩, ⟨by exact bU HB.out⟩⟩
   ·rw [if_neg c2] at H
    have c2b0 : decide (x3_1 < (l0.length : Int)) = false := decide_eq_false c2
    clear c2
    replace H := Option.bind_eq_some_iff.mp H
    obtain ⟨t264, A130, H⟩ := H
    replace H : (some t264) = some r := H
    have A13 := Aside0.mk A130
    clear A130
    obtain rfl := Option.some.inj H
    go_wp2_with (first | ((with_reducible refine gate_callee (f := 59) rfl ?_); refine goesL_ (some 36) rfl rfl Try.func59 (by kernel_rfl) rfl #[.int .i64 (l0.length : Int), .int .i64 1, .int .i64 16] rfl (by (try simp only [List.map_toArray, List.map_cons, List.map_nil]); first | done | rfl | (simp only [List.length_drop, List.length_take]; rfl)) ?_; (with_reducible refine (spec_l6In.calls (l0.length : Int) 1 16 t264 _ A13.out).mono ?_); rintro e w' ⟨rfl, ⟨nd, rfl⟩⟩; refine ⟨_, rfl, ?_⟩))
    go_ret
    exact ⟨by first | rfl | (simp [errW_none, errW_some] <;> rfl) | (simp [*, errW_none, errW_some] <;> rfl), by exact bU HB.out⟩
end Go.Proofs.Ytmklpbmlgjkbiaa.PS
end
section
namespace Go.Proofs.Ytmklpbmlgjkbiaa.PS
open Go.RowKit Go.Proofs.YtmklpbmlgjkbiaaW.PrintWords Go.Proofs.YtmklpbmlgjkbiaaW.PrintLast
theorem rd29_at (l : List S29) (i : Nat) (h : i < l.length) : rd_T29 l (i : Int) = l[i] := by
  unfold rd_T29; simp [List.getD_eq_getElem?_getD, List.getElem?_eq_getElem h]
instance : DecidableEq S27 := fun a b => decidable_of_iff (a.f0 = b.f0 ∧ a.f1 = b.f1) ⟨fun ⟨h, g⟩ => by cases a; cases b; simp_all, fun h => by subst h; exact ⟨rfl, rfl⟩⟩
instance : DecidableEq S29 := fun a b => decidable_of_iff (a.f0 = b.f0 ∧ a.f1 = b.f1 ∧ a.f2 = b.f2 ∧ a.f3 = b.f3 ∧ a.f4 = b.f4) ⟨fun ⟨h, g, i, j, k⟩ => by cases a; cases b; simp_all, fun h => by subst h; exact ⟨rfl, rfl, rfl, rfl, rfl⟩⟩
theorem goes_eq (k : Int) : spec_l3Goes.f k = some (hasT k) := by
  unfold spec_l3Goes.f hasT
  by_cases h5 : k = 5
  · subst h5; rfl
  rw [if_neg h5]
  by_cases h8 : k = 8
  · subst h8; rfl
  rw [if_neg h8]
  by_cases h9 : k = 9
  · subst h9; rfl
  rw [if_neg h9]
  by_cases h10 : k = 10
  · subst h10; rfl
  have : (k == 10) = false := by simpa using h10
  rw [this]; simp [h5, h8, h9, h10]
theorem in_len (n : Nat) : spec_l6In.f (n : Int) 1 16 = some (decide (1 ≤ n ∧ n ≤ 16)) := by
  unfold spec_l6In.f
  split
  · congr 1; exact decide_eq_decide.2 (by omega)
  · congr 1; symm; exact decide_eq_false (by omega)
theorem scode_loop (l : List S29) (hm : l.length ≤ 9223372036854775807) (d : Nat) : ∀ (k i : Nat), l.length - i = d → i ≤ l.length → 2 * d < k →
    spec_CodeOk.l0 k l i = some (decide (1 ≤ l.length ∧ l.length ≤ 16) && !((l.drop i).any (wrongB l.length))) := by
  induction d with
  | zero =>
    intro k i hd hi hk
    obtain ⟨k, rfl⟩ : ∃ m, k = m + 1 := ⟨k - 1, by omega⟩
    simp only [spec_CodeOk.l0]
    rw [if_neg (by omega), List.drop_of_length_le (by omega), in_len]; simp
  | succ d ih =>
    intro k i hd hi hk
    obtain ⟨k, rfl⟩ : ∃ m, k = m + 1 := ⟨k - 1, by omega⟩
    obtain ⟨k, rfl⟩ : ∃ m, k = m + 1 := ⟨k - 1, by omega⟩
    simp only [spec_CodeOk.l0]
    have d0 : l.drop i = l[i]'(by omega) :: l.drop (i + 1) := List.drop_eq_getElem_cons (by omega)
    rw [if_pos (by omega), if_pos (by omega), rd29_at l i (by omega), d0]
    obtain ⟨x, hx⟩ : ∃ x, l[i]'(by omega) = x := ⟨_, rfl⟩
    rw [hx]
    have hw : wrongB l.length x = (!(opS x) || (hasT x.f0 && decide ((l.length : Int) ≤ x.f3))) := rfl
    have step : ∀ b : Bool, spec_CodeOk.j1 (k + 1) l i b = if b = true then some false else some (decide (1 ≤ l.length ∧ l.length ≤ 16) && !((l.drop (i + 1)).any (wrongB l.length))) := fun b => by
      simp only [spec_CodeOk.j1]
      rw [w64 (by omega) (by omega), show ((i : Int) + 1) = ((i + 1 : Nat) : Int) from by omega, ih k (i + 1) (by omega) (by omega) (by omega)]
    have ho : opV.f x.f0 x.f1 x.f2 x.f3 x.f4.f0 x.f4.f1 = some (opS x) := rfl
    rw [ho, goes_eq]
    simp only [Option.bind_some, step, List.any_cons, hw]
    cases opS x <;> cases hasT x.f0 <;> by_cases ht : (l.length : Int) ≤ x.f3 <;> simp [ht]
theorem scode_eq (l : List S29) (hm : l.length ≤ 9223372036854775807) : spec_CodeOk.f (2 * l.length + 1) l = some (codeB l) := by
  unfold spec_CodeOk.f
  exact scode_loop l hm l.length _ 0 (by omega) (by omega) (by omega)
theorem spec_CodeOk_as.calls (A0 : Option Addr) (c0 : Nat) (l0 : List (S29)) (r : Bool) (w : World) (hr0 : Kd.C k29 w A0 l0.length l0) (hc0 : l0.length ≤ c0) (h : codeV.f l0 = some r) :
    Calls Try.prog 33 #[.slice A0 l0.length c0] w fun e w' => e = .returned (.bool r) ∧ Below w.heap.size w w' :=
  spec_CodeOk.calls _ A0 c0 l0 r w hr0 hc0 ((scode_eq l0 (Kd.C_max hr0)).trans h)
inductive Fl where
  | same | fill | one
def arrowsL (n : Nat) (i k t : Int) : List (Int × Fl) :=
  (if k = 9 ∨ k = 14 then [] else if i + 1 < n then [(i + 1, if (howR k).f3 = true then .fill else .same)] else []) ++
  (if k = 5 then [(t, .one)] else if hasT k = true then [(t, .same)] else [])
def waysL (l : List S29) (i : Nat) : List (Int × Fl) := arrowsL l.length i (rd_T29 l i).f0 (rd_T29 l i).f3
end Go.Proofs.Ytmklpbmlgjkbiaa.PS
end
section
namespace Go.Proofs.Ytmklpbmlgjkbiaa.PS
def both (a x : Int) : Int := if a < 0 then x else ((a.toNat &&& x.toNat : Nat) : Int)
def mu1 (a : Int) : Nat := if a < 0 then 5 else a.toNat % 2 + a.toNat / 2 % 2 + a.toNat / 4 % 2 + a.toNat / 8 % 2
def fours (P : Int → Bool) : Bool := (List.range 16).all fun i => P i
theorem fours_all {P : Int → Bool} (h : fours P = true) {x : Int} (h0 : 0 ≤ x) (h1 : x ≤ 15) : P x = true := by
  unfold fours at h
  rw [List.all_eq_true] at h
  have := h x.toNat (by simp; omega)
  rwa [Int.toNat_of_nonneg h0] at this
theorem both_range {a x : Int} (h0 : 0 ≤ x) (h1 : x ≤ 15) : 0 ≤ both a x ∧ both a x ≤ 15 := by
  unfold both
  split
  · exact ⟨h0, h1⟩
  · have : a.toNat &&& x.toNat ≤ x.toNat := Nat.and_le_right
    omega
theorem both_mu {a x : Int} (ha : -1 ≤ a) (ha' : a ≤ 15) (h0 : 0 ≤ x) (h1 : x ≤ 15) : both a x = a ∨ mu1 (both a x) < mu1 a := by
  by_cases h : a = -1
  · subst h
    right
    have : fours (fun x => decide (mu1 (both (-1) x) < mu1 (-1))) = true := by decide +kernel
    exact of_decide_eq_true (fours_all this h0 h1)
  · have : fours (fun a => fours fun x => decide (both a x = a ∨ mu1 (both a x) < mu1 a)) = true := by decide +kernel
    exact of_decide_eq_true (fours_all (fours_all this (by omega) ha') h0 h1)
abbrev Way := Int × (Int → Int)
def at_ (o : List Int) (i : Int) : Int := o.getD i.toNat 0
def mergeW (i : Nat) (o : List Int) (a : Way) : List Int := o.set a.1.toNat (both (at_ o a.1) (a.2 (at_ o i)))
def stepW (W : Nat → List Way) (o : List Int) (i : Nat) : List Int := if at_ o i < 0 then o else (W i).foldl (mergeW i) o
def passW (W : Nat → List Way) (n : Nat) (o : List Int) : List Int := (List.range n).foldl (stepW W) o
def mu (o : List Int) : Nat := (o.map mu1).sum
def GoodW (W : Nat → List Way) (n : Nat) : Prop := ∀ i, i < n → ∀ a ∈ W i, 0 ≤ a.1 ∧ a.1 < n ∧ ∀ x, 0 ≤ x → x ≤ 15 → 0 ≤ a.2 x ∧ a.2 x ≤ 15
def GoodO (n : Nat) (o : List Int) : Prop := o.length = n ∧ ∀ x ∈ o, -1 ≤ x ∧ x ≤ 15
theorem at_good {n : Nat} {o : List Int} (h : GoodO n o) (i : Int) : -1 ≤ at_ o i ∧ at_ o i ≤ 15 := by
  unfold at_
  rw [List.getD_eq_getElem?_getD]
  cases e : o[i.toNat]? with
  | none => simp
  | some x => exact h.2 x (List.mem_of_getElem? e)
theorem at_set_self {o : List Int} {i : Int} {x : Int} (h : i.toNat < o.length) : at_ (o.set i.toNat x) i = x := by
  unfold at_; simp [List.getD_eq_getElem?_getD, h]
theorem at_set_ne {o : List Int} {i j : Nat} {x : Int} (h : i ≠ j) : at_ (o.set i x) j = at_ o j := by
  unfold at_; simp [List.getD_eq_getElem?_getD, h]
theorem set_at {o : List Int} {i : Nat} : o.set i (at_ o i) = o := by
  unfold at_
  by_cases h : i < o.length
  · refine List.ext_getElem (by simp) fun j h1 h2 => ?_
    by_cases e : i = j
    · subst e; simp [List.getD_eq_getElem?_getD, h]
    · simp [e]
  · simp [List.set_eq_of_length_le (by omega : o.length ≤ i)]
theorem mu_set {o : List Int} {i : Nat} {x : Int} (h : i < o.length) : mu (o.set i x) + mu1 (at_ o i) = mu o + mu1 x := by
  induction o generalizing i with
  | nil => simp at h
  | cons y o ih =>
    cases i with
    | zero => simp [mu, at_]; omega
    | succ i =>
      have := ih (i := i) (by simpa using h)
      simp [mu, at_] at this ⊢; omega
def Down (o p : List Int) : Prop := p = o ∨ mu p < mu o
theorem Down.refl (o : List Int) : Down o o := .inl rfl
theorem Down.trans {o p q : List Int} (h : Down o p) (g : Down p q) : Down o q := by
  rcases h with rfl | h
  · exact g
  · rcases g with rfl | g
    · exact .inr h
    · exact .inr (by omega)
theorem merge_good {W : Nat → List Way} {n i : Nat} {o : List Int} {a : Way} (hW : GoodW W n) (ho : GoodO n o) (hi : i < n) (ha : a ∈ W i) (h0 : 0 ≤ at_ o i) :
    GoodO n (mergeW i o a) ∧ Down o (mergeW i o a) ∧ 0 ≤ at_ (mergeW i o a) i := by
  obtain ⟨t0, t1, hf⟩ := hW i hi a ha
  have hx := hf _ h0 (at_good ho i).2
  have hb := both_range (a := at_ o a.1) hx.1 hx.2
  have hm := both_mu (at_good ho a.1).1 (at_good ho a.1).2 hx.1 hx.2
  refine ⟨⟨by simp [mergeW, ho.1], fun x hx' => ?_⟩, ?_, ?_⟩
  · rcases List.mem_or_eq_of_mem_set hx' with h | h
    · exact ho.2 x h
    · omega
  · have hs := mu_set (o := o) (i := a.1.toNat) (x := both (at_ o a.1) (a.2 (at_ o i))) (by rw [ho.1]; omega)
    have e : at_ o (a.1.toNat : Int) = at_ o a.1 := by rw [Int.toNat_of_nonneg t0]
    rcases hm with hm | hm
    · left; unfold mergeW; rw [hm, ← e]; exact set_at
    · right; unfold mergeW; rw [e] at hs; omega
  · by_cases e : a.1.toNat = i
    · have : a.1 = i := by omega
      unfold mergeW
      rw [← this, at_set_self (by rw [ho.1]; omega)]
      rw [this] at hb ⊢; omega
    · unfold mergeW; rw [at_set_ne e]; exact h0
theorem merges_good {W : Nat → List Way} {n i : Nat} (hW : GoodW W n) (hi : i < n) : ∀ (L : List Way), (∀ a ∈ L, a ∈ W i) → ∀ o, GoodO n o → 0 ≤ at_ o i →
    GoodO n (L.foldl (mergeW i) o) ∧ Down o (L.foldl (mergeW i) o) ∧ 0 ≤ at_ (L.foldl (mergeW i) o) i
  | [], _, o, ho, h0 => ⟨ho, .refl _, h0⟩
  | a :: L, hL, o, ho, h0 => by
    obtain ⟨g, d, z⟩ := merge_good hW ho hi (hL a (by simp)) h0
    obtain ⟨g', d', z'⟩ := merges_good hW hi L (fun b hb => hL b (by simp [hb])) _ g z
    exact ⟨g', d.trans d', z'⟩
theorem step_good {W : Nat → List Way} {n i : Nat} {o : List Int} (hW : GoodW W n) (hi : i < n) (ho : GoodO n o) : GoodO n (stepW W o i) ∧ Down o (stepW W o i) := by
  unfold stepW; split
  · exact ⟨ho, .refl _⟩
  · obtain ⟨g, d, _⟩ := merges_good hW hi (W i) (fun _ h => h) o ho (by omega)
    exact ⟨g, d⟩
theorem passes_good {W : Nat → List Way} {n : Nat} (hW : GoodW W n) {o : List Int} (ho : GoodO n o) : ∀ m, m ≤ n → GoodO n (passW W m o) ∧ Down o (passW W m o)
  | 0, _ => ⟨ho, .refl _⟩
  | m + 1, hm => by
    obtain ⟨g, d⟩ := passes_good hW ho m (by omega)
    obtain ⟨g', d'⟩ := step_good hW (i := m) (by omega) g
    unfold passW; rw [List.range_succ, List.foldl_append]
    exact ⟨g', d.trans d'⟩
theorem pass_succ (W : Nat → List Way) (m : Nat) (o : List Int) : passW W (m + 1) o = stepW W (passW W m o) m := by
  unfold passW; rw [List.range_succ, List.foldl_append]; rfl
def iterW (W : Nat → List Way) (n : Nat) : Nat → List Int → List Int
  | 0, o => o
  | k + 1, o => iterW W n k (passW W n o)
def finW (W : Nat → List Way) (n : Nat) (o : List Int) : List Int := iterW W n (mu o) o
theorem iter_fix {W : Nat → List Way} {n : Nat} {o : List Int} (h : passW W n o = o) : ∀ k, iterW W n k o = o
  | 0 => rfl
  | k + 1 => by unfold iterW; rw [h]; exact iter_fix h k
theorem iter_more {W : Nat → List Way} {n : Nat} (hW : GoodW W n) : ∀ (m : Nat) (o : List Int), mu o ≤ m → GoodO n o → iterW W n m o = finW W n o ∧ passW W n (iterW W n m o) = iterW W n m o ∧ GoodO n (iterW W n m o)
  | 0, o, hm, ho => by
    have e : mu o = 0 := by omega
    refine ⟨by unfold finW; rw [e], ?_, ho⟩
    rcases (passes_good hW ho n (Nat.le_refl n)).2 with h | h
    · exact h
    · omega
  | m + 1, o, hm, ho => by
    obtain ⟨g, d⟩ := passes_good hW ho n (Nat.le_refl n)
    rcases d with h | h
    · exact ⟨by unfold finW; rw [iter_fix h, iter_fix h], by rw [iter_fix h]; exact h, by rw [iter_fix h]; exact ho⟩
    · obtain ⟨a, b, c⟩ := iter_more hW m (passW W n o) (by omega) g
      refine ⟨?_, b, c⟩
      obtain ⟨q, hq⟩ : ∃ q, mu o = q + 1 := ⟨mu o - 1, by omega⟩
      have := (iter_more hW q (passW W n o) (by omega) g).1
      show iterW W n m (passW W n o) = _
      unfold finW; rw [hq]
      show _ = iterW W n q (passW W n o)
      rw [a, this]
  termination_by m => m
theorem fin_pass {W : Nat → List Way} {n : Nat} (hW : GoodW W n) {o : List Int} (ho : GoodO n o) : finW W n (passW W n o) = finW W n o := by
  obtain ⟨g, d⟩ := passes_good hW ho n (Nat.le_refl n)
  rcases d with h | h
  · rw [h]
  · obtain ⟨a, -, -⟩ := iter_more hW (mu o - 1) (passW W n o) (by omega) g
    obtain ⟨b, -, -⟩ := iter_more hW (mu o) o (by omega) ho
    rw [← a, ← b]
    obtain ⟨q, hq⟩ : ∃ q, mu o = q + 1 := ⟨mu o - 1, by omega⟩
    rw [hq]; rfl
theorem fin_fix {W : Nat → List Way} {n : Nat} {o : List Int} (h : passW W n o = o) : finW W n o = o := iter_fix h _
theorem fin_good {W : Nat → List Way} {n : Nat} (hW : GoodW W n) {o : List Int} (ho : GoodO n o) : passW W n (finW W n o) = finW W n o ∧ GoodO n (finW W n o) :=
  (iter_more hW (mu o) o (Nat.le_refl _) ho).2
def startO (n : Nat) : List Int := (List.replicate n (-1)).set 0 1
theorem start_good (n : Nat) : GoodO n (startO n) := by
  refine ⟨by simp [startO], fun x hx => ?_⟩
  rcases List.mem_or_eq_of_mem_set hx with h | h
  · have := (List.mem_replicate.1 h).2; omega
  · omega
def fullW (W : Nat → List Way) (n : Nat) : List Int := finW W n (startO n)
theorem full_good {W : Nat → List Way} {n : Nat} (hW : GoodW W n) : GoodO n (fullW W n) := (fin_good hW (start_good n)).2
end Go.Proofs.Ytmklpbmlgjkbiaa.PS
end
section
namespace Go.Proofs.Ytmklpbmlgjkbiaa.PS
open Go.RowKit Go.Proofs.YtmklpbmlgjkbiaaW.PrintWords Go.Proofs.YtmklpbmlgjkbiaaW.PrintLast
def orBit (x r : Int) : Int := bits BinOp.or IntKind.i64 x (wrap64 (2 ^ r.toNat))
theorem orBit_range {x r : Int} (hx : 0 ≤ x) (hx2 : x ≤ 15) (hr : 0 ≤ r) (hr2 : r ≤ 3) : 0 ≤ orBit x r ∧ orBit x r ≤ 15 := by
  have : fours (fun x => fours fun r => decide (r ≤ 3 → 0 ≤ orBit x r ∧ orBit x r ≤ 15)) = true := by decide +kernel
  exact of_decide_eq_true (fours_all (fours_all this hx hx2) hr (by omega)) hr2
def flF (f : Fl) (r x : Int) : Int :=
  match f with
  | .same => x
  | .fill => orBit x r
  | .one => 1
def wayW (l : List S29) (i : Nat) : List Way := (waysL l i).map fun a => (a.1, flF a.2 (rd_T29 l i).f1)
def fullL (l : List S29) : List Int := fullW (wayW l) l.length
theorem code_len {l : List S29} (h : codeB l = true) : 1 ≤ l.length ∧ l.length ≤ 16 := by
  unfold codeB at h; simp at h; omega
theorem code_op {l : List S29} (h : codeB l = true) {i : Nat} (hi : i < l.length) : opP l[i].f0 l[i].f1 l[i].f2 l[i].f3 l[i].f4.f0 l[i].f4.f1 ∧ (hasT l[i].f0 = true → l[i].f3 < l.length) := by
  have h2 : l.any (wrongB l.length) = false := by unfold codeB at h; simp only [Bool.and_eq_true, Bool.not_eq_true'] at h; exact h.2
  have := List.any_eq_false.1 h2 l[i] (List.getElem_mem hi)
  unfold wrongB opS at this
  simp only [Bool.or_eq_true, Bool.not_eq_true', Bool.and_eq_true, decide_eq_true_eq, not_or] at this
  refine ⟨opB_true.1 (by simpa using this.1), fun ht => ?_⟩
  have := this.2
  simp [ht] at this; omega
theorem fills_has {k : Int} : (howR k).f3 = true → hasR k = true :=
  kinds (P := fun k => (howR k).f3 = true → hasR k = true) (fun k hk => by unfold howR; rw [if_neg hk]; intro h; cases h) (by decide) (by decide) (by decide) (by decide) (by decide) (by decide) (by decide) (by decide) (by decide) (by decide) (by decide) (by decide) (by decide) (by decide) k
theorem rd29_get {l : List S29} {i : Nat} (h : i < l.length) : rd_T29 l (i : Int) = l[i] := by
  unfold rd_T29; simp [List.getD_eq_getElem?_getD, List.getElem?_eq_getElem h]
theorem code_way {l : List S29} (h : codeB l = true) {i : Nat} (hi : i < l.length) {a : Int × Fl} (ha : a ∈ waysL l i) : 0 ≤ a.1 ∧ a.1 < l.length ∧ (a.2 = .fill → 0 ≤ (rd_T29 l i).f1 ∧ (rd_T29 l i).f1 ≤ 3) := by
  obtain ⟨⟨h1, h2, h3, h4, h5, h6⟩, ht⟩ := code_op h hi
  unfold waysL arrowsL at ha
  rw [rd29_get hi] at ha ⊢
  rcases List.mem_append.1 ha with ha | ha
  · split at ha
    · cases ha
    · split at ha
      · obtain rfl := List.mem_singleton.1 ha
        refine ⟨by simp; omega, by simp; omega, fun hf => ?_⟩
        have hh : (howR l[i].f0).f3 = true := by
          by_cases e : (howR l[i].f0).f3 = true
          · exact e
          · simp [e] at hf
        rcases h3 with h3 | h3
        · omega
        · exact h3.2
      · cases ha
  · have tt : hasT l[i].f0 = true → 0 ≤ l[i].f3 := fun h => by omega
    split at ha
    · rename_i h5'
      obtain rfl := List.mem_singleton.1 ha
      have h6 : hasT l[i].f0 = true := by rw [h5']; rfl
      exact ⟨tt h6, ht h6, fun hf => by cases hf⟩
    · split at ha
      · rename_i h6
        obtain rfl := List.mem_singleton.1 ha
        exact ⟨tt h6, ht h6, fun hf => by cases hf⟩
      · cases ha
theorem wayW_good {l : List S29} (h : codeB l = true) : GoodW (wayW l) l.length := by
  intro i hi a ha
  obtain ⟨b, hb, rfl⟩ := List.mem_map.1 ha
  obtain ⟨h0, h1, h2⟩ := code_way h hi hb
  refine ⟨h0, h1, fun x hx hx2 => ?_⟩
  obtain ⟨t, f⟩ := b
  cases f with
  | same => exact ⟨hx, hx2⟩
  | fill => exact orBit_range hx hx2 (h2 rfl).1 (h2 rfl).2
  | one => exact ⟨by show (0 : Int) ≤ 1; decide, by show (1 : Int) ≤ 15; decide⟩
def cutStep (s : ByteArray) (a : Int) (out : List ByteArray) (i : Nat) : List ByteArray :=
  if bt s i = a then out ++ [⟨#[]⟩] else out.set (out.length - 1) (rdOf ByteArray.empty out ((out.length : Int) - 1) ++ strOfNums [bt s i])
def cutTo (s : ByteArray) (a : Int) (n : Nat) : List ByteArray := (List.range n).foldl (cutStep s a) [⟨#[]⟩]
def cutV.f (s : ByteArray) (a : Int) : Option (List ByteArray) := if s.size ≤ 1000 then some (cutTo s a s.size) else none
theorem cut_succ (s : ByteArray) (a : Int) (n : Nat) : cutTo s a (n + 1) = cutStep s a (cutTo s a n) n := by
  unfold cutTo; rw [List.range_succ, List.foldl_append]; rfl
theorem cut_len (s : ByteArray) (a : Int) (n : Nat) : 1 ≤ (cutTo s a n).length ∧ (cutTo s a n).length ≤ n + 1 := by
  induction n with
  | zero => exact ⟨Nat.le_refl _, Nat.le_refl _⟩
  | succ n ih => rw [cut_succ]; unfold cutStep; split <;> simp <;> omega
theorem strOf_size (x : Int) : (strOfNums [x]).size = 1 := rfl
theorem cut_sizes (s : ByteArray) (a : Int) (n : Nat) : ∀ x ∈ cutTo s a n, x.size ≤ n := by
  induction n with
  | zero => intro x hx; have : x = ⟨#[]⟩ := by simpa [cutTo] using hx
            rw [this]; exact Nat.le_refl _
  | succ n ih =>
    rw [cut_succ]; unfold cutStep
    have h1 := (cut_len s a n).1
    split
    · intro x hx
      rcases List.mem_append.1 hx with hx | hx
      · exact Nat.le_succ_of_le (ih x hx)
      · have : x = ⟨#[]⟩ := by simpa using hx
        rw [this]; exact Nat.zero_le _
    · intro x hx
      rcases List.mem_or_eq_of_mem_set hx with hx | hx
      · exact Nat.le_succ_of_le (ih x hx)
      · rw [hx, ByteArray.size_append, strOf_size]
        have : rdOf ByteArray.empty (cutTo s a n) (((cutTo s a n).length : Int) - 1) ∈ cutTo s a n := by
          unfold rdOf
          rw [List.getD_eq_getElem?_getD, List.getElem?_eq_getElem (by omega)]
          exact List.getElem_mem _
        have := ih _ this
        omega
def CI (w : World) (v : Value) (out : List ByteArray) (wr : World) : Prop := Kd.R Kd.string 9 wr w.heap.size (fun _ => True) v out ∧ Below w.heap.size w wr
theorem cut_walk (a0 : ByteArray) (a1 : Int) (w : World) (hm : a0.size ≤ 1000) :
    Calls Try.prog 112 #[.string a0, .int .u8 a1] w fun e w' => ∃ v0_ : Value, e = .returned (v0_) ∧ Kd.R Kd.string 9 w' w.heap.size (fun _ => True) v0_ (cutTo a0 a1 a0.size) ∧ Below w.heap.size w w' := by
  go_enter Try.func112, Try.ntmps112
  go_wp2_with (first | ((with_reducible refine gate_dst (N := 7) rfl ?_); refine Kd.R_lit Kd.string _ 9 ?hg (N := 7) ?hd (xs := ([(⟨#[]⟩ : ByteArray)] : List ByteArray)) (inner := [.string (⟨#[]⟩ : ByteArray)]) (ok := fun _ => True) (okp := fun _ => True) ?hr ?hp (fun _ hk => hk) trivial (Below.refl _ _) (Nat.le_refl _) (by simp) ?_; (case hd => rfl); (case hg => rfl); (case hr => first | (go_simp; done) | (go_simp; rfl)); (case hp => exact (Reps.one (show Kd.M Kd.string _ _ _ (⟨#[]⟩ : ByteArray) [.string (⟨#[]⟩ : ByteArray)] from rfl) (Reps.none _ _))); intro v1 w1 h1 b1 _ _; have HS : Aside0 (CI w v1 (cutTo a0 a1 0) w1) := ⟨h1, b1⟩; clear h1 b1))
  go_loopg [5, 6] a0.size (fun gg s5 s6 wr => ∃ i : Nat, i ≤ a0.size ∧ a0.size - i ≤ gg ∧ s6 = .int .i64 (i : Int) ∧ Aside0 (CI w s5 (cutTo a0 a1 i) wr))
  case atStart => exact ⟨0, Nat.zero_le _, Nat.sub_le _ _, rfl, HS⟩
  case round =>
    clear HS
    obtain ⟨i, hi, hgg, rfl, HS⟩ := hrel
    by_cases hlt : i < a0.size
    · have hltz : (i : Int) < (a0.size : Int) := by omega
      have h0z : (0 : Int) ≤ (i : Int) := by omega
      have hcl := cut_len a0 a1 i
      have hbt : bt a0 (i : Int) = ((a0[i]'hlt).toNat : Int) := by unfold bt; rw [dif_pos (by simpa using hlt)]; rfl
      obtain ⟨out, hout⟩ : ∃ out, out = cutTo a0 a1 i := ⟨_, rfl⟩
      have hsc := cut_succ a0 a1 i
      rw [← hout] at hcl HS hsc
      obtain ⟨N, hN⟩ : ∃ N, out.length = N + 1 := ⟨out.length - 1, by omega⟩
      have HSC := Aside0.mk hsc
      have HBT := Aside0.mk hbt
      have HN := Aside0.mk hN
      have hN2 : N < 1000 := by omega
      by_cases hq : bt a0 i = a1
      · have e1 : ((a0[i].toNat : Int) == a1) = true := by rw [← hbt]; simpa using hq
        have HC : Aside0 (cutTo a0 a1 (i + 1) = out ++ [⟨#[]⟩]) := ⟨by rw [hsc]; unfold cutStep; rw [if_pos hq]⟩
        obtain ⟨k1, k2⟩ := HS.out
        obtain ⟨A5, c5, rfl⟩ := Kd.R_slice k1
        obtain ⟨i0, hi_, hz0, hz1, hz2⟩ := info_parts info9
        have K3 := Aside0.mk (Kd.own_of_R k1)
        have K2 := Aside0.mk k2
        have hol := hcl.2
        clear hq hbt hout hsc hN k1 k2 HS hcl
        go_wp2_with (at_builtin; refine wpList_append_own _ rfl _ _ 97 rfl w.heap.size 9 i0 (.string ⟨#[]⟩) 1 16 Try.underlying97 hi_ hz0 hz1 hz2 rfl (by decide) _ _ _ rfl (K3.out.alloc _) ⟨_, 0, none⟩ 1 1 [.string ⟨#[]⟩] rfl rfl (cell_one_new _ _ _) (by simp [Value.oneCell']) (by unfold maxLen; omega) (by omega) (by have := K2.out.size; simp; omega) ?_; intro v' w9 hown' hgrow _)
        go_roundg (a0.size - (i + 1))
        case measure => omega
        case rel =>
          have hB9 := (below_alloc K2.out _).grown hgrow (below_alloc K2.out _).size (fun b hb => own_base K3.out b hb)
          refine ⟨i + 1, by omega, by omega, by go_num, ⟨?_, hB9⟩⟩
          rw [HC.out]
          refine Kd.R_of_own ?_ (fun _ _ => trivial)
          have e : encs Value.string (out ++ [⟨#[]⟩]) = encs Value.string out ++ [.string ⟨#[]⟩] := by simp [encs]
          rw [e, List.length_append]
          exact hown'
      · have e1 : ((a0[i].toNat : Int) == a1) = false := by rw [← hbt]; simpa using hq
        obtain ⟨k1, k2⟩ := HS.out
        obtain ⟨g, cap, e5, gb, gl, cl, gh⟩ := Kd.R_form k1 (by omega)
        subst e5
        obtain ⟨x0, x1⟩ := Kd.R_celln ByteArray.empty k1 (N : Int) (by omega) (by omega)
        rw [Int.toNat_natCast] at x0 x1
        have K1 := Aside0.mk k1
        have K2 := Aside0.mk k2
        rw [hN]
        have GB := Aside0.mk gb
        have HC : Aside0 (cutTo a0 a1 (i + 1) = out.set N (rdOf ByteArray.empty out (N : Int) ++ strOfNums [(a0[i].toNat : Int)])) := ⟨by
          rw [hsc]; unfold cutStep; rw [if_neg hq, hN, hbt, show ((N + 1 : Nat) : Int) - 1 = (N : Int) by omega]; rfl⟩
        clear hq hbt hsc hN k1 k2 HS gb gl gh hcl
        have hsz : (rdOf ByteArray.empty out (N : Int)).size ≤ 1000 := by
          have := cut_sizes a0 a1 i (rdOf ByteArray.empty out (N : Int)) (by
            rw [← hout]; unfold rdOf
            rw [List.getD_eq_getElem?_getD, List.getElem?_eq_getElem (by rw [Int.toNat_natCast]; have := HN.out; omega)]
            exact List.getElem_mem _)
          omega
        obtain ⟨last, hlast⟩ : ∃ last, last = rdOf ByteArray.empty out (N : Int) := ⟨_, rfl⟩
        rw [← hlast] at hsz x0
        have HLA := Aside0.mk hlast
        have hso := strOf_size (a0[i].toNat : Int)
        have hs1 : decide (last.size + (strOfNums [(a0[i].toNat : Int)]).size ≤ 9223372036854775807) = true := decide_eq_true (by rw [hso]; omega)
        have hs2 : (9223372036854775807 < last.size + (strOfNums [(a0[i].toNat : Int)]).size) = False := eq_false (by rw [hso]; omega)
        have hs3 : (last.size + (strOfNums [(a0[i].toNat : Int)]).size ≤ 9223372036854775807) = True := eq_true (by rw [hso]; omega)
        have hcv : (convert 36 9 (.slice (some ⟨wr.heap.size, 0, none⟩) 1 1)).run Try.prog ((wr.alloc (.cells #[.int .u8 (a0[i].toNat : Int)] 5)).drew) = .ok (.string (strOfNums [(a0[i].toNat : Int)])) ((wr.alloc (.cells #[.int .u8 (a0[i].toNat : Int)] 5)).drew) := by
          have hr : ReadsInt ((wr.alloc (.cells #[.int .u8 (a0[i].toNat : Int)] 5)).drew) .u8 (some ⟨wr.heap.size, 0, none⟩) 1 [(a0[i].toNat : Int)] := ⟨rfl, by omega, fun _ => ⟨_, rfl, fun j hj => by
            obtain rfl : j = 0 := by omega
            exact (blk_cell (blk_new wr (.cells #[.int .u8 (a0[i].toNat : Int)] 5)) 0).trans rfl⟩⟩
          exact string_of_reads Try.underlying36 Try.underlying5 Try.underlying9 hr
        have hbl := below_alloc (Below.refl wr.heap.size wr) (.cells #[.int .u8 (a0[i].toNat : Int)] 5)
        have p0 := (hbl.cell (World.block_lt_of_cell? wr _ x0)).trans x0
        have p1 := (hbl.frozen (World.block_lt_of_cell? wr _ x0)).trans x1
        clear hbl hlast hso hsz hout
        go_wp2
        go_region
        have HC2 : Aside0 (CI w (.slice (some ⟨g, 0, none⟩) (N + 1) cap) (cutTo a0 a1 (i + 1)) (((wr.alloc (.cells #[.int .u8 (a0[i].toNat : Int)] 5)).setCell ⟨g, N, none⟩ (.string (last ++ strOfNums [(a0[i].toNat : Int)]))).drew)) := ⟨by
          have h1 := (Kd.R_putg (Kd.R_alloc K1.out (.cells #[.int .u8 (a0[i].toNat : Int)] 5)) (N : Int) (last ++ strOfNums [(a0[i].toNat : Int)])).1
          rw [Int.toNat_natCast, HN.out] at h1
          rw [HC.out, ← HLA.out]
          exact ⟨Kd.R_drew h1, below_drew (below_set (below_alloc K2.out _) GB.out)⟩⟩
        go_wp2
        go_roundg (a0.size - (i + 1))
        case measure => omega
        case rel => exact ⟨i + 1, by omega, by omega, by go_num, HC2⟩
    · have hltz : ¬ (i : Int) < (a0.size : Int) := by omega
      obtain rfl : i = a0.size := by omega
      go_wp2
      go_ret
      exact ⟨_, rfl, HS.out.1, HS.out.2⟩
theorem spec_l2Cut.calls (a0 : ByteArray) (a1 : Int) (r : List ByteArray) (w : World) (h : cutV.f a0 a1 = some r) :
    Calls Try.prog 112 #[.string a0, .int .u8 a1] w fun e w' => ∃ v0_ : Value, e = .returned (v0_) ∧ Kd.R Kd.string 9 w' w.heap.size (fun _ => True) v0_ r ∧ Below w.heap.size w w' := by
  unfold cutV.f at h
  split at h
  · obtain rfl := Option.some.inj h
    exact cut_walk a0 a1 w (by assumption)
  · cases h
end Go.Proofs.Ytmklpbmlgjkbiaa.PS
end
section
namespace Go.Proofs.Ytmklpbmlgjkbiaa.PO
open Go.RowKit Go.Proofs.YtmklpbmlgjkbiaaW.PrintWords Go.Proofs.YtmklpbmlgjkbiaaW.PrintLast Go.Proofs.YtmklpbmlgjkbiaaW.PrintMore Go.Proofs.Ytmklpbmlgjkbiaa.PS
attribute [local go_sem] max2_int min2_int max_two min_two max_three min_three max_four min_four   -- for this text's walks alone
def errW : Option Int → Value
 | none => .nilIface
 | some c => .iface 0 (.int .i64 c)
theorem errW_none : errW none = .nilIface := rfl
theorem errW_some (c : Int) : errW (some c) = .iface 0 (.int .i64 c) := rfl
theorem info5 : (Try.prog.info? 5).map (fun i => (i.zero, i.size, i.bytes)) = some (some (.int .u8 0), 1, 1) := by kernel_rfl
theorem info9 : (Try.prog.info? 9).map (fun i => (i.zero, i.size, i.bytes)) = some (some (.string ⟨#[]⟩), 1, 16) := by kernel_rfl
end Go.Proofs.Ytmklpbmlgjkbiaa.PO
end
section
namespace Go.Proofs.Ytmklpbmlgjkbiaa.PT
open Go.RowKit Go.Proofs.YtmklpbmlgjkbiaaW.PrintWords Go.Proofs.YtmklpbmlgjkbiaaW.PrintLast Go.Proofs.YtmklpbmlgjkbiaaW.PrintMore Go.Proofs.Ytmklpbmlgjkbiaa.PS Go.Proofs.Ytmklpbmlgjkbiaa.PO
attribute [local go_sem] max2_int min2_int max_two min_two max_three min_three max_four min_four   -- for this text's walks alone
def errW : Option Int → Value
 | none => .nilIface
 | some c => .iface 0 (.int .i64 c)
theorem errW_none : errW none = .nilIface := rfl
theorem errW_some (c : Int) : errW (some c) = .iface 0 (.int .i64 c) := rfl
end Go.Proofs.Ytmklpbmlgjkbiaa.PT
end
section
namespace Go.Proofs.Ytmklpbmlgjkbiaa.PO
open Go.RowKit Go.Proofs.YtmklpbmlgjkbiaaW.PrintWords Go.Proofs.YtmklpbmlgjkbiaaW.PrintLast Go.Proofs.YtmklpbmlgjkbiaaW.PrintMore Go.Proofs.Ytmklpbmlgjkbiaa.PS
attribute [local go_sem] max2_int min2_int max_two min_two max_three min_three max_four min_four   -- for this text's walks alone
def spec_l2Names.f  : Option (List ByteArray) := some (([(⟨#[]⟩ : ByteArray), (⟨#[115, 101, 116]⟩ : ByteArray), (⟨#[109, 111, 118, 101]⟩ : ByteArray), (⟨#[97, 100, 100]⟩ : ByteArray), (⟨#[115, 101, 108, 102]⟩ : ByteArray), (⟨#[98, 101, 103, 105, 110]⟩ : ByteArray), (⟨#[115, 101, 110, 100]⟩ : ByteArray), (⟨#[116, 97, 107, 101]⟩ : ByteArray), (⟨#[97, 102, 116, 101, 114]⟩ : ByteArray), (⟨#[103, 111]⟩ : ByteArray), (⟨#[105, 102]⟩ : ByteArray), (⟨#[108, 105, 110, 107]⟩ : ByteArray), (⟨#[119, 97, 116, 99, 104]⟩ : ByteArray), (⟨#[116, 114, 97, 112]⟩ : ByteArray), (⟨#[101, 110, 100]⟩ : ByteArray)] : List ByteArray))
theorem spec_l2Names.calls  (r : List ByteArray) (w : World) (h : spec_l2Names.f  = some r) :
  Calls Try.prog 118 #[] w fun e w' => ∃ v0_ : Value, e = .returned (v0_) ∧ Kd.R Kd.string 9 w' w.heap.size (fun _ => True) v0_ r ∧ Below w.heap.size w w' := by
 have HB := Aside0.mk (Below.refl w.heap.size w)
 have H : (some (([(⟨#[]⟩ : ByteArray), (⟨#[115, 101, 116]⟩ : ByteArray), (⟨#[109, 111, 118, 101]⟩ : ByteArray), (⟨#[97, 100, 100]⟩ : ByteArray), (⟨#[115, 101, 108, 102]⟩ : ByteArray), (⟨#[98, 101, 103, 105, 110]⟩ : ByteArray), (⟨#[115, 101, 110, 100]⟩ : ByteArray), (⟨#[116, 97, 107, 101]⟩ : ByteArray), (⟨#[97, 102, 116, 101, 114]⟩ : ByteArray), (⟨#[103, 111]⟩ : ByteArray), (⟨#[105, 102]⟩ : ByteArray), (⟨#[108, 105, 110, 107]⟩ : ByteArray), (⟨#[119, 97, 116, 99, 104]⟩ : ByteArray), (⟨#[116, 114, 97, 112]⟩ : ByteArray), (⟨#[101, 110, 100]⟩ : ByteArray)] : List ByteArray))) = some r := h
 clear h
 obtain ⟨y101, hy101⟩ : ∃ y_ : List ByteArray, y_ = (([(⟨#[]⟩ : ByteArray), (⟨#[115, 101, 116]⟩ : ByteArray), (⟨#[109, 111, 118, 101]⟩ : ByteArray), (⟨#[97, 100, 100]⟩ : ByteArray), (⟨#[115, 101, 108, 102]⟩ : ByteArray), (⟨#[98, 101, 103, 105, 110]⟩ : ByteArray), (⟨#[115, 101, 110, 100]⟩ : ByteArray), (⟨#[116, 97, 107, 101]⟩ : ByteArray), (⟨#[97, 102, 116, 101, 114]⟩ : ByteArray), (⟨#[103, 111]⟩ : ByteArray), (⟨#[105, 102]⟩ : ByteArray), (⟨#[108, 105, 110, 107]⟩ : ByteArray), (⟨#[119, 97, 116, 99, 104]⟩ : ByteArray), (⟨#[116, 114, 97, 112]⟩ : ByteArray), (⟨#[101, 110, 100]⟩ : ByteArray)] : List ByteArray)) := ⟨_, rfl⟩
 replace H : (some y101) = some r := by first | (rw [hy101]; with_reducible exact H) | (have H2_ := (Option.bind_some _ _).symm.trans H; rw [hy101]; with_reducible exact H2_) | (have H2_ := (Option.bind_some _ _).symm.trans H; with_reducible exact H2_) | with_reducible exact H | (rw [hy101]; exact H) | exact H
 have Ny101 := Aside0.mk hy101
 clear hy101
 obtain rfl := Option.some.inj H
 go_enter Try.func118, Try.ntmps118
 go_wp2_with (first | ((with_reducible refine gate_dst (N := 1) rfl ?_); refine Kd.R_lit Kd.string _ 9 ?hg (N := 1) ?hd (xs := ([(⟨#[]⟩ : ByteArray), (⟨#[115, 101, 116]⟩ : ByteArray), (⟨#[109, 111, 118, 101]⟩ : ByteArray), (⟨#[97, 100, 100]⟩ : ByteArray), (⟨#[115, 101, 108, 102]⟩ : ByteArray), (⟨#[98, 101, 103, 105, 110]⟩ : ByteArray), (⟨#[115, 101, 110, 100]⟩ : ByteArray), (⟨#[116, 97, 107, 101]⟩ : ByteArray), (⟨#[97, 102, 116, 101, 114]⟩ : ByteArray), (⟨#[103, 111]⟩ : ByteArray), (⟨#[105, 102]⟩ : ByteArray), (⟨#[108, 105, 110, 107]⟩ : ByteArray), (⟨#[119, 97, 116, 99, 104]⟩ : ByteArray), (⟨#[116, 114, 97, 112]⟩ : ByteArray), (⟨#[101, 110, 100]⟩ : ByteArray)] : List ByteArray)) (inner := [.string (⟨#[]⟩ : ByteArray), .string (⟨#[115, 101, 116]⟩ : ByteArray), .string (⟨#[109, 111, 118, 101]⟩ : ByteArray), .string (⟨#[97, 100, 100]⟩ : ByteArray), .string (⟨#[115, 101, 108, 102]⟩ : ByteArray), .string (⟨#[98, 101, 103, 105, 110]⟩ : ByteArray), .string (⟨#[115, 101, 110, 100]⟩ : ByteArray), .string (⟨#[116, 97, 107, 101]⟩ : ByteArray), .string (⟨#[97, 102, 116, 101, 114]⟩ : ByteArray), .string (⟨#[103, 111]⟩ : ByteArray), .string (⟨#[105, 102]⟩ : ByteArray), .string (⟨#[108, 105, 110, 107]⟩ : ByteArray), .string (⟨#[119, 97, 116, 99, 104]⟩ : ByteArray), .string (⟨#[116, 114, 97, 112]⟩ : ByteArray), .string (⟨#[101, 110, 100]⟩ : ByteArray)]) (ok := fun _ => True) (okp := fun _ => True) ?hr ?hp (fun _ hk => hk) trivial (Below.refl _ _) (Nat.le_refl _) (by simp) ?_; (case hd => rfl); (case hg => rfl); (case hr => first | (go_simp; done) | (go_simp; rfl)); (case hp => exact (Reps.one (show Kd.M Kd.string _ _ _ (⟨#[]⟩ : ByteArray) [.string (⟨#[]⟩ : ByteArray)] from rfl) (Reps.one (show Kd.M Kd.string _ _ _ (⟨#[115, 101, 116]⟩ : ByteArray) [.string (⟨#[115, 101, 116]⟩ : ByteArray)] from rfl) (Reps.one (show Kd.M Kd.string _ _ _ (⟨#[109, 111, 118, 101]⟩ : ByteArray) [.string (⟨#[109, 111, 118, 101]⟩ : ByteArray)] from rfl) (Reps.one (show Kd.M Kd.string _ _ _ (⟨#[97, 100, 100]⟩ : ByteArray) [.string (⟨#[97, 100, 100]⟩ : ByteArray)] from rfl) (Reps.one (show Kd.M Kd.string _ _ _ (⟨#[115, 101, 108, 102]⟩ : ByteArray) [.string (⟨#[115, 101, 108, 102]⟩ : ByteArray)] from rfl) (Reps.one (show Kd.M Kd.string _ _ _ (⟨#[98, 101, 103, 105, 110]⟩ : ByteArray) [.string (⟨#[98, 101, 103, 105, 110]⟩ : ByteArray)] from rfl) (Reps.one (show Kd.M Kd.string _ _ _ (⟨#[115, 101, 110, 100]⟩ : ByteArray) [.string (⟨#[115, 101, 110, 100]⟩ : ByteArray)] from rfl) (Reps.one (show Kd.M Kd.string _ _ _ (⟨#[116, 97, 107, 101]⟩ : ByteArray) [.string (⟨#[116, 97, 107, 101]⟩ : ByteArray)] from rfl) (Reps.one (show Kd.M Kd.string _ _ _ (⟨#[97, 102, 116, 101, 114]⟩ : ByteArray) [.string (⟨#[97, 102, 116, 101, 114]⟩ : ByteArray)] from rfl) (Reps.one (show Kd.M Kd.string _ _ _ (⟨#[103, 111]⟩ : ByteArray) [.string (⟨#[103, 111]⟩ : ByteArray)] from rfl) (Reps.one (show Kd.M Kd.string _ _ _ (⟨#[105, 102]⟩ : ByteArray) [.string (⟨#[105, 102]⟩ : ByteArray)] from rfl) (Reps.one (show Kd.M Kd.string _ _ _ (⟨#[108, 105, 110, 107]⟩ : ByteArray) [.string (⟨#[108, 105, 110, 107]⟩ : ByteArray)] from rfl) (Reps.one (show Kd.M Kd.string _ _ _ (⟨#[119, 97, 116, 99, 104]⟩ : ByteArray) [.string (⟨#[119, 97, 116, 99, 104]⟩ : ByteArray)] from rfl) (Reps.one (show Kd.M Kd.string _ _ _ (⟨#[116, 114, 97, 112]⟩ : ByteArray) [.string (⟨#[116, 114, 97, 112]⟩ : ByteArray)] from rfl) (Reps.one (show Kd.M Kd.string _ _ _ (⟨#[101, 110, 100]⟩ : ByteArray) [.string (⟨#[101, 110, 100]⟩ : ByteArray)] from rfl) (Reps.none _ _))))))))))))))))); intro v102 w1 ho2 hb hg_ hnew_; clear hg_ hnew_; (first | rw [← Ny101.out] at ho2 | (simp only [Int.reduceToNat] at ho2; rw [← Ny101.out] at ho2)); have HO103 := Aside0.mk (Kd.R_lower ho2 (below_size (by exact bU HB.out))); replace HB := Aside0.mk (below_step (by exact bU HB.out) hb); clear hb ho2))
 go_ret
 exact ⟨_, by first | rfl | (simp [errW_none, errW_some] <;> rfl) | (simp [*, errW_none, errW_some] <;> rfl), by exact rU HO103.out, by exact bU HB.out⟩
mutual
def spec_l1Dec.j0 : Nat → ByteArray → Int → Bool → Option (Int × Bool)
 | 0, _, _, _ => none
 | k + 1, x0, x4, x14 => if x14 = true then (if 1 ≤ (x0.size : Int) then (spec_l1Dec.j1 k (x0.extract 1 x0.size) (-1)) else (none)) else (spec_l1Dec.j1 k x0 x4)
def spec_l1Dec.j1 : Nat → ByteArray → Int → Option (Int × Bool)
 | 0, _, _ => none
 | k + 1, x0, x4 => (spec_l6In.f (x0.size : Int) 1 2).bind fun t104 => (if t104 = true then (spec_l1Dec.l0 k x0 x4 0 0) else (some (0, false)))
def spec_l1Dec.l0 : Nat → ByteArray → Int → Int → Int → Option (Int × Bool)
 | 0, _, _, _, _ => none
 | k + 1, x0, x4, x5, x6 => if x6 < (x0.size : Int) then (if 0 ≤ x6 then (if (bt x0 x6) < 48 then (spec_l1Dec.j3 k x0 x4 x5 x6 true) else (spec_l1Dec.j3 k x0 x4 x5 x6 (decide ((bt x0 x6) > 57)))) else (none)) else (some (wrap64 (x4 * x5), true))
def spec_l1Dec.j3 : Nat → ByteArray → Int → Int → Int → Bool → Option (Int × Bool)
 | 0, _, _, _, _, _ => none
 | k + 1, x0, x4, x5, x6, x36 => if x36 = true then (some (0, false)) else (if 0 ≤ x6 then (if x6 < (x0.size : Int) then (spec_l1Dec.l0 k x0 x4 (wrap64 ((wrap64 (10 * x5)) + (((bt x0 x6) - 48) % 256))) (wrap64 (x6 + 1))) else (none)) else (none))
end
def spec_l1Dec.f (k : Nat) (a0 : ByteArray) : Option (Int × Bool) := if (a0.size : Int) > 1 then (if 0 < (a0.size : Int) then (spec_l1Dec.j0 k a0 1 ((bt a0 0) == 45)) else (none)) else (spec_l1Dec.j0 k a0 1 false)
theorem spec_l1Dec.calls (k : Nat) (a0 : ByteArray) (r1 : Int) (r2 : Bool) (w : World) (h : spec_l1Dec.f k a0 = some (r1, r2)) :
  Calls Try.prog 119 #[.string a0] w fun e w' => e = .returned (.tuple #[.int .i64 r1, .bool r2]) ∧ Drawn0 w w' := by
 have H : (if (a0.size : Int) > 1 then (if 0 < (a0.size : Int) then (spec_l1Dec.j0 k a0 1 ((bt a0 0) == 45)) else (none)) else (spec_l1Dec.j0 k a0 1 false)) = some (r1, r2) := h
 clear h
 have HC2 := Aside0.mk H
 clear H
 go_enter Try.func119, Try.ntmps119
 go_upto_region 2 with (fail)
 go_cut [14] (fun v14 wc => ∃ (kq : Nat) (x14_1 : Bool), v14 = .bool x14_1 ∧ Aside0 (spec_l1Dec.j0 kq a0 1 x14_1 = some (r1, r2)) ∧ Aside0 (kq ≤ k) ∧ Drawn0 w wc)
 case first =>
  have H := HC2.out
  clear HC2
  by_cases c3 : (a0.size : Int) > 1
  ·rw [if_pos c3] at H
   have c3b0 : decide (1 < (a0.size : Int)) = true := decide_eq_true c3
   have c3b1 : decide (1 < a0.size) = true := decide_eq_true (by omega)
   clear c3
   (first | rw [c3b0] | (simp only [i64_w, i32_w]; rw [c3b0]) | skip)
   by_cases c4 : 0 < (a0.size : Int)
   ·rw [if_pos c4] at H
    have c4b0 : decide (0 < (a0.size : Int)) = true := decide_eq_true c4
    have c4b1 : decide (0 < a0.size) = true := decide_eq_true (by omega)
    clear c4
    have H' := Aside0.mk H
    clear H
    have p5 : 0 ≤ (0 : Int) := (by omega)
    have q5 : 0 < a0.size := (by have : (0 : Int) < (a0.size : Int) := of_decide_eq_true (by assumption); omega)
    have hx5 : ∀ h : 0 < a0.size, ((a0[0]'h).toNat : Int) = bt a0 0 := bt_at a0 0
    clear p5
    have qi5 : (0 < (a0.size : Int)) = True := eq_true (of_decide_eq_true (by assumption))
    replace q5 := eq_true q5
    go_wp2
    go_meet
    case rel => exact ⟨_, (((bt a0 0) == 45)), (by first | rfl | (simp; done) | (simp [*]; done)), H', ⟨by first | omega | exact Nat.le_refl _⟩, by repeat (first | exact Drawn0.refl _ | apply Drawn0.step)⟩
   ·rw [if_neg c4] at H
    exact absurd H (by simp)
  ·rw [if_neg c3] at H
   have c3b0 : decide (1 < (a0.size : Int)) = false := decide_eq_false c3
   have c3b1 : decide (1 < a0.size) = false := decide_eq_false (by omega)
   clear c3
   (first | rw [c3b0] | (simp only [i64_w, i32_w]; rw [c3b0]) | skip)
   have H' := Aside0.mk H
   clear H
   go_wp2
   go_meet
   case rel => exact ⟨_, (false), (by first | rfl | (simp; done) | (simp [*]; done)), H', ⟨by first | omega | exact Nat.le_refl _⟩, by repeat (first | exact Drawn0.refl _ | apply Drawn0.step)⟩
 case rest =>
  clear HC2
  (try clear c1); (try clear p2); (try clear c3); (try clear c3b0); (try clear c3b1); (try clear c4); (try clear c4b0); (try clear c4b1); (try clear p5); (try clear q5); (try clear hx5); (try clear qi5); (try clear p5); (try clear q5)
  obtain ⟨kq, x14_1, rfl, HA, HJ1, ⟨mc1, rfl⟩⟩ := hcut
  cases kq with
  | zero => exact absurd HA.out (by simp [spec_l1Dec.j0])
  | succ kj1 =>
   have H := HA.out
   clear HA
   simp only [spec_l1Dec.j0] at H
   have HC6 := Aside0.mk H
   clear H
   go_upto_if 14 with (fail)
   go_cut [0, 4] (fun v0 v4 wc => ∃ (kq : Nat) (x0_5 : ByteArray) (x4_5 : Int), v0 = .string x0_5 ∧ v4 = .int .i64 x4_5 ∧ Aside0 (spec_l1Dec.j1 kq x0_5 x4_5 = some (r1, r2)) ∧ Aside0 (kq ≤ kj1) ∧ Drawn0 w wc)
   case first =>
    have H := HC6.out
    clear HC6
    by_cases c7 : x14_1 = true
    ·subst c7
     have H1 : (if 1 ≤ (a0.size : Int) then (spec_l1Dec.j1 kj1 (a0.extract 1 a0.size) (-1)) else (none)) = some (r1, r2) := by rw [if_pos rfl] at H; exact H
     clear H
     have H := H1
     clear H1
     by_cases c8 : 1 ≤ (a0.size : Int)
     ·rw [if_pos c8] at H
      have c8b0 := eq_true c8
      have c8b1 : decide (1 ≤ (a0.size : Int)) = true := decide_eq_true c8
      clear c8
      have H' := Aside0.mk H
      clear H
      go_wp2
      go_meet
      case rel => exact ⟨_, (a0.extract 1 a0.size), ((-1)), (by first | rfl | (simp; done) | (simp [*]; done)), (by first | rfl | (simp; done) | (simp [*]; done)), H', ⟨by have := HJ1.out; first | omega | exact Nat.le_refl _⟩, by repeat (first | exact Drawn0.refl _ | apply Drawn0.step)⟩
     ·rw [if_neg c8] at H
      exact absurd H (by simp)
    ·replace c7 := Bool.eq_false_iff.mpr c7
     subst c7
     have H1 : (spec_l1Dec.j1 kj1 a0 1) = some (r1, r2) := by rw [if_neg (show ¬ (false = true) by decide)] at H; exact H
     clear H
     have H := H1
     clear H1
     have H' := Aside0.mk H
     clear H
     go_wp2
     go_meet
     case rel => exact ⟨_, (a0), (1), (by first | rfl | (simp; done) | (simp [*]; done)), (by first | rfl | (simp; done) | (simp [*]; done)), H', ⟨by have := HJ1.out; first | omega | exact Nat.le_refl _⟩, by repeat (first | exact Drawn0.refl _ | apply Drawn0.step)⟩
   case rest =>
    clear HC6
    (try clear c1); (try clear p2); (try clear c3); (try clear c3b0); (try clear c3b1); (try clear c4); (try clear c4b0); (try clear c4b1); (try clear p5); (try clear q5); (try clear hx5); (try clear qi5); (try clear c7); (try clear c8); (try clear c8b0); (try clear c8b1); (try clear p2); (try clear p5); (try clear q5)
    obtain ⟨kq, x0_5, x4_5, rfl, rfl, HA, HJ5, ⟨mc5, rfl⟩⟩ := hcut
    cases kq with
    | zero => exact absurd HA.out (by simp [spec_l1Dec.j1])
    | succ kj5 =>
     have H := HA.out
     clear HA
     simp only [spec_l1Dec.j1] at H
     replace H := Option.bind_eq_some_iff.mp H
     obtain ⟨t104, A90, H⟩ := H
     replace H : (if t104 = true then (spec_l1Dec.l0 kj5 x0_5 x4_5 0 0) else (some (0, false))) = some (r1, r2) := H
     have A9 := Aside0.mk A90
     clear A90
     by_cases c10 : t104 = true
     ·subst c10
      have H1 : (spec_l1Dec.l0 kj5 x0_5 x4_5 0 0) = some (r1, r2) := by rw [if_pos rfl] at H; exact H
      clear H
      have H := H1
      clear H1
      have H' := Aside0.mk H
      clear H
      go_wp2_with (first | ((with_reducible refine gate_callee (f := 59) rfl ?_); refine goesL_ (some 19) rfl rfl Try.func59 (by kernel_rfl) rfl #[.int .i64 (x0_5.size : Int), .int .i64 1, .int .i64 2] rfl (by (try simp only [List.map_toArray, List.map_cons, List.map_nil]) <;> rfl) ?_; (with_reducible refine (spec_l6In.calls (x0_5.size : Int) 1 2 true _ A9.out).mono ?_); rintro e w' ⟨rfl, ⟨nd, rfl⟩⟩; refine ⟨_, rfl, ?_⟩))
      go_loopg [5, 6] kj5 (fun kq v5 v6 w' => ∃ (x5_3 : Int) (x6_3 : Int), v5 = .int .i64 x5_3 ∧ v6 = .int .i64 x6_3 ∧ Aside0 (spec_l1Dec.l0 kq x0_5 x4_5 x5_3 x6_3 = some (r1, r2)) ∧ Aside0 (kq ≤ kj5) ∧ Drawn0 w w')
      case atStart => exact ⟨(0), (0), (by first | rfl | (simp; done) | (simp [*]; done)), (by first | rfl | (simp; done) | (simp [*]; done)), H', ⟨Nat.le_refl _⟩, by repeat (first | exact Drawn0.refl _ | apply Drawn0.step)⟩
      case round =>
       clear H'
       (try clear c1); (try clear p2); (try clear c3); (try clear c3b0); (try clear c3b1); (try clear c4); (try clear c4b0); (try clear c4b1); (try clear c5); (try clear p5); (try clear q5); (try clear hx5); (try clear qi5); (try clear c7); (try clear c8); (try clear c8b0); (try clear c8b1); (try clear c10); (try clear p2); (try clear p5); (try clear q5)
       obtain ⟨x5_3, x6_3, rfl, rfl, HA, HK3, ⟨m3, rfl⟩⟩ := hrel
       cases gk with
       | zero => exact absurd HA.out (by simp [spec_l1Dec.l0])
       | succ k3 =>
        have H := HA.out
        clear HA
        simp only [spec_l1Dec.l0] at H
        by_cases c11 : x6_3 < (x0_5.size : Int)
        ·rw [if_pos c11] at H
         have c11b0 : decide (x6_3 < (x0_5.size : Int)) = true := decide_eq_true c11
         clear c11
         have HC12 := Aside0.mk H
         clear H
         go_upto_region 11 with (fail)
         go_cut [36] (fun v36 wc => ∃ (kq : Nat) (x36_11 : Bool), v36 = .bool x36_11 ∧ Aside0 (spec_l1Dec.j3 kq x0_5 x4_5 x5_3 x6_3 x36_11 = some (r1, r2)) ∧ Aside0 (kq ≤ k3) ∧ Drawn0 w wc)
         case first =>
          have H := HC12.out
          clear HC12
          by_cases c13 : 0 ≤ x6_3
          ·rw [if_pos c13] at H
           have c13b0 : decide (0 ≤ x6_3) = true := decide_eq_true c13
           clear c13
           (first | rw [c13b0] | (simp only [i64_w, i32_w]; rw [c13b0]) | skip)
           by_cases c15 : (bt x0_5 x6_3) < 48
           ·rw [if_pos c15] at H
            have c15b0 : decide ((bt x0_5 x6_3) < 48) = true := decide_eq_true c15
            clear c15
            have H' := Aside0.mk H
            clear H
            have p14 : 0 ≤ (x6_3 : Int) := of_decide_eq_true (by assumption)
            have q14 : x6_3 < (x0_5.size : Int) := of_decide_eq_true (by assumption)
            have hx14 := bt_at x0_5 x6_3
            replace p14 := eq_true p14
            replace q14 := eq_true q14
            go_wp2
            go_meet
            case rel => exact ⟨_, (true), (by first | rfl | (simp; done) | (simp [*]; done)), H', ⟨by have := HJ1.out; have := HJ5.out; have := HK3.out; first | omega | exact Nat.le_refl _⟩, by repeat (first | exact Drawn0.refl _ | apply Drawn0.step)⟩
           ·rw [if_neg c15] at H
            have c15b0 : decide ((bt x0_5 x6_3) < 48) = false := decide_eq_false c15
            clear c15
            have H' := Aside0.mk H
            clear H
            have p14 : 0 ≤ (x6_3 : Int) := of_decide_eq_true (by assumption)
            have q14 : x6_3 < (x0_5.size : Int) := of_decide_eq_true (by assumption)
            have hx14 := bt_at x0_5 x6_3
            replace p14 := eq_true p14
            replace q14 := eq_true q14
            have p16 : 0 ≤ (x6_3 : Int) := of_decide_eq_true (by assumption)
            have q16 : x6_3 < (x0_5.size : Int) := of_decide_eq_true (by assumption)
            have hx16 := bt_at x0_5 x6_3
            replace p16 := eq_true p16
            replace q16 := eq_true q16
            go_wp2
            go_meet
            case rel => exact ⟨_, (decide ((bt x0_5 x6_3) > 57)), (by first | rfl | (simp; done) | (simp [*]; done)), H', ⟨by have := HJ1.out; have := HJ5.out; have := HK3.out; first | omega | exact Nat.le_refl _⟩, by repeat (first | exact Drawn0.refl _ | apply Drawn0.step)⟩
          ·rw [if_neg c13] at H
           exact absurd H (by simp)
         case rest =>
          clear HC12
          (try clear c1); (try clear p1); (try clear q1); (try clear hx1); (try clear p2); (try clear c3); (try clear c3b0); (try clear c3b1); (try clear c4); (try clear c4b0); (try clear c4b1); (try clear c5); (try clear p5); (try clear q5); (try clear hx5); (try clear qi5); (try clear c7); (try clear c8); (try clear c8b0); (try clear c8b1); (try clear c10); (try clear c11); (try clear c11b0); (try clear c13); (try clear c13b0); (try clear p14); (try clear q14); (try clear hx14); (try clear c15); (try clear c15b0); (try clear p16); (try clear q16); (try clear hx16); (try clear p14); (try clear p16); (try clear p2); (try clear p5); (try clear q14); (try clear q16); (try clear q5)
          obtain ⟨kq, x36_11, rfl, HA, HJ11, ⟨mc11, rfl⟩⟩ := hcut
          cases kq with
          | zero => exact absurd HA.out (by simp [spec_l1Dec.j3])
          | succ kj11 =>
           have H := HA.out
           clear HA
           simp only [spec_l1Dec.j3] at H
           by_cases c17 : x36_11 = true
           ·subst c17
            have H1 : (some (0, false)) = some (r1, r2) := by rw [if_pos rfl] at H; exact H
            clear H
            have H := H1
            clear H1
            simp only [Option.some.injEq, Prod.mk.injEq] at H
            obtain ⟨rfl, rfl⟩ := H
            go_wp2
            go_ret2
            exact ⟨by first | rfl | (simp; done) | (simp [*]; done), by repeat (first | exact Drawn0.refl _ | apply Drawn0.step)⟩
           ·replace c17 := Bool.eq_false_iff.mpr c17
            subst c17
            have H1 : (if 0 ≤ x6_3 then (if x6_3 < (x0_5.size : Int) then (spec_l1Dec.l0 kj11 x0_5 x4_5 (wrap64 ((wrap64 (10 * x5_3)) + (((bt x0_5 x6_3) - 48) % 256))) (wrap64 (x6_3 + 1))) else (none)) else (none)) = some (r1, r2) := by rw [if_neg (show ¬ (false = true) by decide)] at H; exact H
            clear H
            have H := H1
            clear H1
            by_cases c18 : 0 ≤ x6_3
            ·rw [if_pos c18] at H
             have c18b0 : decide (0 ≤ x6_3) = true := decide_eq_true c18
             clear c18
             by_cases c19 : x6_3 < (x0_5.size : Int)
             ·rw [if_pos c19] at H
              have c19b0 : decide (x6_3 < (x0_5.size : Int)) = true := decide_eq_true c19
              clear c19
              have H' := Aside0.mk H
              clear H
              have p20 : 0 ≤ (x6_3 : Int) := of_decide_eq_true (by assumption)
              have q20 : x6_3 < (x0_5.size : Int) := of_decide_eq_true (by assumption)
              have hx20 := bt_at x0_5 x6_3
              replace p20 := eq_true p20
              replace q20 := eq_true q20
              go_wp2
              go_roundg kj11
              case measure => have := HJ1.out; have := HJ5.out; have := HK3.out; have := HJ11.out; omega
              case rel => exact ⟨(wrap64 ((wrap64 (10 * x5_3)) + (((bt x0_5 x6_3) - 48) % 256))), (wrap64 (x6_3 + 1)), (by first | rfl | (simp; done) | (simp [*]; done)), (by first | rfl | (simp; done) | (simp [*]; done)), H', ⟨by have := HJ1.out; have := HJ5.out; have := HK3.out; have := HJ11.out; omega⟩, by repeat (first | exact Drawn0.refl _ | apply Drawn0.step)⟩
             ·rw [if_neg c19] at H
              exact absurd H (by simp)
            ·rw [if_neg c18] at H
             exact absurd H (by simp)
        ·rw [if_neg c11] at H
         have c11b0 : decide (x6_3 < (x0_5.size : Int)) = false := decide_eq_false c11
         clear c11
         simp only [Option.some.injEq, Prod.mk.injEq] at H
         obtain ⟨rfl, rfl⟩ := H
         go_wp2
         go_ret2
         exact ⟨by first | rfl | (simp; done) | (simp [*]; done), by repeat (first | exact Drawn0.refl _ | apply Drawn0.step)⟩
     ·replace c10 := Bool.eq_false_iff.mpr c10
      subst c10
      have H1 : (some (0, false)) = some (r1, r2) := by rw [if_neg (show ¬ (false = true) by decide)] at H; exact H
      clear H
      have H := H1
      clear H1
      simp only [Option.some.injEq, Prod.mk.injEq] at H
      obtain ⟨rfl, rfl⟩ := H
      go_wp2_with (first | ((with_reducible refine gate_callee (f := 59) rfl ?_); refine goesL_ (some 19) rfl rfl Try.func59 (by kernel_rfl) rfl #[.int .i64 (x0_5.size : Int), .int .i64 1, .int .i64 2] rfl (by (try simp only [List.map_toArray, List.map_cons, List.map_nil]) <;> rfl) ?_; (with_reducible refine (spec_l6In.calls (x0_5.size : Int) 1 2 false _ A9.out).mono ?_); rintro e w' ⟨rfl, ⟨nd, rfl⟩⟩; refine ⟨_, rfl, ?_⟩))
      go_ret2
      exact ⟨by first | rfl | (simp; done) | (simp [*]; done), by repeat (first | exact Drawn0.refl _ | apply Drawn0.step)⟩
def spec_l6Dec.f : Nat → Int → Option (ByteArray)
 | 0, _ => none
 | k + 1, a0 => if a0 < (-9223372036854775807) then (some (⟨#[45, 57, 50, 50, 51, 51, 55, 50, 48, 51, 54, 56, 53, 52, 55, 55, 53, 56, 48, 56]⟩ : ByteArray)) else (if a0 < 0 then ((spec_l6Dec.f k (wrap64 (-a0))).bind fun t105 => (if 1 + t105.size ≤ 9223372036854775807 then (some ((⟨#[45]⟩ : ByteArray) ++ t105)) else (none))) else (if a0 < 10 then (some (strOfNums (([(wrap64 (48 + a0)) % 256] : List Int)))) else ((spec_l6Dec.f k (wrap64 (Int.tdiv a0 10))).bind fun t109 => ((some (([(wrap64 (48 + (Int.tmod a0 10))) % 256] : List Int) : List Int)).bind fun y110 => (if t109.size + (strOfNums y110).size ≤ 9223372036854775807 then (some (t109 ++ (strOfNums y110))) else (none))))))
def spec_l6Dec.T7 : Bool × List (List Nat × List Nat) := (true, [([], []), ([0], [0]), ([1], [1]), ([], []), ([3], [3]), ([4], [4]), ([5], [5]), ([6], [6]), ([7], [7]), ([2, 8], [2, 8]), ([9, 2, 0, 1, 2, 3, 4, 5, 6, 7, 8, 9], [9])])
def spec_l6Dec.B7 : List Nat := [0, 1, 3, 0, 8, 24, 56, 120, 248, 511, 1023]
theorem spec_l6Dec.tab7 : rtab .any (opsOf Try.f125 7) = spec_l6Dec.T7 := by kernel_rfl
theorem spec_l6Dec.bits7 : waitsOk spec_l6Dec.T7.2 spec_l6Dec.B7 = true := by kernel_rfl
theorem spec_l6Dec.calls (k : Nat) : ∀ (a0 : Int) (r : ByteArray) (w : World) (h : spec_l6Dec.f k a0 = some r),
  Calls Try.prog 125 #[.int .i64 a0] w fun e w' => e = .returned (.string r) ∧ Below w.heap.size w w' := by
 induction k using Nat.strongRecOn with
 | _ k ih =>
 intro a0 r w h
 cases k with
 | zero => exact absurd h (by simp [spec_l6Dec.f])
 | succ k =>
 simp only [spec_l6Dec.f] at h
 have HB := Aside0.mk (Below.refl w.heap.size w)
 have H : (if a0 < (-9223372036854775807) then (some (⟨#[45, 57, 50, 50, 51, 51, 55, 50, 48, 51, 54, 56, 53, 52, 55, 55, 53, 56, 48, 56]⟩ : ByteArray)) else (if a0 < 0 then ((spec_l6Dec.f k (wrap64 (-a0))).bind fun t105 => (if 1 + t105.size ≤ 9223372036854775807 then (some ((⟨#[45]⟩ : ByteArray) ++ t105)) else (none))) else (if a0 < 10 then (some (strOfNums (([(wrap64 (48 + a0)) % 256] : List Int)))) else ((spec_l6Dec.f k (wrap64 (Int.tdiv a0 10))).bind fun t109 => ((some (([(wrap64 (48 + (Int.tmod a0 10))) % 256] : List Int) : List Int)).bind fun y110 => (if t109.size + (strOfNums y110).size ≤ 9223372036854775807 then (some (t109 ++ (strOfNums y110))) else (none))))))) = some r := h
 clear h
 by_cases c2 : a0 < (-9223372036854775807)
 ·rw [if_pos c2] at H
  have c2b0 : decide (a0 < (-9223372036854775807)) = true := decide_eq_true c2
  clear c2
  obtain rfl := Option.some.inj H
  go_enter Try.func125, Try.ntmps125
  go_wp2
  go_ret
  exact ⟨by first | rfl | (simp [errW_none, errW_some] <;> rfl) | (simp [*, errW_none, errW_some] <;> rfl), by exact bU HB.out⟩
 ·rw [if_neg c2] at H
  have c2b0 : decide (a0 < (-9223372036854775807)) = false := decide_eq_false c2
  clear c2
  by_cases c3 : a0 < 0
  ·rw [if_pos c3] at H
   have c3b0 : decide (a0 < 0) = true := decide_eq_true c3
   clear c3
   replace H := Option.bind_eq_some_iff.mp H
   obtain ⟨t105, A40, H⟩ := H
   replace H : (if 1 + t105.size ≤ 9223372036854775807 then (some ((⟨#[45]⟩ : ByteArray) ++ t105)) else (none)) = some r := H
   have A4 := Aside0.mk A40
   clear A40
   by_cases c5 : 1 + t105.size ≤ 9223372036854775807
   ·rw [if_pos c5] at H
    have c5b0 := eq_true c5
    have c5b1 : decide (1 + t105.size ≤ 9223372036854775807) = true := decide_eq_true c5
    try have c5b2 : (9223372036854775807 < 1 + t105.size) = False := eq_false (Nat.not_lt.2 c5)
    obtain rfl := Option.some.inj H
    go_enter Try.func125, Try.ntmps125
    go_wp2_with (first | ((with_reducible refine gate_callee (f := 125) rfl ?_); refine goesL_ (some 9) rfl rfl Try.func125 (by kernel_rfl) rfl #[.int .i64 (wrap64 (-a0))] rfl (by (try simp only [List.map_toArray, List.map_cons, List.map_nil]) <;> rfl) ?_; (with_reducible refine (ih k (by omega) (wrap64 (-a0)) t105 _ A4.out).mono ?_); rintro e w6 ⟨rfl, hb⟩; refine ⟨_, rfl, ?_⟩; replace HB := Aside0.mk (below_step (by exact bU HB.out) hb); (try clear hb); (try clear hb2); (try clear hk); (try clear hi)))
    go_ret
    exact ⟨by first | rfl | (simp [errW_none, errW_some] <;> rfl) | (simp [*, errW_none, errW_some] <;> rfl), by exact bU HB.out⟩
   ·rw [if_neg c5] at H
    exact absurd H (by simp)
  ·rw [if_neg c3] at H
   have c3b0 : decide (a0 < 0) = false := decide_eq_false c3
   clear c3
   by_cases c7 : a0 < 10
   ·rw [if_pos c7] at H
    have c7b0 : decide (a0 < 10) = true := decide_eq_true c7
    clear c7
    obtain ⟨y106, hy106⟩ : ∃ y_ : List Int, y_ = (([(wrap64 (48 + a0)) % 256] : List Int)) := ⟨_, rfl⟩
    replace H : (some (strOfNums y106)) = some r := by first | (rw [hy106]; with_reducible exact H) | (have H2_ := (Option.bind_some _ _).symm.trans H; rw [hy106]; with_reducible exact H2_) | (have H2_ := (Option.bind_some _ _).symm.trans H; with_reducible exact H2_) | with_reducible exact H | (rw [hy106]; exact H) | exact H
    have Ny106 := Aside0.mk hy106
    clear hy106
    obtain rfl := Option.some.inj H
    go_enter Try.func125, Try.ntmps125
    go_wp2_with (first | ((with_reducible refine gate_dst (N := 16) rfl ?_); refine Kd.R_lit (Kd.int .u8) _ 5 ?hg (N := 16) ?hd (xs := ([(wrap64 (48 + a0)) % 256] : List Int)) (inner := [.int .u8 ((wrap64 (48 + a0)) % 256)]) (ok := fun _ => True) (okp := fun _ => True) ?hr ?hp (fun _ hk => hk) trivial (Below.refl _ _) (Nat.le_refl _) (by simp) ?_; (case hd => rfl); (case hg => rfl); (case hr => first | (go_simp; done) | (go_simp; rfl)); (case hp => exact (Reps.one (show Kd.M (Kd.int .u8) _ _ _ ((wrap64 (48 + a0)) % 256) [.int .u8 ((wrap64 (48 + a0)) % 256)] from rfl) (Reps.none _ _))); intro v107 w8 ho9 hb hg_ hnew_; clear hg_ hnew_; (first | rw [← Ny106.out] at ho9 | (simp only [Int.reduceToNat] at ho9; rw [← Ny106.out] at ho9)); have HO108 := Aside0.mk (Kd.R_lower ho9 (below_size (by exact bU HB.out))); replace HB := Aside0.mk (below_step (by exact bU HB.out) hb); clear hb ho9; have hcv10 := own_string (P := Try.prog) Try.underlying36 Try.underlying5 Try.underlying9 (Kd.own_of_R HO108.out)))
    go_ret
    exact ⟨by first | rfl | (simp [errW_none, errW_some] <;> rfl) | (simp [*, errW_none, errW_some] <;> rfl), by exact bU HB.out⟩
   ·rw [if_neg c7] at H
    have c7b0 : decide (a0 < 10) = false := decide_eq_false c7
    clear c7
    replace H := Option.bind_eq_some_iff.mp H
    obtain ⟨t109, A110, H⟩ := H
    replace H : ((some (([(wrap64 (48 + (Int.tmod a0 10))) % 256] : List Int) : List Int)).bind fun y110 => (if t109.size + (strOfNums y110).size ≤ 9223372036854775807 then (some (t109 ++ (strOfNums y110))) else (none))) = some r := H
    have A11 := Aside0.mk A110
    clear A110
    obtain ⟨y110, hy110⟩ : ∃ y_ : List Int, y_ = (([(wrap64 (48 + (Int.tmod a0 10))) % 256] : List Int)) := ⟨_, rfl⟩
    replace H : (if t109.size + (strOfNums y110).size ≤ 9223372036854775807 then (some (t109 ++ (strOfNums y110))) else (none)) = some r := by first | (rw [hy110]; with_reducible exact H) | (have H2_ := (Option.bind_some _ _).symm.trans H; rw [hy110]; with_reducible exact H2_) | (have H2_ := (Option.bind_some _ _).symm.trans H; with_reducible exact H2_) | with_reducible exact H | (rw [hy110]; exact H) | exact H
    have Ny110 := Aside0.mk hy110
    clear hy110
    by_cases c12 : t109.size + (strOfNums y110).size ≤ 9223372036854775807
    ·rw [if_pos c12] at H
     have c12b0 := eq_true c12
     have c12b1 : decide (t109.size + (strOfNums y110).size ≤ 9223372036854775807) = true := decide_eq_true c12
     try have c12b2 : (9223372036854775807 < t109.size + (strOfNums y110).size) = False := eq_false (Nat.not_lt.2 c12)
     obtain rfl := Option.some.inj H
     go_enter Try.func125, Try.ntmps125
     try go_wp2
     have n0_ := Aside0.mk (below_drew1 HB.out)
     clear HB
     have HB := n0_
     clear n0_
     refine start_ (n := 11) (S := fun w' => True) (ds := []) #[false, false, false, false, false, false, false, false, false, false, false] (by kernel_rfl) rfl rfl trivial (fun hHeld => ?_); refine with_tabW spec_l6Dec.tab7 spec_l6Dec.bits7 (fun HT_ HW_ => ?_)
     generalize w.drew = w13 at HB hHeld ⊢
     refine pure_ (i := 0) (N := some 18) (v := ?_) (a' := ?_) #[true, false, false, false, false, false, false, false, false, false, false] rfl rfl (any_of HT_.out (by kernel_rfl)) (fun _ _ _ h => h) (Or.inl ⟨by rfl, ?_⟩) ?_ ?_
     rotate_left
     ·intro w'
      go_simp
      with_reducible rfl
     rotate_left
     ·simp only [Act.put, List.setIfInBounds_toArray, List.set_cons_zero, List.set_cons_succ, i64_w, i32_w]
      rfl
     refine pure_ (i := 1) (N := some 19) (v := ?_) (a' := ?_) #[true, true, false, false, false, false, false, false, false, false, false] rfl rfl (any_of HT_.out (by kernel_rfl)) (fun _ _ _ h => h) (Or.inl ⟨by rfl, ?_⟩) ?_ ?_
     rotate_left
     ·intro w'
      go_simp
      with_reducible rfl
     rotate_left
     ·simp only [Act.put, List.setIfInBounds_toArray, List.set_cons_zero, List.set_cons_succ, i64_w, i32_w]
      rfl
     refine pure_ (i := 3) (N := some 21) (v := ?_) (a' := ?_) #[true, true, false, true, false, false, false, false, false, false, false] rfl rfl (any_of HT_.out (by kernel_rfl)) (fun _ _ _ h => h) (Or.inl ⟨by rfl, ?_⟩) ?_ ?_
     rotate_left
     ·intro w'
      go_simp
      with_reducible rfl
     rotate_left
     ·simp only [Act.put, List.setIfInBounds_toArray, List.set_cons_zero, List.set_cons_succ, i64_w, i32_w]
      rfl
     refine pure_ (i := 4) (N := some 22) (v := ?_) (a' := ?_) #[true, true, false, true, true, false, false, false, false, false, false] rfl rfl (any_of HT_.out (by kernel_rfl)) (fun _ _ _ h => h) (Or.inl ⟨by rfl, ?_⟩) ?_ ?_
     rotate_left
     ·intro w'
      go_simp
      with_reducible rfl
     rotate_left
     ·simp only [Act.put, List.setIfInBounds_toArray, List.set_cons_zero, List.set_cons_succ, i64_w, i32_w]
      rfl
     refine pure_ (i := 5) (N := some 23) (v := ?_) (a' := ?_) #[true, true, false, true, true, true, false, false, false, false, false] rfl rfl (any_of HT_.out (by kernel_rfl)) (fun _ _ _ h => h) (Or.inl ⟨by rfl, ?_⟩) ?_ ?_
     rotate_left
     ·intro w'
      go_simp
      with_reducible rfl
     rotate_left
     ·simp only [Act.put, List.setIfInBounds_toArray, List.set_cons_zero, List.set_cons_succ, i64_w, i32_w]
      rfl
     refine pure_ (i := 6) (N := some 24) (v := ?_) (a' := ?_) #[true, true, false, true, true, true, true, false, false, false, false] rfl rfl (any_of HT_.out (by kernel_rfl)) (fun _ _ _ h => h) (Or.inl ⟨by rfl, ?_⟩) ?_ ?_
     rotate_left
     ·intro w'
      go_simp
      with_reducible rfl
     rotate_left
     ·simp only [Act.put, List.setIfInBounds_toArray, List.set_cons_zero, List.set_cons_succ, i64_w, i32_w]
      rfl
     refine join_ (σ := Value) 2 #[true, true, true, true, true, true, true, true, true, false, false] (fun s_ => [(20, .string t109), (25, s_), (26, .string (strOfNums y110))]) (fun s_ w' => (Kd.R (Kd.int .u8) 5 w' w.heap.size (fun _ => True) s_ y110) ∧ (Below w.heap.size w w')) ?_ ?_
     rotate_left
     ·intro hCont
      refine two_ (i := 2) (j := 7) (Ni := some 20) (Nj := some 25) #[true, true, true, true, true, true, true, false, false, false, false] #[true, true, false, true, true, true, true, true, false, false, false] rfl rfl rfl rfl (two_of HT_.out (by kernel_rfl)) (by decide) (by decide) (fun K hK => ?_) (fun K hK => ?_)
      ·skip
       refine goes_ Try.func125 (by kernel_rfl) rfl #[.int .i64 (wrap64 (Int.tdiv a0 10))] (by rfl) rfl rfl (by (try simp only [List.map_toArray, List.map_cons, List.map_nil]) <;> rfl) ?_
       with_reducible refine (ih k (by omega) (wrap64 (Int.tdiv a0 10)) t109 _ A11.out).mono ?_
       rintro e w14 ⟨rfl, hb⟩
       refine ⟨_, rfl, ?_⟩
       have n0_ := Aside0.mk (below_step (by exact bU HB.out) hb)
       clear HB
       have HB := n0_
       clear n0_
       (try clear hb)
       (try clear hb2)
       (try clear hk)
       (try clear hi)
       refine hK.out _ _ trivial (fun hHeld => ?_)
       clear hK K
       refine norm_ (a' := ?_) ?_ ?_
       rotate_left
       ·show Act.put _ (some 20) _ = _
        simp only [Act.put, List.setIfInBounds_toArray, List.set_cons_zero, List.set_cons_succ, i64_w, i32_w]
        rfl
       refine one_ (i := 7) (N := some 25) #[true, true, true, true, true, true, true, true, false, false, false] rfl rfl (one_of HT_.out (by kernel_rfl)) (by decide) (fun K hK => ?_)
       refine Kd.R_lit_step (Kd.int .u8) _ 5 ?hg (N := 25) ?hd (xs := ([(wrap64 (48 + (Int.tmod a0 10))) % 256] : List Int)) (inner := [.int .u8 ((wrap64 (48 + (Int.tmod a0 10))) % 256)]) (ok := fun _ => True) (okp := fun _ => True) ?hr ?hp (fun _ hk => hk) trivial (Below.refl _ _) (Nat.le_refl _) (by simp) ?_; (case hd => rfl); (case hg => rfl); (case hr => first | (go_simp; done) | (go_simp; rfl)); (case hp => exact (Reps.one (show Kd.M (Kd.int .u8) _ _ _ ((wrap64 (48 + (Int.tmod a0 10))) % 256) [.int .u8 ((wrap64 (48 + (Int.tmod a0 10))) % 256)] from rfl) (Reps.none _ _)))
       intro v111 w15 ho16 hb hg_ hnew_
       clear hg_ hnew_
       (first | rw [← Ny110.out] at ho16 | (simp only [Int.reduceToNat] at ho16; rw [← Ny110.out] at ho16))
       have n0_ := Aside0.mk (Kd.R_lower ho16 (below_size (by exact bU HB.out)))
       have n1_ := Aside0.mk (below_step (by exact bU HB.out) hb)
       clear HB
       have HO112 := n0_
       have HB := n1_
       clear n0_ n1_ hb ho16
       refine hK.out _ _ trivial (fun hHeld => ?_)
       clear hK K
       refine norm_ (a' := ?_) ?_ ?_
       rotate_left
       ·show Act.put _ (some 25) _ = _
        simp only [Act.put, List.setIfInBounds_toArray, List.set_cons_zero, List.set_cons_succ, i64_w, i32_w]
        rfl
       refine one_ (i := 8) (N := some 26) #[true, true, true, true, true, true, true, true, true, false, false] rfl rfl (one_of HT_.out (by kernel_rfl)) (by decide) (fun K hK => ?_)
       have hcv17 := own_string (P := Try.prog) Try.underlying36 Try.underlying5 Try.underlying9 (Kd.own_of_R HO112.out)
       refine value_ (w1 := ?_) (v := ?_) (by rfl) rfl ?_ ?_
       rotate_left 2
       ·go_simp
        constructor
        ·rfl
        ·rfl
       clear hcv17
       refine hK.out _ _ trivial (fun hHeld => ?_)
       clear hK K
       refine norm_ (a' := ?_) ?_ ?_
       rotate_left
       ·show Act.put _ (some 26) _ = _
        simp only [Act.put, List.setIfInBounds_toArray, List.set_cons_zero, List.set_cons_succ, i64_w, i32_w]
        rfl
       exact norm_ (by simp only [putAll, Act.put, List.setIfInBounds_toArray, List.set_cons_zero, List.set_cons_succ]) (hCont (v111) _ ⟨(by exact rU HO112.out), (by exact bU HB.out)⟩)
      ·skip
       refine Kd.R_lit_step (Kd.int .u8) _ 5 ?hg (N := 25) ?hd (xs := ([(wrap64 (48 + (Int.tmod a0 10))) % 256] : List Int)) (inner := [.int .u8 ((wrap64 (48 + (Int.tmod a0 10))) % 256)]) (ok := fun _ => True) (okp := fun _ => True) ?hr ?hp (fun _ hk => hk) trivial (Below.refl _ _) (Nat.le_refl _) (by simp) ?_; (case hd => rfl); (case hg => rfl); (case hr => first | (go_simp; done) | (go_simp; rfl)); (case hp => exact (Reps.one (show Kd.M (Kd.int .u8) _ _ _ ((wrap64 (48 + (Int.tmod a0 10))) % 256) [.int .u8 ((wrap64 (48 + (Int.tmod a0 10))) % 256)] from rfl) (Reps.none _ _)))
       intro v111 w14 ho15 hb hg_ hnew_
       clear hg_ hnew_
       (first | rw [← Ny110.out] at ho15 | (simp only [Int.reduceToNat] at ho15; rw [← Ny110.out] at ho15))
       have n0_ := Aside0.mk (Kd.R_lower ho15 (below_size (by exact bU HB.out)))
       have n1_ := Aside0.mk (below_step (by exact bU HB.out) hb)
       clear HB
       have HO112 := n0_
       have HB := n1_
       clear n0_ n1_ hb ho15
       refine hK.out _ _ trivial (fun hHeld => ?_)
       clear hK K
       refine norm_ (a' := ?_) ?_ ?_
       rotate_left
       ·show Act.put _ (some 25) _ = _
        simp only [Act.put, List.setIfInBounds_toArray, List.set_cons_zero, List.set_cons_succ, i64_w, i32_w]
        rfl
       refine two_ (i := 2) (j := 8) (Ni := some 20) (Nj := some 26) #[true, true, true, true, true, true, true, true, false, false, false] #[true, true, false, true, true, true, true, true, true, false, false] rfl rfl rfl rfl (two_of HT_.out (by kernel_rfl)) (by decide) (by decide) (fun K hK => ?_) (fun K hK => ?_)
       ·skip
        refine goes_ Try.func125 (by kernel_rfl) rfl #[.int .i64 (wrap64 (Int.tdiv a0 10))] (by rfl) rfl rfl (by (try simp only [List.map_toArray, List.map_cons, List.map_nil]) <;> rfl) ?_
        with_reducible refine (ih k (by omega) (wrap64 (Int.tdiv a0 10)) t109 _ A11.out).mono ?_
        rintro e w16 ⟨rfl, hb⟩
        refine ⟨_, rfl, ?_⟩
        have n0_ := Aside0.mk (Kd.R_below (by exact rU HO112.out) hb)
        have n1_ := Aside0.mk (below_step (by exact bU HB.out) hb)
        clear HO112 HB
        have HO112 := n0_
        have HB := n1_
        clear n0_ n1_
        (try clear hb)
        (try clear hb2)
        (try clear hk)
        (try clear hi)
        refine hK.out _ _ trivial (fun hHeld => ?_)
        clear hK K
        refine norm_ (a' := ?_) ?_ ?_
        rotate_left
        ·show Act.put _ (some 20) _ = _
         simp only [Act.put, List.setIfInBounds_toArray, List.set_cons_zero, List.set_cons_succ, i64_w, i32_w]
         rfl
        refine one_ (i := 8) (N := some 26) #[true, true, true, true, true, true, true, true, true, false, false] rfl rfl (one_of HT_.out (by kernel_rfl)) (by decide) (fun K hK => ?_)
        have hcv17 := own_string (P := Try.prog) Try.underlying36 Try.underlying5 Try.underlying9 (Kd.own_of_R HO112.out)
        refine value_ (w1 := ?_) (v := ?_) (by rfl) rfl ?_ ?_
        rotate_left 2
        ·go_simp
         constructor
         ·rfl
         ·rfl
        clear hcv17
        refine hK.out _ _ trivial (fun hHeld => ?_)
        clear hK K
        refine norm_ (a' := ?_) ?_ ?_
        rotate_left
        ·show Act.put _ (some 26) _ = _
         simp only [Act.put, List.setIfInBounds_toArray, List.set_cons_zero, List.set_cons_succ, i64_w, i32_w]
         rfl
        exact norm_ (by simp only [putAll, Act.put, List.setIfInBounds_toArray, List.set_cons_zero, List.set_cons_succ]) (hCont (v111) _ ⟨(by exact rU HO112.out), (by exact bU HB.out)⟩)
       ·skip
        have hcv16 := own_string (P := Try.prog) Try.underlying36 Try.underlying5 Try.underlying9 (Kd.own_of_R HO112.out)
        refine value_ (w1 := ?_) (v := ?_) (by rfl) rfl ?_ ?_
        rotate_left 2
        ·go_simp
         constructor
         ·rfl
         ·rfl
        clear hcv16
        refine hK.out _ _ trivial (fun hHeld => ?_)
        clear hK K
        refine norm_ (a' := ?_) ?_ ?_
        rotate_left
        ·show Act.put _ (some 26) _ = _
         simp only [Act.put, List.setIfInBounds_toArray, List.set_cons_zero, List.set_cons_succ, i64_w, i32_w]
         rfl
        refine one_ (i := 2) (N := some 20) #[true, true, true, true, true, true, true, true, true, false, false] rfl rfl (one_of HT_.out (by kernel_rfl)) (by decide) (fun K hK => ?_)
        refine goes_ Try.func125 (by kernel_rfl) rfl #[.int .i64 (wrap64 (Int.tdiv a0 10))] (by rfl) rfl rfl (by (try simp only [List.map_toArray, List.map_cons, List.map_nil]) <;> rfl) ?_
        with_reducible refine (ih k (by omega) (wrap64 (Int.tdiv a0 10)) t109 _ A11.out).mono ?_
        rintro e w17 ⟨rfl, hb⟩
        refine ⟨_, rfl, ?_⟩
        have n0_ := Aside0.mk (Kd.R_below (by exact rU HO112.out) hb)
        have n1_ := Aside0.mk (below_step (by exact bU HB.out) hb)
        clear HO112 HB
        have HO112 := n0_
        have HB := n1_
        clear n0_ n1_
        (try clear hb)
        (try clear hb2)
        (try clear hk)
        (try clear hi)
        refine hK.out _ _ trivial (fun hHeld => ?_)
        clear hK K
        refine norm_ (a' := ?_) ?_ ?_
        rotate_left
        ·show Act.put _ (some 20) _ = _
         simp only [Act.put, List.setIfInBounds_toArray, List.set_cons_zero, List.set_cons_succ, i64_w, i32_w]
         rfl
        exact norm_ (by simp only [putAll, Act.put, List.setIfInBounds_toArray, List.set_cons_zero, List.set_cons_succ]) (hCont (v111) _ ⟨(by exact rU HO112.out), (by exact bU HB.out)⟩)
     rintro v111 w18 ⟨h0_, h1_⟩
     have n0_ : Aside0 (Kd.R (Kd.int .u8) 5 w18 w.heap.size (fun _ => True) v111 y110) := ⟨h0_⟩
     have n1_ : Aside0 (Below w.heap.size w w18) := ⟨h1_⟩
     clear HB h0_ h1_
     have HO112 := n0_
     have HB := n1_
     clear n0_ n1_
     have hHeld := trivial
     refine norm_ (a' := ?_) ?_ ?_
     rotate_left
     ·simp only [putAll, Act.put, List.setIfInBounds_toArray, List.set_cons_zero, List.set_cons_succ]
      rfl
     refine pure_ (i := 9) (N := some 27) (v := ?_) (a' := ?_) #[true, true, true, true, true, true, true, true, true, true, false] rfl rfl (any_of HT_.out (by kernel_rfl)) (fun _ _ _ h => h) (Or.inl ⟨by rfl, ?_⟩) ?_ ?_
     rotate_left
     ·intro w'
      go_simp
      with_reducible rfl
     rotate_left
     ·simp only [Act.put, List.setIfInBounds_toArray, List.set_cons_zero, List.set_cons_succ, i64_w, i32_w]
      rfl
     refine pure_ (i := 10) (N := some 2) (v := ?_) (a' := ?_) #[true, true, true, true, true, true, true, true, true, true, true] rfl rfl (any_of HT_.out (by kernel_rfl)) (fun _ _ _ h => h) (Or.inl ⟨by rfl, ?_⟩) ?_ ?_
     rotate_left
     ·intro w'
      go_simp
      with_reducible rfl
     rotate_left
     ·simp only [Act.put, List.setIfInBounds_toArray, List.set_cons_zero, List.set_cons_succ, i64_w, i32_w]
      rfl
     refine done_ (done_of HT_.out (by kernel_rfl)) ?_
     try go_wp2
     go_ret
     exact ⟨by first | rfl | (simp [errW_none, errW_some] <;> rfl) | (simp [*, errW_none, errW_some] <;> rfl), by exact bU HB.out⟩
    ·rw [if_neg c12] at H
     exact absurd H (by simp)
end Go.Proofs.Ytmklpbmlgjkbiaa.PO
end
